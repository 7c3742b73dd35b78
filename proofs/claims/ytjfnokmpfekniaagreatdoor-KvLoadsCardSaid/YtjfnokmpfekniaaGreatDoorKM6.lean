/-
  Texts of the proof, put together: LdH, LdI, LdJ, LdK, LtA, LrB, LtB, LtD, LsB, LsC, LsD, PN, PO, LkA, LkB, LkC, LkD, LkE, LkF, LsE, LsF, LsG, LsH, LwLoads.
-/
import Derived.Test.YtjfnokmpfekniaaGreatDoorKM5
import Derived.Sort.Walk0
namespace Go.Proofs.YtjfnokmpfekniaaGreatDoor
open Go
set_option linter.unusedVariables false
set_option linter.unusedSimpArgs false
theorem Qh (b:Bool):∀(n:Nat) (s t u:Af),s.length=n→CC b s=some (t,u)→∃p,s=p++34::u:=by
 intro n
 induction n using Nat.strongRecOn with
 | ind n ih=>
  intro s t u hn h
  cases s with
  | nil=>cases h
  | cons c r=>
   simp only[Aef] at hn;rw[DJ] at h
   cases h1:decide (c=34) with
   | true=>
    rw[h1] at h;cases h;simp only[Aed] at h1;exact⟨[],by rw[h1];rfl⟩
   | false=>
    rw[h1] at h;simp only[Aeh] at h
    cases h2:(b&&!KO c) with
    | true=>rw[h2] at h;cases h
    | false=>
     rw[h2] at h;simp only[Aeh] at h
     cases h3:decide (c=92) with
     | true=>
      rw[h3] at h
      cases r with
      | nil=>cases h
      | cons d r'=>
       simp only[Aek] at h
       cases h4:(decide (d=34)||decide (d=92)) with
       | false=>rw[h4] at h;cases h
       | true=>
        rw[h4] at h;simp only[Aek] at h
        cases h5:CC b r' with
        | none=>rw[h5] at h;cases h
        | some q=>
         obtain⟨t',u'⟩:=q;rw[h5] at h;cases h;simp only[Aef] at hn;obtain⟨p,e⟩:=ih r'.length (by omega) r' t' u rfl h5;exact⟨c::d::p,by rw[e];rfl⟩
     | false=>
      rw[h3] at h;simp only[Aeh] at h
      cases h5:CC b r with
      | none=>rw[h5] at h;cases h
      | some q=>
       obtain⟨t',u'⟩:=q;rw[h5] at h;cases h;obtain⟨p,e⟩:=ih r.length (by omega) r t' u rfl h5;exact⟨c::p,by rw[e];rfl⟩
theorem Th {b m:Bool}{last key:Option Af}{s u:Af}(h:DS b m last s=some (key,u)):∃p,s=p++u:=by
 unfold DS at h
 cases m with
 | false=>cases h;exact⟨[],rfl⟩
 | true=>
  simp only[Aek] at h
  cases s with
  | nil=>cases h
  | cons c r=>
   simp only at h
   cases h1:decide (c=34) with
   | false=>rw[h1] at h;cases h
   | true=>
    rw[h1] at h;simp only[Aek] at h
    cases h2:CC b r with
    | none=>rw[h2] at h;cases h
    | some q=>
     obtain⟨k,w⟩:=q;obtain⟨p,e⟩:=Qh b _ r k w rfl h2;rw[h2] at h;simp only at h
     cases h3:(b&&!B6 true last (some k)) with
     | true=>rw[h3] at h;cases h
     | false=>
      rw[h3] at h;simp only[Aeh] at h
      cases w with
      | nil=>cases h
      | cons d w'=>
       simp only at h
       cases h4:decide (d=58) with
       | false=>rw[h4] at h;cases h
       | true=>
        rw[h4] at h;cases h;exact⟨c::(p++[34,d]),by rw[e];simp⟩
theorem SC (b:Bool):∀F:Nat,(∀s f u,Gq b F s=some (f,u)→∃p c,s=p++c::u∧c≠44)∧(∀m last s g u,D6 b F m last s=some (g,u)→∃p,s=p++Bl m::u)
 | 0=>⟨(λs f u h=>by rw[Gq.eq_def] at h;cases h),(λm last s g u h=>by rw[D6.eq_def] at h;cases h)⟩
 | F+1=>by
  obtain⟨ih1,ih2⟩:=SC b F;have hcl:∀m,Bl m≠44:=λm=>by cases m<;>decide
  constructor
  ·intro s f u h;rw[DM] at h
   cases h1:pre [110,117,108,108] s with
   | some r=>rw[h1] at h;cases h;exact⟨[110,117,108],108,by have e:=Ds h1;exact e,by decide⟩
   | none=>
   rw[h1] at h;simp only at h
   cases h2:pre [116,114,117,101] s with
   | some r=>rw[h2] at h;cases h;exact⟨[116,114,117],101,by have e:=Ds h2;exact e,by decide⟩
   | none=>
   rw[h2] at h;simp only at h
   cases h3:pre [102,97,108,115,101] s with
   | some r=>rw[h3] at h;cases h;exact⟨[102,97,108,115],101,by have e:=Ds h3;exact e,by decide⟩
   | none=>
   rw[h3] at h;simp only at h
   cases s with
   | nil=>cases h
   | cons c r=>
   simp only at h
   cases h4:decide (c=34) with
   | true=>
    rw[h4] at h;simp only[Aek] at h
    cases h5:CC b r with
    | none=>rw[h5] at h;cases h
    | some q=>
     obtain⟨t,w⟩:=q;rw[h5] at h;cases h;obtain⟨p,e⟩:=Qh b _ r t u rfl h5;exact⟨c::p,34,by rw[e];rfl,by decide⟩
   | false=>
   rw[h4] at h;simp only[Aeh] at h
   cases h5:(decide (c=91)||decide (c=123)) with
   | false=>
    rw[h5] at h;simp only[Aeh] at h;unfold HM at h;simp only at h;have hsr:∃p,c::r=p++(bif decide ((c::r).head? =some 45) then(c::r).tail else c::r):=by
     cases decide ((c::r).head? =some 45) with
     | true=>exact⟨[c],rfl⟩
     | false=>exact⟨[],rfl⟩
    generalize(bif decide ((c::r).head? =some 45) then(c::r).tail else c::r)=r2 at h hsr
    cases hc:Ea (decide ((c::r).head? =some 45)) (BV r2).1 with
    | false=>rw[hc] at h;cases h
    | true=>
     rw[hc] at h;simp only[Aek,Option.some.injEq,Prod.mk.injEq] at h;obtain⟨_,h⟩:=h;obtain⟨p,e⟩:=hsr;have hne:(BV r2).1≠[]:=by
      intro e';rw[e'] at hc
      cases decide ((c::r).head? =some 45)<;>cases hc
     have hd:=Jv r2;have hl:=List.dropLast_concat_getLast hne;have hlast:Ce ((BV r2).1.getLast hne)=true:=List.all_eq_true.1 hd _ (List.getLast_mem hne);refine⟨p++(BV r2).1.dropLast,(BV r2).1.getLast hne,?_,λe'=>by rw[e'] at hlast;cases hlast⟩;rw[e,← h]
     conv=>lhs;rw[I8 r2,← hl]
     simp
   | true=>
   rw[h5] at h;simp only[Aek] at h
   cases r with
   | nil=>cases h
   | cons d r'=>
   simp only at h
   cases h6:decide (d=Bl (decide (c=123))) with
   | true=>
    rw[h6] at h;cases h;simp only[Aed] at h6;exact⟨[c],d,rfl,by rw[h6];exact hcl _⟩
   | false=>
   rw[h6] at h;simp only[Aeh] at h
   cases h7:D6 b F (decide (c=123)) none (d::r') with
   | none=>rw[h7] at h;cases h
   | some q=>
    obtain⟨g,w⟩:=q;rw[h7] at h;cases h;obtain⟨p,e⟩:=ih2 _ _ _ _ _ h7;exact⟨c::p,_,by rw[e];rfl,hcl _⟩
  ·intro m last s g u h;rw[Dz] at h
   cases h1:DS b m last s with
   | none=>rw[h1] at h;cases h
   | some q=>
   obtain⟨key,s1⟩:=q;obtain⟨p1,e1⟩:=Th h1;rw[h1] at h;simp only at h
   cases h2:Gq b F s1 with
   | none=>rw[h2] at h;cases h
   | some q=>
   obtain⟨f,s2⟩:=q;obtain⟨p2,c2,e2,_⟩:=ih1 _ _ _ h2;rw[h2] at h;simp only at h
   cases s2 with
   | nil=>cases h
   | cons c s3=>
   simp only at h
   cases h3:decide (c=Bl m) with
   | true=>
    rw[h3] at h;cases h;simp only[Aed] at h3;exact⟨p1++p2++[c2],by rw[e1,e2,h3];simp⟩
   | false=>
   rw[h3] at h;simp only[Aeh] at h
   cases h4:decide (c=44) with
   | false=>rw[h4] at h;cases h
   | true=>
   rw[h4] at h;simp only[Aek] at h
   cases h5:D6 b F m key s3 with
   | none=>rw[h5] at h;cases h
   | some q=>
    obtain⟨g',w⟩:=q;rw[h5] at h;cases h;obtain⟨p3,e3⟩:=ih2 _ _ _ _ _ h5;exact⟨p1++p2++[c2,c]++p3,by rw[e1,e2,e3];simp⟩
def rMB (cl:Af)(F:Nat)(s:Af)(hh:Af→Int→Option ((List Aa)×Int))(hg:(List Aa))(hb:Int)(ha:Aa):Option (Stp ((List Aa)×Int×Aa) (Out ((List Aa)×Int) ((List Aa)×Int×Aa))):=
 AQ ((B2 s hb cl).isSome)<|AQ (imp (!(!(ov (B2 s hb cl)))) (imp (decide (0<ha.fN)) (Bs .i64 (hb-1))))<|AQ (imp (!(!(ov (B2 s hb cl)))) (imp (decide (0<ha.fN)) (Cw (hb-1) (s.length:Int))))<|Bi (((!(ov (B2 s hb cl)))||((decide (0<ha.fN))&&(decide ((AM s (hb-1))=44))))) (Bi (decide (ha.fKind=6)) (Br (Dv F s hb) λhd=>AQ (imp (!(decide (hd.2<0))) ((B2 s hd.2 ([58]:Af)).isSome))<|Bi (((decide (hd.2<0))||(!(ov (B2 s hd.2 ([58]:Af)))))) (some (.out (.ret (([]:List Aa),(-1))))) (AQ (Dw 40 (hg.length+([(Aa.mk 4 0 hd.1 0)]:List Aa).length))<|AQ (Bs .i64 (hd.2+1))<|Br (hh s (hd.2+1)) λhe=>Bi (decide (he.2<0)) (some (.out (.ret (([]:List Aa),(-1))))) (AQ (Dw 40 ((hg++([(Aa.mk 4 0 hd.1 0)]:List Aa)).length+he.1.length))<|AQ (Bs .i64 (ha.fN+1))<|Br (B2 s he.2 ([44]:Af)) λhi=>Bi (hi) (AQ (Bs .i64 (he.2+1))<|some (.next ((hg++([(Aa.mk 4 0 hd.1 0)]:List Aa))++he.1,he.2+1,(Aa.mk ha.fKind ha.fInt ha.fStr (ha.fN+1))))) (Br (B2 s he.2 cl) λhj=>Bi (!hj) (some (.out (.ret (([]:List Aa),(-1))))) (some (.next ((hg++([(Aa.mk 4 0 hd.1 0)]:List Aa))++he.1,he.2,(Aa.mk ha.fKind ha.fInt ha.fStr (ha.fN+1))))))))) (Br (hh s hb) λhf=>Bi (decide (hf.2<0)) (some (.out (.ret (([]:List Aa),(-1))))) (AQ (Dw 40 (hg.length+hf.1.length))<|AQ (Bs .i64 (ha.fN+1))<|Br (B2 s hf.2 ([44]:Af)) λhk=>Bi (hk) (AQ (Bs .i64 (hf.2+1))<|some (.next (hg++hf.1,hf.2+1,(Aa.mk ha.fKind ha.fInt ha.fStr (ha.fN+1))))) (Br (B2 s hf.2 cl) λhl=>Bi (!hl) (some (.out (.ret (([]:List Aa),(-1))))) (some (.next (hg++hf.1,hf.2,(Aa.mk ha.fKind ha.fInt ha.fStr (ha.fN+1))))))))) (some (.out (.go (hg,hb,ha))))
def ROk (F P:Nat)(S u:Af):Prop:=
 (∃f w,Gq false P u=some (f,w)∧Em w S∧H4 F S ((S.length:Int)-u.length)=some (f.flat,(S.length:Int)-w.length))∨(Gq false P u=none∧∃v,H4 F S ((S.length:Int)-u.length)=some (v,-1))
abbrev RLB (m:Bool)(F:Nat)(S:Af)(G:Nat):List Aa×Int×Aa→Option (Stp (List Aa×Int×Aa) (Out (List Aa×Int) (List Aa×Int×Aa))):=λσ=>rMB [Bl m] F S (H4 G) σ.1 σ.2.1 σ.2.2
def hd (m:Bool)(N:Int):Aa:=⟨bif m then 6 else 5,0,[],N⟩
theorem Abw (m:Bool)(N:Int):decide ((hd m N).fKind=6)=m:=by cases m<;>rfl
theorem Wi {m:Bool}{F G P:Nat}{S u:Af}{out:List Aa}{N:Int}(hS:S.length≤100000)(hs:Em u S)(hF:S.length<F)(hN0:0≤N)(hN:N≤200000)(ho:out.length+u.length≤S.length)(hA:(pre [Bl m] u).isSome=false∨(0<N∧Em (44::u) S))
  (hR:∀w,Em w S→w.length≤u.length→ROk G P S w) :
  (∃v,RLB m F S G (out,(S.length:Int)-u.length,hd m N)=some (.out (.ret (v,-1)))∧(DS false m none u=none∨∃key s1,DS false m none u=some (key,s1)∧(Gq false P s1=none∨∃f s2,Gq false P s1=some (f,s2)∧∀c s3,s2=c::s3→decide (c=Bl m)=false∧decide (c=44)=false)))∨
  ∃key s1 f s2,DS false m none u=some (key,s1)∧Gq false P s1=some (f,s2)∧Em s2 S∧((∃s3,s2=Bl m::s3∧RLB m F S G (out,(S.length:Int)-u.length,hd m N)=some (.next (out++(B4 key++f.flat),(S.length:Int)-s2.length,hd m (N+1))))∨(∃s3,s2=44::s3∧RLB m F S G (out,(S.length:Int)-u.length,hd m N)=some (.next (out++(B4 key++f.flat),(S.length:Int)-s3.length,hd m (N+1))))):=by
 have hsl:=hs.len;have hb0:RLB m F S G (out,(S.length:Int)-u.length,hd m N)=rMB [Bl m] F S (H4 G) out ((S.length:Int)-u.length) (hd m N):=rfl;have hst:=Dg (w:=[Bl m]) hS (by simp) hs;have htest:rMB [Bl m] F S (H4 G) out ((S.length:Int)-u.length) (hd m N)=Bi m (Br (Dv F S ((S.length:Int)-u.length)) λha=>AQ (imp (!(decide (ha.2<0))) ((B2 S ha.2 ([58]:Af)).isSome))<|Bi (((decide (ha.2<0))||(!(ov (B2 S ha.2 ([58]:Af)))))) (some (.out (.ret (([]:List Aa),(-1))))) (AQ (Dw 40 (out.length+([(Aa.mk 4 0 ha.1 0)]:List Aa).length))<|AQ (Bs .i64 (ha.2+1))<|Br (H4 G S (ha.2+1)) λhb=>Bi (decide (hb.2<0)) (some (.out (.ret (([]:List Aa),(-1))))) (AQ (Dw 40 ((out++([(Aa.mk 4 0 ha.1 0)]:List Aa)).length+hb.1.length))<|AQ (Bs .i64 (N+1))<|Br (B2 S hb.2 ([44]:Af)) λhi=>Bi (hi) (AQ (Bs .i64 (hb.2+1))<|some (.next ((out++([(Aa.mk 4 0 ha.1 0)]:List Aa))++hb.1,hb.2+1,hd m (N+1)))) (Br (B2 S hb.2 [Bl m]) λhj=>Bi (!hj) (some (.out (.ret (([]:List Aa),(-1))))) (some (.next ((out++([(Aa.mk 4 0 ha.1 0)]:List Aa))++hb.1,hb.2,hd m (N+1)))))))) (Br (H4 G S ((S.length:Int)-u.length)) λhe=>Bi (decide (he.2<0)) (some (.out (.ret (([]:List Aa),(-1))))) (AQ (Dw 40 (out.length+he.1.length))<|AQ (Bs .i64 (N+1))<|Br (B2 S he.2 ([44]:Af)) λhk=>Bi (hk) (AQ (Bs .i64 (he.2+1))<|some (.next (out++he.1,he.2+1,hd m (N+1)))) (Br (B2 S he.2 [Bl m]) λhl=>Bi (!hl) (some (.out (.ret (([]:List Aa),(-1))))) (some (.next (out++he.1,he.2,hd m (N+1))))))):=by
  unfold rMB;rw[hst,B7 (p:=(some (pre [Bl m] u).isSome).isSome) rfl,Hd,Abw];rcases hA with h0 | ⟨hp,hc⟩
  ·rw[h0,B7 (p:=imp (!(!false)) _) rfl,B7 (p:=imp (!(!false)) _) rfl,AC (p:=!false||_) rfl];rfl
  ·have hcl:=hc.len;simp only[Aef] at hcl;have hm:AM S ((S.length:Int)-u.length-1)=44:=by
    have:=DC hc.get;rw[Aef] at this;rw[show(S.length:Int)-u.length-1=(S.length:Int)-((u.length+1:Nat):Int) from by omega];exact this
   have hN':decide (0<(hd m N).fN)=true:=Aei hp;rw[hN',hm,Hm (by omega) (by omega),Li (by omega) (by omega),B7 (p:=imp _ (imp true true)) (by cases(pre [Bl m] u).isSome<;>rfl),B7 (p:=imp _ (imp true true)) (by cases(pre [Bl m] u).isSome<;>rfl),AC (p:=_||(true&&decide ((44:Int)=44))) (by cases(pre [Bl m] u).isSome<;>rfl)];rfl
 rw[hb0,htest];have hh:∀s2:Af,(pre [44] s2).isSome=match s2 with | []=>false | c::_=>decide (c=44):=λs2=>by
  rw[JB]
  cases s2 with
  | nil=>rfl
  | cons c s3=>simp only;cases decide (c=44)<;>rfl
 have pcl:∀s2:Af,(pre [Bl m] s2).isSome=match s2 with | []=>false | c::_=>decide (c=Bl m):=λs2=>by
  rw[JB]
  cases s2 with
  | nil=>rfl
  | cons c s3=>simp only;cases decide (c=Bl m)<;>rfl
 have hcl44:decide (Bl m=44)=false:=by cases m<;>rfl
 cases m with
 | false=>
  rw[A2 rfl];have hkp:DS false false none u=some (none,u):=rfl;rcases hR u hs (AeA _) with⟨f,s2,q1,q2,q3⟩ | ⟨q1,v,q2⟩
  ·have hfl:=(E8 false P).1 _ _ _ q1;have h2l:=q2.len;rw[q3,AI rfl,A2 (Aeg (by simp only;omega)),Ld (by simp only;omega),A4 (by omega) (by omega),Dg hS (by simp) q2,AI rfl,hh]
   cases s2 with
   | nil=>
    rw[A2 rfl,Dg hS (by simp) q2,AI rfl,pcl];exact .inl ⟨[],rfl,.inr ⟨none,u,hkp,.inr ⟨f,[],q1,λc s3 e=>by cases e⟩⟩⟩
   | cons c s3=>
    simp only
    cases hf:decide (c=44) with
    | true=>
     simp only[Aed] at hf;subst hf;simp only[Aef] at h2l;rw[AC rfl,A4 (by simp only[Aef];omega) (by simp only[Aef];omega)];refine .inr ⟨none,u,f,_,hkp,q1,q2,.inr ⟨s3,rfl,?_⟩⟩;simp only[Aef,B4,AeE]
     congr 4
     omega
    | false=>
     rw[A2 rfl,Dg hS (by simp) q2,AI rfl,pcl];simp only
     cases hcc:decide (c=Bl false) with
     | true=>
      simp only[Aed] at hcc;subst hcc;exact .inr ⟨none,u,f,_,hkp,q1,q2,.inl ⟨s3,rfl,rfl⟩⟩
     | false=>exact .inl ⟨[],rfl,.inr ⟨none,u,hkp,.inr ⟨f,_,q1,λc' s3' e=>by cases e;exact⟨hcc,hf⟩⟩⟩⟩
  ·rw[q2,AI rfl];exact .inl ⟨[],rfl,.inr ⟨none,u,hkp,.inl q1⟩⟩
 | true=>
  rw[AC rfl];rcases Kl hS hs hF with⟨r,t,w,e1,e2,e3,e4⟩ | ⟨e1,e2⟩
  ·have hwl:=e3.len;have hwl2:=IY false _ r t w rfl e2;subst e1;have hul:(34::r).length=r.length+1:=rfl;rw[e4,AI rfl];have hkc:DS false true none (34::r)=AbA t w:=by rw[M0,e2];rfl
   have hlt:decide ((S.length:Int)-w.length<0)=false:=Aeg (by omega);simp only;rw[hlt,Dg hS (by simp) e3,B7 (p:=imp (!false) (some (pre [58] w).isSome).isSome) rfl,Hd,JB]
   cases w with
   | nil=>exact .inl ⟨[],rfl,.inl (by rw[hkc];rfl)⟩
   | cons d s1=>
    simp only
    cases hg:decide (d=58) with
    | false=>
     refine .inl ⟨[],rfl,.inl ?_⟩;rw[hkc];show(bif decide (d=58) then _ else none)=none;rw[hg];rfl
    | true=>
     simp only[Aed] at hg;subst hg;have hkp:DS false true none (34::r)=some (some t,s1):=hkc;simp only[Aef] at hwl hwl2;have hpos:(S.length:Int)-(58::s1).length+1=S.length-s1.length:=by rw[Aef];omega
     simp only[Aek];rw[A2 (p:=false||!(some s1).isSome) rfl,Ld (by rw[AeC];omega),hpos,A4 (by omega) (by omega)];rcases hR s1 e3.tail (by omega) with⟨f,s2,q1,q2,q3⟩ | ⟨q1,v,q2⟩
     ·have hfl:=(E8 false P).1 _ _ _ q1;have h2l:=q2.len;rw[q3,AI rfl,A2 (Aeg (by simp only;omega)),Ld (by simp only[Aen,AeC];omega),A4 (by omega) (by omega),Dg hS (by simp) q2,AI rfl,hh]
      cases s2 with
      | nil=>
       rw[A2 rfl,Dg hS (by simp) q2,AI rfl,pcl];exact .inl ⟨[],rfl,.inr ⟨some t,s1,hkp,.inr ⟨f,[],q1,λc s3 e=>by cases e⟩⟩⟩
      | cons c s3=>
       simp only
       cases hf:decide (c=44) with
       | true=>
        simp only[Aed] at hf;subst hf;simp only[Aef] at h2l;rw[AC rfl,A4 (by simp only[Aef];omega) (by simp only[Aef];omega)];refine .inr ⟨some t,s1,f,_,hkp,q1,q2,.inr ⟨s3,rfl,?_⟩⟩;simp only[Aef,B4,Ae5]
        congr 4
        omega
       | false=>
        rw[A2 rfl,Dg hS (by simp) q2,AI rfl,pcl];simp only
        cases hcc:decide (c=Bl true) with
        | true=>
         simp only[Aed] at hcc;subst hcc;exact .inr ⟨some t,s1,f,_,hkp,q1,q2,.inl ⟨s3,rfl,by rw[Ae5];rfl⟩⟩
        | false=>exact .inl ⟨[],rfl,.inr ⟨some t,s1,hkp,.inr ⟨f,_,q1,λc' s3' e=>by cases e;exact⟨hcc,hf⟩⟩⟩⟩
     ·rw[q2,AI rfl];exact .inl ⟨[],rfl,.inr ⟨some t,s1,hkp,.inl q1⟩⟩
  ·rw[e2,AI rfl];refine .inl ⟨[],?_,.inl (Vq _ _ e1)⟩;rfl
theorem WP (m:Bool)(last:Option Af)(s:Af):DS false m last s=DS false m none s:=by
 cases m with
 | false=>rfl
 | true=>
  cases s with
  | nil=>rfl
  | cons c r=>
   by_cases hc:c=34
   ·subst hc;rw[M0,M0]
    cases CC false r with
    | none=>rfl
    | some q=>rfl
   ·show(bif decide (c=34) then _ else none)=(bif decide (c=34) then _ else none);rw[Aeg hc];rfl
theorem Qp {m:Bool}{F G:Nat}{S w:Af}{out:List Aa}{N:Int}(hS:S.length≤100000)(hs:Em (Bl m::w) S)(hN0:0≤N)(h:N=0∨∃c,c≠44∧Em (c::Bl m::w) S) :
  RLB m F S G (out,(S.length:Int)-(Bl m::w).length,hd m N)=some (.out (.go (out,(S.length:Int)-(Bl m::w).length,hd m N))):=by
 have hb0:RLB m F S G (out,(S.length:Int)-(Bl m::w).length,hd m N)=rMB [Bl m] F S (H4 G) out ((S.length:Int)-(Bl m::w).length) (hd m N):=rfl;rw[hb0];have hsl:=hs.len;have hp:pre [Bl m] (Bl m::w)=some w:=by rw[JB];simp
 unfold rMB;rw[Dg hS (by simp) hs,hp,B7 (p:=(some (some w).isSome).isSome) rfl,Hd];rcases h with h0 | ⟨c,hc,hcs⟩
 ·subst h0;have e:decide (0<(hd m 0).fN)=false:=rfl;rw[e];rfl
 ·have hcl:=hcs.len;simp only[Aef] at hcl hsl;have hbt:AM S ((S.length:Int)-(Bl m::w).length-1)=c.toNat:=by
   have:=DC hcs.get;rw[Aef] at this;rw[show(S.length:Int)-(Bl m::w).length-1=(S.length:Int)-(((Bl m::w).length+1:Nat):Int) from by omega];exact this
  have ha:decide ((c.toNat:Int)=44)=false:=Aeg (λe=>hc (by rw[← AeX];show c.toNat=44;omega));have i1:Bs .i64 ((S.length:Int)-(Bl m::w).length-1)=true:=Hm (by simp only[Aef];omega) (by simp only[Aef];omega);have i2:Cw ((S.length:Int)-(Bl m::w).length-1) (S.length:Int)=true:=Li (by simp only[Aef];omega) (by omega);rw[i1,i2,hbt,ha]
  cases decide (0<(hd m N).fN)<;>rfl
def RLk (P:Nat)(m:Bool)(last:Option Af)(S u:Af)(out:List Aa)(N:Int)(o:Out (List Aa×Int) (List Aa×Int×Aa)):Prop:=
 (∃G w,D6 false P m last u=some (G,w)∧Em (Bl m::w) S∧o = .go (out++G.flat,(S.length:Int)-(Bl m::w).length,hd m (N+(G.cnt:Int))))∨(D6 false P m last u=none∧∃v,o = .ret (v,-1))
theorem Adl {S:Af}(hS:S.length≤100000):∀n:Nat,
  (∀(F P:Nat) (u:Af),u.length=n→Em u S→S.length+2*n+5<F→2*n+2≤P→ROk F P S u)∧
  (∀(m:Bool) (F G P L:Nat) (u:Af) (last:Option Af) (out:List Aa) (N:Int),u.length=n→Em u S→S.length<F→S.length+2*n+5<G→2*n+3≤P→n+1<L→out.length+n≤S.length→0≤N→N+n≤S.length+1→((pre [Bl m] u).isSome=false∨(0<N∧Em (44::u) S))→
   ∃o,BJ (RLB m F S G) L (out,(S.length:Int)-u.length,hd m N)=some o∧RLk P m last S u out N o):=by
 intro n
 induction n using Nat.strongRecOn with
 | ind n ih=>
 have hV:∀(F P:Nat) (u:Af),u.length=n→Em u S→S.length+2*n+5<F→2*n+2≤P→ROk F P S u:=by
  intro F P u hn hs hF hP;obtain⟨F,rfl⟩:∃K,F=K+1:=⟨F-1,by omega⟩
  obtain⟨P,rfl⟩:∃K,P=K+1:=⟨P-1,by omega⟩
  have hsl:=hs.len;unfold ROk;rw[H4];unfold QX;rw[DM];have word:∀(w:Af) (k:Nat) (r:Af),pre w u=some r→w.length=k→Em r S∧(S.length:Int)-u.length+k=S.length-r.length:=λw k r hp hk=>by
   have e:=Ds hp;have hl:u.length=w.length+r.length:=by rw[e];simp
   refine⟨?_,by omega⟩;rw[e] at hs;exact hs.app
  by_cases hu:u=[]
  ·subst hu;rw[AC (Aei (by simp))];exact .inr ⟨rfl,[],rfl⟩
  have hne:0<u.length:=List.length_pos_iff.2 hu;rw[A2 (Aeg (by omega)),Dg hS (by decide) hs,AI rfl]
  cases h1:pre [110,117,108,108] u with
  | some r=>
   obtain⟨hr,hp⟩:=word _ 4 r h1 rfl;have hp:(S.length:Int)-u.length+4=S.length-r.length:=hp;rw[AC (p:=(some r).isSome) rfl,hp];refine .inl ⟨_,r,rfl,hr,?_⟩;show(Br (Su) λr9=>AQ (Bs .i64 ((S.length:Int)-r.length))<|some (r9,(S.length:Int)-r.length))=_;unfold Su;rw[AI rfl,A4 (by omega) (by omega)];rfl
  | none=>
  rw[A2 (p:=(none:Option Af).isSome) rfl,Dg hS (by decide) hs,AI rfl];simp only
  cases h2:pre [116,114,117,101] u with
  | some r=>
   obtain⟨hr,hp⟩:=word _ 4 r h2 rfl;have hp:(S.length:Int)-u.length+4=S.length-r.length:=hp;rw[AC (p:=(some r).isSome) rfl,hp];refine .inl ⟨_,r,rfl,hr,?_⟩;show(Br (NA true) λr9=>AQ (Bs .i64 ((S.length:Int)-r.length))<|some (r9,(S.length:Int)-r.length))=_;rw[show NA true=some [⟨2,1,[],0⟩] from rfl,AI rfl,A4 (by omega) (by omega)];rfl
  | none=>
  rw[A2 (p:=(none:Option Af).isSome) rfl,Dg hS (by decide) hs,AI rfl];simp only
  cases h3:pre [102,97,108,115,101] u with
  | some r=>
   obtain⟨hr,hp⟩:=word _ 5 r h3 rfl;have hp:(S.length:Int)-u.length+5=S.length-r.length:=hp;rw[AC (p:=(some r).isSome) rfl,hp];refine .inl ⟨_,r,rfl,hr,?_⟩;show(Br (NA false) λr9=>AQ (Bs .i64 ((S.length:Int)-r.length))<|some (r9,(S.length:Int)-r.length))=_;rw[show NA false=some [⟨2,0,[],0⟩] from rfl,AI rfl,A4 (by omega) (by omega)];rfl
  | none=>
  rw[A2 (p:=(none:Option Af).isSome) rfl];simp only
  cases u with
  | nil=>exact absurd rfl hu
  | cons c r=>
  have hbt:AM S ((S.length:Int)-(c::r).length)=c.toNat:=DC hs.get;have hpos:(S.length:Int)-(c::r).length+1=S.length-r.length:=by rw[Aef];omega
  simp only[Aef] at hn hsl;have hlt:(S.length:Int)-(c::r).length<S.length:=by rw[Aef];omega
  have h0:0≤(S.length:Int)-(c::r).length:=by rw[Aef];omega
  rw[AW h0 hlt,hbt,Q9];simp only
  cases he:decide (c=34) with
  | true=>
   rw[AC rfl];simp only[Aed] at he;subst he;simp only[Aek];rcases Kl hS hs (F:=F) (by omega) with⟨r',t,w,e1,e2,e3,e4⟩ | ⟨e1,e2⟩
   ·cases e1
    rw[e4,e2,AI rfl];exact .inl ⟨_,w,rfl,e3,rfl⟩
   ·rw[e2,e1 r rfl,AI rfl];exact .inr ⟨rfl,_,rfl⟩
  | false=>
  rw[A2 rfl];simp only[Aeh];have hi:decide ((c.toNat:Int)=91)=decide (c=91):=by
   rw[Aev,decide_eq_true_iff,decide_eq_true_iff,← AeX];show _↔c.toNat=91;omega
  have hh:decide ((c.toNat:Int)=123)=decide (c=123):=by
   rw[Aev,decide_eq_true_iff,decide_eq_true_iff,← AeX];show _↔c.toNat=123;omega
  rw[hi,hh]
  cases hb:(decide (c=91)||decide (c=123)) with
  | false=>
   rw[A2 rfl];simp only[Aeh];rcases Sr (F:=F) hS hs (by omega) with⟨f,w,e1,e2,e3⟩ | ⟨e1,e2⟩
   ·rw[e3,AI rfl];exact .inl ⟨f,w,e1,e2,rfl⟩
   ·rw[e2,AI rfl];exact .inr ⟨e1,_,rfl⟩
  | true=>
  rw[AC rfl];simp only[Aek];obtain⟨F,rfl⟩:∃K,F=K+1:=⟨F-1,by omega⟩
  have hmany:∀m:Bool,decide (c=123)=m→(∃f w,PE false P m r=some (f,w)∧Em w S∧DU (F+1) S ((S.length:Int)-(c::r).length)=some (f.flat,(S.length:Int)-w.length))∨(PE false P m r=none∧∃v,DU (F+1) S ((S.length:Int)-(c::r).length)=some (v,-1)):=λm hm=>by
   have hrun:DU (F+1) S ((S.length:Int)-(c::r).length)=Br (BJ (RLB m F S F) F ([],(S.length:Int)-r.length,hd m 0)) (BE λν=>(AQ (Dw 40 (([ν.2.2]:List Aa).length+ν.1.length))<|AQ (Bs .i64 (ν.2.1+1))<|some (([ν.2.2]:List Aa)++ν.1,ν.2.1+1))):=by
    rw[DU];unfold J8;rw[AW h0 hlt,hbt,hh,hm,hpos]
    cases m with
    | true=>rw[AC rfl,A4 (by omega) (by omega)];rfl
    | false=>rw[A2 rfl,A4 (by omega) (by omega)];rfl
   have hend:∀(g:Fo) (w:Af) (o:Out (List Aa×Int) (List Aa×Int×Aa)),Em (Bl m::w) S→g.flat.length≤200000→o = .go ([]++g.flat,(S.length:Int)-(Bl m::w).length,hd m (0+(g.cnt:Int)))→BE (λν:List Aa×Int×Aa=>(AQ (Dw 40 (([ν.2.2]:List Aa).length+ν.1.length))<|AQ (Bs .i64 (ν.2.1+1))<|some (([ν.2.2]:List Aa)++ν.1,ν.2.1+1))) o=some ((nd m g).flat,(S.length:Int)-w.length):=λg w o hsw hgl ho=>by
    have hwl:=hsw.len;simp only[Aef] at hwl;rw[ho,CU,JE _ _ I9,AeE];simp only;rw[Ld (by rw[AeC];omega),show(S.length:Int)-(Bl m::w).length+1=S.length-w.length from by rw[Aef];omega,A4 (by omega) (by omega),Int.zero_add];rfl
   rw[hrun]
   by_cases hcl:∃w,r=Bl m::w
   ·obtain⟨w,rfl⟩:=hcl;obtain⟨F',rfl⟩:∃K,F=K+1:=⟨F-1,by omega⟩
    have hg:=Qp (F:=F'+1) (G:=F'+1) (out:=[]) (N:=0) hS hs.tail (Ae8 0) (.inl rfl);rw[AI (Dn hg)];refine .inl ⟨nd m .nil,w,?_,hs.tail.tail,?_⟩
    ·rw[Ic,Aei rfl];rfl
    ·exact hend .nil w _ hs.tail (AeL _) rfl
   ·have hA:(pre [Bl m] r).isSome=false:=by
     rw[JB]
     cases r with
     | nil=>rfl
     | cons d r'=>
      simp only
      by_cases hd':d=Bl m
      ·exact absurd ⟨r',by rw[hd']⟩ hcl
      ·rw[Aeg hd'];rfl
    obtain⟨o,ho1,ho2⟩:=(ih r.length (by omega)).2 m F F P F r none [] 0 rfl hs.tail (by omega) (by omega) (by omega) (by omega) (by simp;omega) (Ae8 0) (by omega) (.inl hA);rw[AI ho1];have hbk:PE false P m r=match D6 false P m none r with
      | none=>none
      | some (g,u)=>some (nd m g,u):=by
     cases r with
     | nil=>
      have:D6 false P m none []=none:=by
       cases hp:D6 false P m none [] with
       | none=>rfl
       | some q=>obtain⟨g,u⟩:=q;exact absurd ((Eg false P).2 _ _ _ _ _ hp).1 (by simp)
      rw[this];rfl
     | cons d r'=>
      rw[Ic]
      by_cases hd':d=Bl m
      ·exact absurd ⟨r',by rw[hd']⟩ hcl
      ·rw[Aeg hd'];rfl
    rw[hbk];rcases ho2 with⟨g,w,q1,q2,q3⟩ | ⟨q1,v,q2⟩
    ·rw[q1];have hgl:=(E8 false P).2 _ _ _ _ _ q1;exact .inl ⟨_,w,rfl,q2.tail,hend g w o q2 (by omega) q3⟩
    ·rw[q1,q2];exact .inr ⟨rfl,v,rfl⟩
  have hgoal:(∃f w,PE false P (decide (c=123)) r=some (f,w)∧Em w S∧(Br (DU (F+1) S ((S.length:Int)-(c::r).length)) λha=>some (ha.1,ha.2))=some (f.flat,(S.length:Int)-w.length))∨(PE false P (decide (c=123)) r=none∧∃v,(Br (DU (F+1) S ((S.length:Int)-(c::r).length)) λha=>some (ha.1,ha.2))=some (v,-1)):=by
   rcases hmany (decide (c=123)) rfl with⟨f,w,q1,q2,q3⟩ | ⟨q1,v,q2⟩
   ·rw[q3,AI rfl];exact .inl ⟨f,w,q1,q2,rfl⟩
   ·rw[q2,AI rfl];exact .inr ⟨q1,v,rfl⟩
  cases r with
  | nil=>exact hgoal
  | cons d r'=>exact hgoal
 refine⟨hV,?_⟩;intro m F G P L u last out N hn hs hF hG hP hL hb hN0 hN hA;obtain⟨P,rfl⟩:∃K,P=K+1:=⟨P-1,by omega⟩
 obtain⟨L,rfl⟩:∃K,L=K+1:=⟨L-1,by omega⟩
 have hsl:=hs.len;have hR:∀w,Em w S→w.length≤u.length→ROk G P S w:=λw hw hwl=>by
  rcases Nat.lt_or_eq_of_le hwl with h | h
  ·exact(ih w.length (by omega)).1 G P w rfl hw (by omega) (by omega)
  ·exact hV G P w (by omega) hw (by omega) (by omega)
 unfold RLk;rw[Dz,WP];rcases Wi (P:=P) (N:=N) (out:=out) hS hs hF hN0 (by omega) (by omega) hA hR with⟨v,hb1,hf⟩ | ⟨key,s1,f,s2,k1,k2,k3,h⟩
 ·refine⟨_,Dn hb1,.inr ⟨?_,v,rfl⟩⟩;rcases hf with hf | ⟨key,s1,hk,hf | ⟨f,s2,hf,hno⟩⟩
  ·rw[hf]
  ·rw[hk];simp only[hf]
  ·rw[hk];simp only[hf]
   cases s2 with
   | nil=>rfl
   | cons c s3=>
    obtain⟨a,b⟩:=hno c s3 rfl;simp only[a,b,Aeh]
 ·obtain⟨l1,ho⟩:=(Eg false P).1 _ _ _ k2;have l2:=(E8 false P).1 _ _ _ k2;have l3:=Q4 k1;rw[k1];simp only[k2];rcases h with⟨s3,e,hb1⟩ | ⟨s3,e,hb1⟩
  ·subst e;obtain⟨L,rfl⟩:∃K,L=K+1:=⟨L-1,by omega⟩
   obtain⟨pp,c,e,hc⟩:=(SC false P).1 _ _ _ k2;obtain⟨p1,e1⟩:=Th k1;have hcs:Em (c::Bl m::s3) S:=by
    obtain⟨q,e2⟩:=hs;exact⟨q++p1++pp,by rw[e2,e1,e];simp⟩
   have hg:=Qp (F:=F) (G:=G) (out:=out++(B4 key++f.flat)) (N:=N+1) hS k3 (by omega) (.inr ⟨c,hc,hcs⟩);refine⟨_,GL hb1 (Dn hg),.inl ⟨f.put key .nil,s3,?_,k3,?_⟩⟩
   ·simp only[decide_true,Aek]
   ·rw[E7 ho,Oh ho];simp only[Fo.flat,Fo.cnt,AeF]
    congr 4
  ·subst e;have hj:decide ((44:UInt8)=Bl m)=false:=by cases m<;>rfl
   simp only[Aef] at l1 l2;obtain⟨o,ho1,ho2⟩:=(ih s3.length (by omega)).2 m F G P L s3 key (out++(B4 key++f.flat)) (N+1) rfl k3.tail hF (by omega) (by omega) (by omega) (by rw[Aen,Aen];omega) (by omega) (by omega) (.inr ⟨by omega,k3⟩);refine⟨o,GL hb1 ho1,?_⟩;simp only[hj,Aeh,decide_true,Aek];rcases ho2 with⟨g,w,q1,q2,q3⟩ | ⟨q1,v,q2⟩
   ·rw[q1];refine .inl ⟨f.put key g,w,rfl,q2,?_⟩;rw[q3,E7 ho,Oh ho];simp only[Ae5]
    congr 4
    omega
   ·rw[q1];exact .inr ⟨rfl,v,q2⟩
theorem Yk {S:Af}(hS:S.length≤100000){F P:Nat}(hF:3*S.length+6≤F)(hP:2*S.length+2≤P):ROk F P S S:=
 (Adl hS S.length).1 F P S rfl ⟨[],rfl⟩ (by omega) hP
theorem Sf:∀(n:Nat) (s:Af),s.length=n→CC true s=match CC false s with
  | none=>none
  | some (t,u)=>bif t.all KO then some (t,u) else none:=by
 intro n
 induction n using Nat.strongRecOn with
 | ind n ih=>
  intro s hn
  cases s with
  | nil=>rfl
  | cons c r=>
   simp only[Aef] at hn;rw[DJ,DJ]
   cases h1:decide (c=34) with
   | true=>rfl
   | false=>
    simp only[Aeh,Aer,Ae1]
    cases h3:decide (c=92) with
    | true=>
     have hc:KO c=true:=by simp only[Aed] at h3;subst h3;rfl
     rw[hc]
     cases r with
     | nil=>rfl
     | cons d r'=>
      simp only[Aes,Aeh,Aek];simp only[Aef] at hn
      cases h4:(decide (d=34)||decide (d=92)) with
      | false=>rfl
      | true=>
       have hd:KO d=true:=by
        simp only[AeG,Aed] at h4;rcases h4 with e | e<;>subst e<;>rfl
       simp only[Aek];rw[ih r'.length (by omega) r' rfl]
       cases CC false r' with
       | none=>rfl
       | some q=>
        obtain⟨t,u⟩:=q;simp only[AeN,hd,Aer]
        cases t.all KO<;>rfl
    | false=>
     simp only[Aeh];rw[ih r.length (by omega) r rfl]
     cases hc:KO c with
     | false=>
      simp only[Ae0,Aek]
      cases CC false r with
      | none=>rfl
      | some q=>obtain⟨t,u⟩:=q;simp[hc]
     | true=>
      simp only[Aes,Aeh]
      cases CC false r with
      | none=>rfl
      | some q=>
       obtain⟨t,u⟩:=q;simp only[AeN,hc,Aer]
       cases t.all KO<;>rfl
theorem Zb (m:Bool)(last:Option Af)(s:Af):DS true m last s=match DS false m none s with
  | none=>none
  | some (k,u)=>bif B6 m last k then some (k,u) else none:=by
 cases m with
 | false=>rfl
 | true=>
  cases s with
  | nil=>rfl
  | cons c r=>
   unfold DS;simp only[Aek,Aer,Ae1,Aeh]
   cases hc:decide (c=34) with
   | false=>rfl
   | true=>
    simp only[Aek];rw[Sf _ r rfl]
    cases CC false r with
    | none=>rfl
    | some q=>
     obtain⟨t,u⟩:=q;simp only
     cases ht:t.all KO with
     | false=>
      have hk:B6 true last (some t)=false:=by simp[B6,ht]
      simp only[Aeh]
      cases u with
      | nil=>rfl
      | cons d u'=>
       simp only
       cases decide (d=58) with
       | false=>rfl
       | true=>simp only[Aek,hk];rfl
     | true=>
      simp only[Aek]
      cases u with
      | nil=>cases B6 true last (some t)<;>rfl
      | cons d u'=>
       simp only
       cases decide (d=58) with
       | false=>cases B6 true last (some t)<;>rfl
       | true=>cases hk:B6 true last (some t)<;>simp[hk]
def plr (c:Aa):Bool:=bif decide (c.fKind=4) then decide (c.fInt=0)&&decide (c.fN=0) else pl c
def Fo.rw:Bool→Fo→Bool
 | _,.nil=>true
 | m,.cell k c r=>(k.isSome ==m)&&plr c&&!decide (0<c.fN)&&r.rw m
 | m,.node k c kids r=>(k.isSome ==m)&&plr c&&decide (0<c.fN)&&decide (c.fN=kids.cnt)&&kids.rw (decide (c.fKind=6))&&r.rw m
theorem UY {m:Bool}{last k:Option Af}{r:List Aa}(h:(k.isSome ==m)=true):Ji m last (B4 k++r)=bif B6 m last k then some (k,r) else none:=by
 cases hk:B6 m last k with
 | true=>exact Rf hk
 | false=>
  cases k with
  | none=>
   have hm:m=false:=by cases m<;>simp_all
   subst hm
   cases hk
  | some s=>
   have hm:m=true:=by cases m<;>simp_all
   subst hm;show(bif pl ⟨4,0,s,0⟩&&decide ((4:Int)=4)&&B6 true last (some s) then _ else none)=_;rw[hk,Ae3];rfl
theorem Oj:∀(f:Fo) (m:Bool) (last:Option Af) (ys:List Aa),f.rw m=true→NP m last f.cnt (f.flat++ys)=bif f.wf m last then some (f,ys) else none
 | .nil,_,_,_,_=>rfl
 | .cell k c r,m,last,ys,hw=>by
  simp only[Fo.rw,Aej,Aex] at hw;obtain⟨⟨⟨w1,w2⟩,w3⟩,w4⟩:=hw;simp only[Fo.cnt,Fo.flat,Ae5,AeO];rw[G2,UY w1];simp only[Fo.wf,w3,Ae0,Ae2]
  cases B6 m last k with
  | false=>rfl
  | true=>
   simp only[Aek,GT,w3,Aeh,Aer]
   cases hp:pl c with
   | false=>rfl
   | true=>
    simp only[Aes,Aeh,Oj r m k ys w4,Aer]
    cases r.wf m k<;>rfl
 | .node k c kids r,m,last,ys,hw=>by
  simp only[Fo.rw,Aej,Aed] at hw;obtain⟨⟨⟨⟨⟨w1,w2⟩,w3⟩,w5⟩,w6⟩,w4⟩:=hw;simp only[Fo.cnt,Fo.flat,Ae5,AeO];rw[G2,UY w1];have e:c.fN.toNat=kids.cnt:=by omega
  have w5':decide (c.fN=kids.cnt)=true:=Aei w5;simp only[Fo.wf,Aei w3,w5',Ae2]
  cases B6 m last k with
  | false=>rfl
  | true=>
   simp only[Aek,GT,Aei w3,Aer]
   cases hp:pl c with
   | false=>rfl
   | true=>
    simp only[Aes,Aeh,e,Oj kids _ none (r.flat++ys) w6,Aer]
    cases kids.wf (decide (c.fKind=6)) none with
    | false=>rfl
    | true=>
     simp only[Aek,Oj r m k ys w4,Aer]
     cases r.wf m k<;>rfl
theorem Yu {f:Fo}(h:f.one=true)(m:Bool)(last key:Option Af)(r:Fo):(f.put key r).wf m last=(B6 m last key&&f.wf false none&&r.wf m key):=by
 cases f with
 | nil=>cases h
 | cell k c r'=>
  cases k with
  | some _=>cases h
  | none=>cases r' with
   | nil=>simp[Fo.put,Fo.wf,B6,Bool.and_assoc]
   | cell _ _ _=>cases h
   | node _ _ _ _=>cases h
 | node k c kids r'=>
  cases k with
  | some _=>cases h
  | none=>cases r' with
   | nil=>simp[Fo.put,Fo.wf,B6,Bool.and_assoc]
   | cell _ _ _=>cases h
   | node _ _ _ _=>cases h
theorem Yv {f:Fo}(h:f.one=true)(m:Bool)(key:Option Af)(r:Fo):(f.put key r).rw m=((key.isSome ==m)&&f.rw false&&r.rw m):=by
 cases f with
 | nil=>cases h
 | cell k c r'=>
  cases k with
  | some _=>cases h
  | none=>cases r' with
   | nil=>simp[Fo.put,Fo.rw,Bool.and_assoc]
   | cell _ _ _=>cases h
   | node _ _ _ _=>cases h
 | node k c kids r'=>
  cases k with
  | some _=>cases h
  | none=>cases r' with
   | nil=>simp[Fo.put,Fo.rw,Bool.and_assoc]
   | cell _ _ _=>cases h
   | node _ _ _ _=>cases h
theorem Vj (m:Bool)(g:Fo):(nd m g).wf false none=g.wf m none∧(nd m g).rw false=g.rw m:=by
 unfold nd
 cases hd:decide (g.cnt=0) with
 | true=>
  simp only[Aed] at hd;rw[I9 hd]
  cases m<;>exact⟨rfl,rfl⟩
 | false=>
  simp only[Aee] at hd;have h1:decide ((0:Int)<(g.cnt:Int))=true:=Aei (by omega);have h2:decide ((0:Int)≤(g.cnt:Int))=true:=Aei (by omega)
  cases m<;>simp[Fo.wf,Fo.rw,B6,pl,plr]<;>omega
theorem WO {m:Bool}{last k:Option Af}{s u:Af}{b:Bool}(h:DS b m last s=some (k,u)):(k.isSome ==m)=true:=by
 unfold DS at h
 cases m with
 | false=>cases h;rfl
 | true=>
  simp only[Aek] at h
  cases s with
  | nil=>cases h
  | cons c r=>
   simp only at h
   cases h1:decide (c=34) with
   | false=>rw[h1] at h;cases h
   | true=>
    rw[h1] at h;simp only[Aek] at h
    cases h2:CC b r with
    | none=>rw[h2] at h;cases h
    | some q=>
     obtain⟨t,w⟩:=q;rw[h2] at h;simp only at h
     cases h3:(b&&!B6 true last (some t)) with
     | true=>rw[h3] at h;cases h
     | false=>
      rw[h3] at h;simp only[Aeh] at h
      cases w with
      | nil=>cases h
      | cons d w'=>
       simp only at h
       cases h4:decide (d=58) with
       | false=>rw[h4] at h;cases h
       | true=>rw[h4] at h;cases h;rfl
theorem Om:∀F:Nat,(∀s,Gq true F s=(match Gq false F s with
   | none=>none
   | some (f,u)=>bif f.wf false none then some (f,u) else none)∧∀f u,Gq false F s=some (f,u)→f.rw false=true)∧
  (∀m last last' s,D6 true F m last s=(match D6 false F m last' s with
   | none=>none
   | some (g,u)=>bif g.wf m last then some (g,u) else none)∧∀g u,D6 false F m last' s=some (g,u)→g.rw m=true)
 | 0=>⟨λs=>⟨by rw[Gq.eq_def,Gq.eq_def],(λf u h=>by rw[Gq.eq_def] at h;cases h)⟩,λm last last' s=>⟨by rw[D6.eq_def,D6.eq_def],(λg u h=>by rw[D6.eq_def] at h;cases h)⟩⟩
 | F+1=>by
  obtain⟨ih1,ih2⟩:=Om F;have lfw:∀k i t,pl ⟨k,i,t,0⟩=true→(lf k i t).wf false none=true:=λk i t h=>by simp[lf,Fo.wf,B6,h]
  have lfr:∀k i t,plr ⟨k,i,t,0⟩=true→(lf k i t).rw false=true:=λk i t h=>by simp[lf,Fo.rw,h]
  constructor
  ·intro s;rw[DM,DM]
   cases h1:pre [110,117,108,108] s with
   | some r=>exact⟨rfl,λf u h=>by cases h;rfl⟩
   | none=>
   simp only
   cases h2:pre [116,114,117,101] s with
   | some r=>exact⟨rfl,λf u h=>by cases h;rfl⟩
   | none=>
   simp only
   cases h3:pre [102,97,108,115,101] s with
   | some r=>exact⟨rfl,λf u h=>by cases h;rfl⟩
   | none=>
   simp only
   cases s with
   | nil=>exact⟨rfl,λf u h=>by cases h⟩
   | cons c r=>
   simp only
   cases h4:decide (c=34) with
   | true=>
    simp only[Aek];rw[Sf _ r rfl]
    cases hq:CC false r with
    | none=>exact⟨rfl,λf u h=>by cases h⟩
    | some q=>
     obtain⟨t,u⟩:=q;simp only;have e:(lf 4 0 t).wf false none=t.all KO:=by simp[lf,Fo.wf,B6,pl]
     rw[e];refine⟨by cases t.all KO<;>rfl,λf u' h=>by cases h;exact lfr 4 0 t rfl⟩
   | false=>
   simp only[Aeh]
   cases h5:(decide (c=91)||decide (c=123)) with
   | false=>
    simp only[Aeh]
    cases hi:HM (c::r) with
    | none=>exact⟨rfl,λf u h=>by cases h⟩
    | some q=>
     obtain⟨f,u⟩:=q;have hf:f.wf false none=true∧f.rw false=true:=by
      unfold HM at hi;simp only at hi
      cases hc:Ea (decide ((c::r).head? =some 45)) (BV (bif decide ((c::r).head? =some 45) then(c::r).tail else c::r)).1 with
      | false=>rw[hc] at hi;cases hi
      | true=>rw[hc] at hi;cases hi;exact⟨rfl,rfl⟩
     refine⟨by simp only[hf.1];rfl,λf' u' h=>by cases h;exact hf.2⟩
   | true=>
   simp only[Aek]
   cases r with
   | nil=>exact⟨rfl,λf u h=>by cases h⟩
   | cons d r'=>
   simp only
   cases h6:decide (d=Bl (decide (c=123))) with
   | true=>
    simp only[Aek,(Vj _ _).1,Fo.wf];exact⟨trivial,λf u h=>by cases h;rw[(Vj _ _).2];rfl⟩
   | false=>
   simp only[Aeh];obtain⟨e1,e2⟩:=ih2 (decide (c=123)) none none (d::r');rw[e1]
   cases hq:D6 false F (decide (c=123)) none (d::r') with
   | none=>exact⟨rfl,λf u h=>by cases h⟩
   | some q=>
    obtain⟨g,u⟩:=q;simp only[(Vj _ _).1];refine⟨by cases g.wf (decide (c=123)) none<;>rfl,λf u' h=>by cases h;rw[(Vj _ _).2];exact e2 g u hq⟩
  ·intro m last last' s;rw[Dz,Dz,Zb m last s];have hkl:DS false m last' s=DS false m none s:=by
    cases m with
    | false=>rfl
    | true=>unfold DS;simp only[Ae1]
   rw[hkl]
   cases hk:DS false m none s with
   | none=>exact⟨rfl,λf u h=>by cases h⟩
   | some q=>
   obtain⟨key,s1⟩:=q;have hks:=WO hk;simp only;obtain⟨e1,e2⟩:=ih1 s1
   cases hf:Gq false F s1 with
   | none=>
    rw[hf] at e1;refine⟨?_,λf u h=>by cases h⟩
    cases B6 m last key with
    | false=>rfl
    | true=>simp only[Aek,e1]
   | some q=>
   obtain⟨f,s2⟩:=q;have ho:=((Eg false F).1 _ _ _ hf).2;have hfr:=e2 f s2 hf;rw[hf] at e1;simp only at e1;simp only
   cases s2 with
   | nil=>
    refine⟨?_,λf u h=>by cases h⟩
    cases B6 m last key with
    | false=>rfl
    | true=>simp only[Aek,e1];cases f.wf false none<;>rfl
   | cons c s3=>
   simp only
   cases h3:decide (c=Bl m) with
   | true=>
    simp only[Aek,Yu ho,Fo.wf,Ae2];refine⟨?_,λg u h=>by cases h;rw[Yv ho,hks,hfr];rfl⟩
    cases B6 m last key with
    | false=>rfl
    | true=>simp only[Aek,e1,Aer];cases f.wf false none<;>simp[h3]
   | false=>
   simp only[Aeh]
   cases h4:decide (c=44) with
   | false=>
    refine⟨?_,λg u h=>by cases h⟩
    cases B6 m last key with
    | false=>rfl
    | true=>simp only[Aek,e1];cases f.wf false none<;>simp[h3,h4]
   | true=>
   simp only[Aek];obtain⟨e3,e4⟩:=ih2 m key key s3
   cases hq:D6 false F m key s3 with
   | none=>
    rw[hq] at e3;refine⟨?_,λg u h=>by cases h⟩
    cases B6 m last key with
    | false=>rfl
    | true=>simp only[Aek,e1];cases f.wf false none<;>simp[h3,h4,e3]
   | some q=>
    obtain⟨g,u⟩:=q;rw[hq] at e3;simp only at e3;simp only[Yu ho];refine⟨?_,λg' u' h=>by cases h;rw[Yv ho,hks,hfr,e4 g u hq];rfl⟩
    cases B6 m last key with
    | false=>rfl
    | true=>
     simp only[Aek,e1,Aer]
     cases f.wf false none with
     | false=>rfl
     | true=>
      simp only[Aek,h3,h4,Aeh,e3,Aer]
      cases g.wf m key<;>rfl
def K1 (K:Nat)(c:Aa):Prop:=c.fStr.length≤K∧Bs .i64 c.fInt=true∧c.fN≤(K:Int)
theorem K1.mono {K K':Nat}{c:Aa}(h:K1 K c)(hk:K≤K'):K1 K' c:=⟨by have:=h.1;omega,h.2.1,by have:=h.2.2;omega⟩
theorem Qg (b:Bool):∀(n:Nat) (s t u:Af),s.length=n→CC b s=some (t,u)→t.length≤s.length:=by
 intro n
 induction n using Nat.strongRecOn with
 | ind n ih=>
  intro s t u hn h
  cases s with
  | nil=>cases h
  | cons c r=>
   simp only[Aef] at hn ⊢;rw[DJ] at h
   cases h1:decide (c=34) with
   | true=>rw[h1] at h;cases h;simp
   | false=>
    rw[h1] at h;simp only[Aeh] at h
    cases h2:(b&&!KO c) with
    | true=>rw[h2] at h;cases h
    | false=>
     rw[h2] at h;simp only[Aeh] at h
     cases h3:decide (c=92) with
     | true=>
      rw[h3] at h
      cases r with
      | nil=>cases h
      | cons d r'=>
       simp only[Aek] at h
       cases h4:(decide (d=34)||decide (d=92)) with
       | false=>rw[h4] at h;cases h
       | true=>
        rw[h4] at h;simp only[Aek] at h
        cases h5:CC b r' with
        | none=>rw[h5] at h;cases h
        | some q=>
         obtain⟨t',u'⟩:=q;rw[h5] at h;cases h;simp only[Aef] at hn ⊢;have:=ih r'.length (by omega) r' t' u rfl h5;omega
     | false=>
      rw[h3] at h;simp only[Aeh] at h
      cases h5:CC b r with
      | none=>rw[h5] at h;cases h
      | some q=>
       obtain⟨t',u'⟩:=q;rw[h5] at h;cases h;have:=ih r.length (by omega) r t' u rfl h5;simp only[Aef];omega
theorem WN {b m:Bool}{last:Option Af}{s u:Af}{t:Af}(h:DS b m last s=some (some t,u)):t.length≤s.length:=by
 unfold DS at h
 cases m with
 | false=>cases h
 | true=>
  simp only[Aek] at h
  cases s with
  | nil=>cases h
  | cons c r=>
   simp only at h
   cases h1:decide (c=34) with
   | false=>rw[h1] at h;cases h
   | true=>
    rw[h1] at h;simp only[Aek] at h
    cases h2:CC b r with
    | none=>rw[h2] at h;cases h
    | some q=>
     obtain⟨k,w⟩:=q;have:=Qg b _ r k w rfl h2;rw[h2] at h;simp only at h
     cases h3:(b&&!B6 true last (some k)) with
     | true=>rw[h3] at h;cases h
     | false=>
      rw[h3] at h;simp only[Aeh] at h
      cases w with
      | nil=>cases h
      | cons d w'=>
       simp only at h
       cases h4:decide (d=58) with
       | false=>rw[h4] at h;cases h
       | true=>rw[h4] at h;cases h;simp only[Aef];omega
theorem Zr (neg:Bool){d:Af}(hd:d.all Ce=true):Bs .i64 (JZ neg d)=true:=by
 unfold JZ
 cases ha:decide (18<d.length) with
 | true=>
  cases neg with
  | true=>exact(by decide:Bs .i64 (-2000000000000)=true)
  | false=>exact(by decide:Bs .i64 2000000000000=true)
 | false=>
  simp only[Aee] at ha;have hb:=Rk hd (by omega)
  cases neg with
  | true=>exact Hm (by simp only[Aeh,Aek];omega) (by simp only[Aeh,Aek];omega)
  | false=>exact Hm (by simp only[Aeh];omega) (by simp only[Aeh];omega)
theorem YK {m:Bool}{g:Fo}{K:Nat}(hg:∀c∈g.flat,K1 K c)(hl:g.flat.length≤K):∀c∈(nd m g).flat,K1 K c:=λc hc=>by
 rw[JE _ _ I9] at hc;have hcf:=Cv g;rcases List.mem_cons.1 hc with rfl | hc
 ·exact⟨AeL _,(by decide:Bs .i64 0=true),by show(g.cnt:Int)≤K;omega⟩
 ·exact hg c hc
theorem UV {f r:Fo}{K:Nat}{key:Option Af}(ho:f.one=true)(hf:∀c∈f.flat,K1 K c)(hr:∀c∈r.flat,K1 K c)(hk:∀t,key=some t→t.length≤K):∀c∈(f.put key r).flat,K1 K c:=λc hc=>by
 rw[E7 ho] at hc;rcases List.mem_append.1 hc with h | h
 ·cases key with
  | none=>cases h
  | some t=>
   have:c=⟨4,0,t,0⟩:=by simpa[B4] using h
   subst this;exact⟨hk t rfl,(by decide:Bs .i64 0=true),by show(0:Int)≤K;omega⟩
 ·rcases List.mem_append.1 h with h | h
  ·exact hf c h
  ·exact hr c h
theorem KN (b:Bool)(K:Nat):∀F:Nat,(∀s f u,s.length≤K→Gq b F s=some (f,u)→∀c∈f.flat,K1 K c)∧(∀m last s g u,s.length≤K→D6 b F m last s=some (g,u)→∀c∈g.flat,K1 K c)
 | 0=>⟨(λs f u _ h=>by rw[Gq.eq_def] at h;cases h),(λm last s g u _ h=>by rw[D6.eq_def] at h;cases h)⟩
 | F+1=>by
  obtain⟨ih1,ih2⟩:=KN b K F;have lfc:∀k i t,t.length≤K→Bs .i64 i=true→∀c∈(lf k i t).flat,K1 K c:=λk i t ht hi c hc=>by
   have:c=⟨k,i,t,0⟩:=by simpa[lf,Fo.flat,B4] using hc
   subst this;exact⟨ht,hi,by show(0:Int)≤K;omega⟩
  constructor
  ·intro s f u hs h;rw[DM] at h
   cases h1:pre [110,117,108,108] s with
   | some r=>rw[h1] at h;cases h;exact lfc _ _ _ (AeL _) (by decide)
   | none=>
   rw[h1] at h;simp only at h
   cases h2:pre [116,114,117,101] s with
   | some r=>rw[h2] at h;cases h;exact lfc _ _ _ (AeL _) (by decide)
   | none=>
   rw[h2] at h;simp only at h
   cases h3:pre [102,97,108,115,101] s with
   | some r=>rw[h3] at h;cases h;exact lfc _ _ _ (AeL _) (by decide)
   | none=>
   rw[h3] at h;simp only at h
   cases s with
   | nil=>cases h
   | cons c r=>
   simp only[Aef] at hs;simp only at h
   cases h4:decide (c=34) with
   | true=>
    rw[h4] at h;simp only[Aek] at h
    cases h5:CC b r with
    | none=>rw[h5] at h;cases h
    | some q=>
     obtain⟨t,w⟩:=q;rw[h5] at h;cases h;have:=Qg b _ r t u rfl h5;exact lfc _ _ _ (by omega) (by decide)
   | false=>
   rw[h4] at h;simp only[Aeh] at h
   cases h5:(decide (c=91)||decide (c=123)) with
   | false=>
    rw[h5] at h;simp only[Aeh] at h;unfold HM at h;simp only at h
    cases hc:Ea (decide ((c::r).head? =some 45)) (BV (bif decide ((c::r).head? =some 45) then(c::r).tail else c::r)).1 with
    | false=>rw[hc] at h;cases h
    | true=>
     rw[hc] at h;cases h;exact lfc 3 _ [] (AeL _) (Zr _ (Jv _))
   | true=>
   rw[h5] at h;simp only[Aek] at h
   cases r with
   | nil=>cases h
   | cons d r'=>
   simp only at h
   cases h6:decide (d=Bl (decide (c=123))) with
   | true=>rw[h6] at h;cases h;exact YK (λc hc=>by cases hc) (AeL _)
   | false=>
   rw[h6] at h;simp only[Aeh] at h
   cases h7:D6 b F (decide (c=123)) none (d::r') with
   | none=>rw[h7] at h;cases h
   | some q=>
    obtain⟨g,w⟩:=q;rw[h7] at h;cases h;have:=(E8 b F).2 _ _ _ _ _ h7;exact YK (ih2 _ _ _ _ _ (by omega) h7) (by omega)
  ·intro m last s g u hs h;rw[Dz] at h
   cases h1:DS b m last s with
   | none=>rw[h1] at h;cases h
   | some q=>
   obtain⟨key,s1⟩:=q;have l1:=Tg h1;have hkt:∀t,key=some t→t.length≤K:=λt e=>by subst e;have:=WN h1;omega
   rw[h1] at h;simp only at h
   cases h2:Gq b F s1 with
   | none=>rw[h2] at h;cases h
   | some q=>
   obtain⟨f,s2⟩:=q;obtain⟨l2,o2⟩:=(Eg b F).1 _ _ _ h2;have hf:=ih1 _ _ _ (by omega) h2;rw[h2] at h;simp only at h
   cases s2 with
   | nil=>cases h
   | cons c s3=>
   simp only[Aef] at l2;simp only at h
   cases h3:decide (c=Bl m) with
   | true=>rw[h3] at h;cases h;exact UV o2 hf (λc hc=>by cases hc) hkt
   | false=>
   rw[h3] at h;simp only[Aeh] at h
   cases h4:decide (c=44) with
   | false=>rw[h4] at h;cases h
   | true=>
   rw[h4] at h;simp only[Aek] at h
   cases h5:D6 b F m key s3 with
   | none=>rw[h5] at h;cases h
   | some q=>
    obtain⟨g',w⟩:=q;rw[h5] at h;cases h;exact UV o2 hf (ih2 _ _ _ _ _ (by omega) h5) hkt
theorem Z9:∀l:List Aa,l.any Ci=false→l.map CZ=l
 | [],_=>rfl
 | c::l,h=>by
  simp only[List.any_cons,Ae4] at h;simp only[AeR,Z9 l h.2,CZ,h.1,Aeh]
def LF (s:Af):Option (List Aa×Int):=
 bif decide (4000<s.length) then some ([],3) else match Gq true 10000 s with
  | some (f,[])=>some (bif decide (GF f=0) then(f.flat,0) else([],GF f))
  | _=>some ([],1)
theorem PQ (s:Af):Az.mk s 0 [] false=DW s s [] false:=by simp[DW]
theorem ZH {f:Fo}(h:f.flat.any Ci=true):GF f=2:=by unfold GF;rw[h];rfl
theorem Sc {F:Nat}(hF:20000≤F){s:Af}:LU F s=LF s:=by
 unfold LU LF;have a1:decide ((4000:Int)<(s.length:Int))=decide (4000<s.length):=by rw[Aev];simp;omega
 rw[a1]
 cases h4:decide (4000<s.length) with
 | true=>rfl
 | false=>
  simp only[Aee] at h4;rw[A2 rfl,PQ];simp only[Aeh];rcases TM (S:=s) (by omega) (F:=F) (P:=10000) (by omega) (by omega) with⟨f,w,q1,q2,q3⟩ | ⟨q1,q',q2⟩
  ·rw[q3,q1,AI rfl,A2 (p:=!true) rfl];obtain⟨_,hone⟩:=(Eg true 10000).1 _ _ _ q1;have hwl:=q2.len;have hcells:=(KN true 4000 10000).1 _ _ _ (by omega) q1;have hfl:=(E8 true 10000).1 _ _ _ q1;unfold GR;have hat:(true,DW s w ([]++f.flat.map CZ) (false||f.flat.any Ci)).2.fAt=(s.length:Int)-w.length:=rfl;rw[hat]
   cases w with
   | cons c w'=>
    have hd:decide ((s.length:Int)-(c::w').length=(s.length:Int))=false:=Aeg (by simp only[Aef];omega);rw[hd];rfl
   | nil=>
    have hd:decide ((s.length:Int)-([]:Af).length=(s.length:Int))=true:=Aei (by simp);rw[hd,A2 (p:=!true) rfl]
    change _=some (bif decide (GF f=0) then(f.flat,0) else([],GF f))
    have hgr:(true,DW s [] ([]++f.flat.map CZ) (false||f.flat.any Ci)).2.fGreat=f.flat.any Ci:=rfl;have hce:(true,DW s [] ([]++f.flat.map CZ) (false||f.flat.any Ci)).2.fCells=f.flat.map CZ:=rfl;rw[hgr,hce]
    cases ho:f.flat.any Ci with
    | true=>rw[ZH ho];rfl
    | false=>
     rw[A2 rfl,Z9 _ ho];have hA:IE 4000 f.flat:=⟨by decide,by omega,λc hc=>by obtain⟨c1,c2,c3⟩:=hcells c hc;exact⟨c1,c2,by omega⟩⟩
     have hwf:f.wf false none=true:=by
      have:=((Om 10000).1 s).1;rw[q1] at this
      cases hp:Gq false 10000 s with
      | none=>rw[hp] at this;cases this
      | some q=>
       obtain⟨f',u'⟩:=q;rw[hp] at this;simp only at this
       cases hw:f'.wf false none with
       | false=>rw[hw] at this;cases this
       | true=>rw[hw] at this;cases this;exact hw
     have hev:Hp f.flat=GF f:=by unfold Hp;rw[LO hone hwf]
     unfold LW;rw[IV hA (by decide) (by omega),AI rfl,hev]
     cases decide (GF f=0)<;>rfl
  ·rw[q2,q1];rfl
theorem Sz {F:Nat}(hF:20000≤F){s:Af}:Me F s=LF s:=by
 unfold Me LF;have a1:decide ((4000:Int)<(s.length:Int))=decide (4000<s.length):=by rw[Aev];simp;omega
 rw[a1]
 cases h4:decide (4000<s.length) with
 | true=>rfl
 | false=>
  simp only[Aee] at h4;rw[A2 rfl];simp only[Aeh];obtain⟨e1,e2⟩:=(Om 10000).1 s;have hr:=Yk (S:=s) (by omega) (F:=F) (P:=10000) (by omega) (by omega);unfold ROk at hr;rw[Int.sub_self] at hr;rcases hr with⟨f,w,q1,q2,q3⟩ | ⟨q1,v,q2⟩
  ·rw[q1] at e1;simp only at e1;obtain⟨_,hone⟩:=(Eg false 10000).1 _ _ _ q1;have hwl:=q2.len;have hcells:=(KN false 4000 10000).1 _ _ _ (by omega) q1;have hfl:=(E8 false 10000).1 _ _ _ q1;rw[q3,AI rfl,e1]
   cases w with
   | cons c w'=>
    have hd:decide ((s.length:Int)-(c::w').length=(s.length:Int))=false:=Aeg (by simp only[Aef];omega);simp only;rw[hd]
    cases f.wf false none<;>rfl
   | nil=>
    have hd:decide ((s.length:Int)-([]:Af).length=(s.length:Int))=true:=Aei (by simp);simp only;rw[hd,A2 (p:=!true) rfl];have hA:IE 4000 f.flat:=⟨by decide,by omega,λc hc=>by obtain⟨c1,c2,c3⟩:=hcells c hc;exact⟨c1,c2,by omega⟩⟩
    unfold Mf;rw[MY hA (by decide) (by omega),AI rfl]
    cases hwf:f.wf false none with
    | true=>
     have hev:Hp f.flat=GF f:=by unfold Hp;rw[LO hone hwf]
     rw[hev];simp only[Aek]
     cases decide (GF f=0)<;>rfl
    | false=>
     have hwh:whole f.flat=none:=by
      have h1:=Oj f false none [] (e2 f [] q1);rw[hwf,Oo hone,AeF] at h1;have h2:IK f.flat=none:=h1;unfold whole;rw[h2]
     have hev:Hp f.flat=1:=by unfold Hp;rw[hwh]
     rw[hev];rfl
  ·rw[q1] at e1;simp only at e1;rw[q2,AI rfl,e1];simp only;rw[AC (p:=!decide ((-1:Int)=(s.length:Int))) (by rw[Aeg (by omega)];rfl)]
theorem KP {x:Nat}(h:x<10):(UInt8.ofNat (48+x)).toNat=48+x:=by simp;omega
theorem Q8 {x:Nat}(h:x<10):Ce (UInt8.ofNat (48+x))=true:=by
 unfold Ce;rw[KP h];simp;omega
theorem Qx (d:Af)(c:UInt8)(a:Nat):CK a (d++[c])=10*CK a d+(c.toNat-48):=by simp[CK]
theorem R0 {u:Nat}(h:u<10):Lib.decDigits u=[UInt8.ofNat (48+u)]:=by rw[Lib.decDigits,dif_pos h]
theorem ZP {u:Nat}(h : ¬ u<10):Lib.decDigits u=Lib.decDigits (u/10)++[UInt8.ofNat (48+u % 10)]:=by
 rw[Lib.decDigits,dif_neg h]
theorem QJ:∀u:Nat,(Lib.decDigits u).all Ce=true∧Lib.decDigits u≠[]∧CK 0 (Lib.decDigits u)=u∧((Lib.decDigits u).head? =some 48→u=0):=by
 intro u
 induction u using Nat.strongRecOn with
 | ind u ih=>
  by_cases h:u<10
  ·rw[R0 h];refine⟨by simp only[AeN,List.all_nil,Q8 h,Bool.and_self],by simp,?_,?_⟩
   ·show 10*0+((UInt8.ofNat (48+u)).toNat-48)=u;rw[KP h];omega
   ·intro e;simp only[List.head?_cons,Option.some.injEq] at e;have:=congrArg UInt8.toNat e;rw[KP h] at this;have ha:(48:UInt8).toNat=48:=rfl;omega
  ·obtain⟨a,b,c,d⟩:=ih (u/10) (by omega);rw[ZP h];refine⟨by simp only[List.all_append,a,AeN,List.all_nil,Q8 (show u % 10<10 by omega),Bool.and_self],by simp,?_,?_⟩
   ·rw[Qx,c,KP (by omega)];omega
   ·intro e
    cases hd:Lib.decDigits (u/10) with
    | nil=>exact absurd hd b
    | cons x r=>
     rw[hd] at e;have:=d (by rw[hd];simpa using e);omega
theorem P9:∀(n:Nat) (d:Af),d.length=n→d.all Ce=true→d≠[]→(d.head? =some 48→d.length=1)→Lib.decDigits (CK 0 d)=d:=by
 intro n
 induction n with
 | zero=>intro d hn _ hne;exact absurd (AeD hn) hne
 | succ n ih=>
  intro d hn ha hne hh;obtain⟨d',c,rfl⟩:∃d' c,d=d'++[c]:=⟨d.dropLast,d.getLast hne,(List.dropLast_concat_getLast hne).symm⟩
  rw[List.all_append] at ha;simp only[AeN,List.all_nil,Ae2,Aej] at ha;have hc:48≤c.toNat∧c.toNat≤57:=by have:=ha.2;simp[Ce] at this;omega
  have ec:UInt8.ofNat (48+(c.toNat-48))=c:=by rw[show 48+(c.toNat-48)=c.toNat from by omega];simp
  rw[Qx]
  cases hd:d' with
  | nil=>
   show Lib.decDigits (10*0+(c.toNat-48))=[c];rw[R0 (by omega),show 48+(10*0+(c.toNat-48))=48+(c.toNat-48) from by omega,ec]
  | cons x r=>
   rw[← hd];have hne':d'≠[]:=by rw[hd];simp
   have h1:d'.head?≠some 48:=λe=>by
    have:=hh (by rw[hd] at e ⊢;simpa using e);rw[hd] at this;simp at this
   have ih':=ih d' (by simp at hn;omega) ha.1 hne' (λe=>absurd e h1);have hpos:1≤CK 0 d':=by
    rw[hd];show 1≤CK (10*0+(x.toNat-48)) r;have hx:48≤x.toNat∧x.toNat≤57:=by have:=ha.1;rw[hd] at this;simp[Ce] at this;omega
    have hx2:x.toNat≠48:=λe=>h1 (by rw[hd];simp;rw[← AeX];exact e);exact Nat.le_trans (by omega) (Jl r _)
   rw[ZP (by omega),show(10*CK 0 d'+(c.toNat-48))/10=CK 0 d' from by omega,show(10*CK 0 d'+(c.toNat-48)) % 10=c.toNat-48 from by omega,ih',ec]
theorem P8:∀(d w:Af),d.all Ce=true→(∀c r,w=c::r→Ce c=false)→BV (d++w)=(d,w)
 | [],w,_,hw=>by
  cases w with
  | nil=>rfl
  | cons c r=>simp[BV,hw c r rfl]
 | c::d,w,ha,hw=>by
  simp only[AeN,Aej] at ha;simp[BV,ha.1,P8 d w ha.2 hw]
theorem WZ {n:Int}{w:Af}(h0 : -1000000000000≤n)(h1:n≤1000000000000)(hw:∀c r,w=c::r→Ce c=false):HM (Lib.itoa n++w)=some (.cell none ⟨3,n,[],0⟩ .nil,w):=by
 have key:∀(u:Nat) (neg:Bool),u≤1000000000000→(neg=true→1≤u)→HM (HC neg (Lib.decDigits u)++w)=some (.cell none ⟨3,bif neg then -(u:Int) else u,[],0⟩ .nil,w):=λu neg hu hneg=>by
  obtain⟨a,b,c,d⟩:=QJ u;have hl:(Lib.decDigits u).length≤18:=by
   cases hdd:Lib.decDigits u with
   | nil=>simp
   | cons x r=>
    by_cases ha:(x::r).length≤18
    ·exact ha
    ·exfalso;have hx:48≤x.toNat∧x.toNat≤57:=by rw[hdd] at a;simp[Ce] at a;omega
     have hr:18≤r.length:=by simp only[Aef] at ha;omega
     by_cases hb:x=48
     ·have:=d (by rw[hdd,hb];rfl);subst this;have e0:Lib.decDigits 0=[UInt8.ofNat 48]:=R0 (by omega);rw[e0] at hdd;cases hdd;simp at hr
     ·have hx2:x.toNat≠48:=λe=>hb (by rw[← AeX];exact e);rw[hdd] at c;have c':CK (10*0+(x.toNat-48)) r=u:=c;have:=SR r (10*0+(x.toNat-48)) (by omega);have h2:10 ^ 18≤10 ^ r.length:=Nat.pow_le_pow_right (by omega) hr;omega
  have hhead:∀(x:UInt8) (r:Af),Lib.decDigits u=x::r→x≠45:=λx r e=>by
   rw[e] at a;intro e2;subst e2;simp[Ce] at a
  have hcan:Ea neg (Lib.decDigits u)=true:=by
   unfold Ea;have e1:decide (Lib.decDigits u=[])=false:=Aeg b;rw[e1]
   by_cases hh:(Lib.decDigits u).head? =some 48
   ·have hu0:=d hh;subst hu0;have:neg=false:=by cases neg with
     | false=>rfl
     | true=>have:=hneg rfl;omega
    subst this;rw[R0 (by omega)];rfl
   ·rw[Aeg hh];rfl
  have hv:JZ neg (Lib.decDigits u)=bif neg then -(u:Int) else u:=by
   have hn:HJ (Lib.decDigits u)=(u:Int):=by
    have:=Jk (Lib.decDigits u) 0 a;rw[c] at this;exact this
   unfold JZ;rw[Aeg (by omega),hn];rfl
  unfold HM HC
  cases neg with
  | true=>
   have e1:decide ((45::(Lib.decDigits u++w)).head? =some 45)=true:=rfl;simp only[Aek,AeO,e1,List.tail_cons,P8 _ _ a hw,hcan,hv]
  | false=>
   have e1:decide ((((bif false then 45::Lib.decDigits u else Lib.decDigits u)++w).head?)=some 45)=false:=by
    cases hdd:Lib.decDigits u with
    | nil=>exact absurd hdd b
    | cons x r=>simp[hhead x r hdd]
   simp only[Aeh] at e1;simp only[Aeh,e1,P8 _ _ a hw,hcan,hv,Aek]
 by_cases hneg:n<0
 ·have e:Lib.itoa n=HC true (Lib.decDigits n.natAbs):=by
   have:=Lib.itoa_neg n.natAbs (by omega);rw[show -(n.natAbs:Int)=n from by omega] at this;rw[this];rfl
  have:=key n.natAbs true (by omega) (λ_=>by omega);rw[e,this];show some (Fo.cell none ⟨3,-(n.natAbs:Int),[],0⟩ .nil,w)=_;rw[show -(n.natAbs:Int)=n from by omega]
 ·have e:Lib.itoa n=HC false (Lib.decDigits n.natAbs):=by
   have:=Lib.itoa_nonneg n.natAbs;rw[show(n.natAbs:Int)=n from by omega] at this;rw[this];rfl
  have:=key n.natAbs false (by omega) (λh=>by cases h);rw[e,this];show some (Fo.cell none ⟨3,(n.natAbs:Int),[],0⟩ .nil,w)=_;rw[show(n.natAbs:Int)=n from by omega]
theorem Xa {s u:Af}{f:Fo}(h:HM s=some (f,u)):∃n,f = .cell none ⟨3,n,[],0⟩ .nil∧(Ci ⟨3,n,[],0⟩=false→s=Lib.itoa n++u):=by
 unfold HM at h;simp only at h;have key:∀(neg:Bool) (r:Af),s=(bif neg then 45::r else r)→Ea neg (BV r).1=true→Ci ⟨3,JZ neg (BV r).1,[],0⟩=false→s=Lib.itoa (JZ neg (BV r).1)++(BV r).2:=λneg r es hcan hout=>by
  have hd:=Jv r;have he:=I8 r;generalize(BV r).1=d at *;generalize(BV r).2=w at *;unfold Ea at hcan;simp only[Aej,Aex,Aee] at hcan;obtain⟨hne,hz⟩:=hcan;have hl:d.length≤18:=by
   by_cases ha:d.length≤18
   ·exact ha
   ·exfalso;unfold JZ at hout;rw[Aei (by omega)] at hout
    cases neg<;>simp[Ci] at hout
  have hn:JZ neg d=bif neg then -(CK 0 d:Int) else(CK 0 d:Int):=by
   have:=Jk d 0 hd;unfold JZ;rw[Aeg (by omega)];show(bif neg then -(HJ d) else HJ d)=_;rw[show HJ d=(CK 0 d:Int) from this]
  have hback:=P9 d.length d rfl hd hne (λe=>by
   cases h1:decide (1<d.length) with
   | true=>rw[Aei e,h1] at hz;simp at hz
   | false=>
    simp only[Aee] at h1
    cases d with
    | nil=>exact absurd rfl hne
    | cons x y=>simp only[Aef] at h1 ⊢;omega)
  rw[hn]
  cases neg with
  | true=>
   have hpos:1≤CK 0 d:=by
    cases d with
    | nil=>exact absurd rfl hne
    | cons x y=>
     have hx:48≤x.toNat∧x.toNat≤57:=by simp[Ce] at hd;omega
     have hx2:x.toNat≠48:=λe=>by
      have:x=48:=by rw[← AeX];exact e
      rw[this] at hz;simp at hz
     show 1≤CK (10*0+(x.toNat-48)) y;exact Nat.le_trans (by omega) (Jl y _)
   have:=Lib.itoa_neg (CK 0 d) hpos;simp only[Aek] at es ⊢;rw[this,hback,es,AeO,← he]
  | false=>
   have:=Lib.itoa_nonneg (CK 0 d);simp only[Aeh] at es ⊢;rw[this,hback,es,← he]
 cases hneg:decide (s.head? =some 45) with
 | true=>
  rw[hneg] at h;simp only[Aek] at h
  cases hcan:Ea true (BV s.tail).1 with
  | false=>rw[hcan] at h;cases h
  | true=>
   rw[hcan] at h;simp only[Aek,Option.some.injEq,Prod.mk.injEq] at h;obtain⟨rfl,rfl⟩:=h;refine⟨_,rfl,λhout=>key true s.tail ?_ hcan hout⟩
   cases s with
   | nil=>simp at hneg
   | cons c r=>
    simp at hneg;subst hneg;rfl
 | false=>
  rw[hneg] at h;simp only[Aeh] at h
  cases hcan:Ea false (BV s).1 with
  | false=>rw[hcan] at h;cases h
  | true=>
   rw[hcan] at h;simp only[Aek,Option.some.injEq,Prod.mk.injEq] at h;obtain⟨rfl,rfl⟩:=h;exact⟨_,rfl,λhout=>key false s rfl hcan hout⟩
theorem OK:∀(s w:Af),s.all KO=true→CC true (EC s++34::w)=some (s,w)
 | [],w,_=>by
  show CC true (34::w)=_;rw[DJ];rfl
 | c::s,w,ha=>by
  simp only[AeN,Aej] at ha;have ih:=OK s w ha.2;have e:EC (c::s)=(bif (decide (c=34)||decide (c=92)) then[92,c] else[c])++EC s:=by simp[EC]
  rw[e]
  cases hq:(decide (c=34)||decide (c=92)) with
  | true=>
   simp only[Aek,AeO,AeE];rw[DJ,show decide ((92:UInt8)=34)=false from by decide,show(true&&!KO 92)=false from by decide,show decide ((92:UInt8)=92)=true from by decide];simp only[Aeh,Aek,hq,ih]
  | false=>
   simp only[Aeh,AeO,AeE];simp only[Ae4] at hq;rw[DJ,hq.1,ha.1,hq.2];simp only[Aes,Ae3,Aeh,ih]
theorem Qi:∀(n:Nat) (s t u:Af),s.length=n→CC true s=some (t,u)→s=EC t++34::u:=by
 intro n
 induction n using Nat.strongRecOn with
 | ind n ih=>
  intro s t u hn h
  cases s with
  | nil=>cases h
  | cons c r=>
   simp only[Aef] at hn;rw[DJ] at h
   cases h1:decide (c=34) with
   | true=>
    rw[h1] at h;cases h;rw[Aep h1];rfl
   | false=>
    rw[h1] at h;simp only[Aeh] at h
    cases h2:(true&&!KO c) with
    | true=>rw[h2] at h;cases h
    | false=>
     rw[h2] at h;simp only[Aeh] at h
     cases h3:decide (c=92) with
     | true=>
      rw[h3] at h
      cases r with
      | nil=>cases h
      | cons d r'=>
       simp only[Aek] at h
       cases h4:(decide (d=34)||decide (d=92)) with
       | false=>rw[h4] at h;cases h
       | true=>
        rw[h4] at h;simp only[Aek] at h
        cases h5:CC true r' with
        | none=>rw[h5] at h;cases h
        | some q=>
         obtain⟨t',u'⟩:=q;rw[h5] at h;cases h;simp only[Aef] at hn;have:=ih r'.length (by omega) r' t' u rfl h5;rw[Aep h3,this];simp[EC,h4]
     | false=>
      rw[h3] at h;simp only[Aeh] at h
      cases h5:CC true r with
      | none=>rw[h5] at h;cases h
      | some q=>
       obtain⟨t',u'⟩:=q;rw[h5] at h;cases h;have:=ih r.length (by omega) r t' u rfl h5;rw[this];simp only[Aee] at h1 h3;simp[EC,h1,h3]
theorem SB {s:Af}(h:BI s=0):Lib.itoa (AL s)=s:=by
 unfold BI at h;unfold AL
 cases hd:Gc s with
 | false=>rw[hd] at h;simp at h
 | true=>
  simp only[hd,AeT] at h ⊢;have hdec:=hd;simp only[Gc,Aej,Aex,Ae4,Aee] at hdec;obtain⟨⟨hne,hz⟩,hall⟩:=hdec;rw[Nx] at hall
  cases hs:s with
  | nil=>subst hs;exact absurd (show DH []=[] by simp[DH,G8]) hne
  | cons c r=>
   subst hs
   by_cases hc:c=45
   ·subst hc;have hdg:DH (45::r)=r:=by simp[DH,G8,AM]
    rw[hdg] at hne hall hz;have he:AM r 0≠48:=by
     intro e;rw[e] at hz;simp at hz
    rw[Lib.atoiAll_minus] at h ⊢;have hpm:Lib.parseMag r=Lib.parseUint10 0 r:=by unfold Lib.parseMag;rw[AeK hne]
    rw[hpm] at h ⊢;have hpos:1≤CK 0 r:=by
     cases r with
     | nil=>exact absurd rfl hne
     | cons x y=>
      have hx:48≤x.toNat∧x.toNat≤57:=by simp[Ce] at hall;omega
      have hx2:x.toNat≠48:=λe=>he (by show((x.toNat:Nat):Int)=48;omega);show 1≤CK (10*0+(x.toNat-48)) y;exact Nat.le_trans (by omega) (Jl y _)
    rcases Rh r 0 hall with e | ⟨e,_⟩
    ·rw[e] at h ⊢;simp only[Lib.signed] at h ⊢
     by_cases hbig:9223372036854775808<CK 0 r
     ·rw[AeY hbig] at h;simp at h
     ·rw[AeK hbig] at h ⊢;simp only at h ⊢
      cases hv:D4 (-(CK 0 r:Int)) with
      | false=>rw[hv] at h;simp at h
      | true=>
       rw[AeY rfl,Lib.itoa_neg _ hpos,P9 r.length r rfl hall hne (λha=>?_)]
       cases r with
       | nil=>exact absurd rfl hne
       | cons x y=>
        simp only[List.head?_cons,Option.some.injEq] at ha;subst ha;exact absurd rfl he
    ·rw[e] at h;simp[Lib.signed] at h
   ·have hb : ¬ AM (c::r) 0=45:=by
     intro e;exact hc (UInt8.toNat_inj.1 (by have:((c.toNat:Nat):Int)=45:=e;simp;omega))
    have hdg:DH (c::r)=c::r:=by simp[DH,G8,hb]
    rw[hdg] at hne hall hz;have hf:48≤c.toNat:=by simp[Ce] at hall;omega
    rw[Lib.atoiAll_plain c r (by omega) (by omega)] at h ⊢;have hpm:Lib.parseMag (c::r)=Lib.parseUint10 0 (c::r):=by unfold Lib.parseMag;rw[AeK hne]
    rw[hpm] at h ⊢;rcases Rh (c::r) 0 hall with e | ⟨e,_⟩
    ·rw[e] at h ⊢;simp only[Lib.signless] at h ⊢
     by_cases hbig:9223372036854775808≤CK 0 (c::r)
     ·rw[AeY hbig] at h;simp at h
     ·rw[AeK hbig] at h ⊢;simp only at h ⊢
      cases hv:D4 (CK 0 (c::r):Int) with
      | false=>rw[hv] at h;simp at h
      | true=>
       rw[AeY rfl,Lib.itoa_nonneg];refine P9 (c::r).length (c::r) rfl hall hne (λha=>?_);simp only[List.head?_cons,Option.some.injEq] at ha;subst ha;have:AM (48::r) 0=48:=rfl;rw[this] at hz;simp only[decide_true,Aer,AeW,Aed] at hz;rw[hz];rfl
    ·rw[e] at h;simp[Lib.signless] at h
theorem KK {f:Fo}(h:f.one=true)(key:Option Af)(r:Fo)(b:Bool):(f.put key r).txt b=CT b++(GM key++(f.txt true++r.txt false)):=by
 cases f with
 | nil=>cases h
 | cell k c s=>cases k with
  | some _=>cases h
  | none=>cases s with
   | nil=>simp[Fo.put,Fo.txt,CT,GM]
   | _=>cases h
 | node k c kids s=>cases k with
  | some _=>cases h
  | none=>cases s with
   | nil=>simp[Fo.put,Fo.txt,CT,GM]
   | _=>cases h
theorem Re {f:Fo}(h:f.one=true)(key:Option Af)(r:Fo):(f.put key r).flat.any Ci=(f.flat.any Ci||r.flat.any Ci):=by
 rw[E7 h,List.any_append,List.any_append,Ps,Aew]
theorem UA {m:Bool}{last:Option Af}{g:Fo}(hw:g.wf m last=true):g = .nil∨∃ (k:Option Af) (f r:Fo),g=f.put k r∧f.one=true∧f.wf false none=true∧B6 m last k=true∧r.wf m k=true:=by
 cases g with
 | nil=>exact .inl rfl
 | cell k c r=>
  simp only[Fo.wf,Aej,Aex] at hw;obtain⟨⟨⟨w1,w2⟩,w3⟩,w4⟩:=hw;exact .inr ⟨k,.cell none c .nil,r,rfl,rfl,Ob w2 w3,w1,w4⟩
 | node k c kids r=>
  simp only[Fo.wf,Aej,Aed] at hw;obtain⟨⟨⟨⟨⟨w1,w2⟩,w3⟩,w5⟩,w6⟩,w4⟩:=hw;exact .inr ⟨k,.node none c kids .nil,r,rfl,rfl,Oa w2 w3 w5 w6,w1,w4⟩
theorem XK {m:Bool}{last:Option Af}{g:Fo}(hw:g.wf m last=true)(hn:g≠.nil):g.txt false=44::g.txt true:=by
 rcases UA hw with h | ⟨k,f,r,rfl,h1,_⟩
 ·exact absurd h hn
 ·rw[KK h1,KK h1];rfl
theorem Zc {m:Bool}{last k:Option Af}{w:Af}(h:B6 m last k=true):DS true m last (GM k++w)=some (k,w):=by
 cases k with
 | none=>
  have:m=false:=by simpa[B6] using h
  subst this;rfl
 | some s=>
  have h':=h;simp only[B6,Aej] at h;obtain⟨⟨h1,h2⟩,h3⟩:=h;subst h1;have e:GM (some s)++w=34::(EC s++34::(58::w)):=by simp[GM,E6]
  rw[e];unfold DS;simp only[Aek,decide_true,OK s (58::w) h2,h',Aes,Ae3,Aeh]
theorem Q5 {m:Bool}{last k:Option Af}{s w:Af}(h:DS true m last s=some (k,w)):s=GM k++w:=by
 unfold DS at h
 cases m with
 | false=>cases h;rfl
 | true=>
  simp only[Aek] at h
  cases s with
  | nil=>cases h
  | cons c r=>
   simp only at h
   cases h1:decide (c=34) with
   | false=>rw[h1] at h;cases h
   | true=>
    rw[h1] at h;simp only[Aek] at h
    cases h2:CC true r with
    | none=>rw[h2] at h;cases h
    | some q=>
     obtain⟨t,u⟩:=q;have:=Qi _ r t u rfl h2;rw[h2] at h;simp only at h
     cases h3:(true&&!B6 true last (some t)) with
     | true=>rw[h3] at h;cases h
     | false=>
      rw[h3] at h;simp only[Aeh] at h
      cases u with
      | nil=>cases h
      | cons d u'=>
       simp only at h
       cases h4:decide (d=58) with
       | false=>rw[h4] at h;cases h
       | true=>
        rw[h4] at h;cases h;rw[Aep h1,this,Aep h4];simp[GM,E6]
def okH (c:UInt8):Prop:=c=110∨c=116∨c=102∨c=34∨c=91∨c=123∨c=45∨Ce c=true
theorem Qt {c:UInt8}(h:okH c)(m:Bool):decide (c=Bl m)=false:=by
 refine Aeg λe=>?_;subst e
 cases m<;>revert h<;>unfold okH Ce Bl<;>decide
theorem Q7 (n:Int):∃c r,Lib.itoa n=c::r∧(c=45∨Ce c=true):=by
 obtain⟨a,b,_,_⟩:=QJ n.natAbs
 by_cases hneg:n<0
 ·have:=Lib.itoa_neg n.natAbs (by omega);rw[show -(n.natAbs:Int)=n from by omega] at this;exact⟨45,_,this,.inl rfl⟩
 ·have:=Lib.itoa_nonneg n.natAbs;rw[show(n.natAbs:Int)=n from by omega] at this
  cases hd:Lib.decDigits n.natAbs with
  | nil=>exact absurd hd b
  | cons x r=>
   rw[hd] at a;simp only[AeN,Aej] at a;exact⟨x,r,by rw[this,hd],.inr a.1⟩
theorem Us {c:Aa}:∃x r,DX c=x::r∧okH x:=by
 unfold DX
 cases decide (c.fKind=1) with
 | true=>exact⟨_,_,rfl,.inl rfl⟩
 | false=>
 cases decide (c.fKind=2) with
 | true=>cases decide (c.fInt=1) with
  | true=>exact⟨_,_,rfl,.inr (.inl rfl)⟩
  | false=>exact⟨_,_,rfl,.inr (.inr (.inl rfl))⟩
 | false=>
 cases decide (c.fKind=3) with
 | true=>
  obtain⟨x,r,e,h⟩:=Q7 c.fInt;exact⟨x,r,e,by unfold okH;rcases h with h | h<;>simp[h]⟩
 | false=>
 cases decide (c.fKind=4) with
 | true=>exact⟨_,_,rfl,.inr (.inr (.inr (.inl rfl)))⟩
 | false=>cases decide (c.fKind=6) with
  | true=>exact⟨_,_,rfl,.inr (.inr (.inr (.inr (.inr (.inl rfl)))))⟩
  | false=>exact⟨_,_,rfl,.inr (.inr (.inr (.inr (.inl rfl))))⟩
theorem Y5 {f:Fo}(h:f.one=true):∃x r,f.txt true=x::r∧okH x:=by
 cases f with
 | nil=>cases h
 | cell k c s=>cases k with
  | some _=>cases h
  | none=>cases s with
   | nil=>
    obtain⟨x,r,e,ho⟩:=Us (c:=c);exact⟨x,r,by simp[Fo.txt,CT,GM,e],ho⟩
   | _=>cases h
 | node k c kids s=>cases k with
  | some _=>cases h
  | none=>cases s with
   | nil=>
    simp only[Fo.txt,CT,GM,Aek,AeE,AeF];unfold NJ
    cases decide (c.fKind=6) with
    | true=>exact⟨_,_,rfl,.inr (.inr (.inr (.inr (.inr (.inl rfl)))))⟩
    | false=>exact⟨_,_,rfl,.inr (.inr (.inr (.inr (.inl rfl))))⟩
   | _=>cases h
theorem XL {m:Bool}{last:Option Af}{g:Fo}(hw:g.wf m last=true)(hn:g≠.nil):∃x r,g.txt true=x::r∧okH x:=by
 rcases UA hw with h | ⟨k,f,r,rfl,h1,_⟩
 ·exact absurd h hn
 ·rw[KK h1]
  cases k with
  | none=>
   obtain⟨x,y,e,ho⟩:=Y5 h1;exact⟨x,y++r.txt false,by simp[CT,GM,e],ho⟩
  | some s=>exact⟨34,_,by simp[CT,GM,E6];rfl,.inr (.inr (.inr (.inl rfl)))⟩
theorem Ug {a b:UInt8}{x y:Af}(h:a≠b):pre (a::x) (b::y)=none:=by
 rw[pre,Aeg h];rfl
theorem KM {F:Nat}{c:UInt8}{r:Af}(h1:c≠110)(h2:c≠116)(h3:c≠102):Gq true (F+1) (c::r) =
  bif decide (c=34) then(match CC true r with
   | none=>none
   | some (t,u)=>some (lf 4 0 t,u)) else
  bif decide (c=91)||decide (c=123) then(match r with
   | []=>none
   | d::r'=>bif decide (d=Bl (decide (c=123))) then some (nd (decide (c=123)) .nil,r') else(match D6 true F (decide (c=123)) none (d::r') with
    | none=>none
    | some (g,u)=>some (nd (decide (c=123)) g,u))) else
  HM (c::r):=by
 rw[DM,Ug (Ne.symm h1),Ug (Ne.symm h2),Ug (Ne.symm h3)];rfl
theorem Y4 {F:Nat}{c:Aa}{w:Af}(hp:pl c=true)(hn:decide (0<c.fN)=false)(ho:Ci c=false)(hw:∀x r,w=x::r→Ce x=false):Gq true (F+1) (DX c++w)=some (.cell none c .nil,w):=by
 have hN:=Yz hp;have h0:c.fN=0:=by simp only[Aee] at hn;omega
 cases c with
 | mk k n s N=>
 simp only at h0;subst h0;unfold DX
 by_cases k1:k=1
 ·subst k1;simp[pl] at hp;obtain⟨rfl,rfl⟩:=hp;show Gq true (F+1) ([110,117,108,108]++w)=_;rw[DM,Mk];rfl
 by_cases k2:k=2
 ·subst k2;simp[pl] at hp;obtain⟨hb,rfl⟩:=hp;rcases hb with rfl | rfl
  ·show Gq true (F+1) ([102,97,108,115,101]++w)=_;rw[DM,Mk];rfl
  ·show Gq true (F+1) ([116,114,117,101]++w)=_;rw[DM,Mk];rfl
 by_cases k3:k=3
 ·subst k3;simp[pl] at hp;subst hp;show Gq true (F+1) (Lib.itoa n++w)=_;obtain⟨x,r,e,hx⟩:=Q7 n;have hx2:45≤x.toNat∧x.toNat≤57:=by
   rcases hx with rfl | hx
   ·decide
   ·simp[Ce] at hx;omega
  have hne:∀y:UInt8,57<y.toNat∨y.toNat<45→x≠y:=λy hy e=>by subst e;omega
  rw[e,AeO,KM (hne 110 (by decide)) (hne 116 (by decide)) (hne 102 (by decide)),Aeg (hne 34 (by decide)),Aeg (hne 91 (by decide)),Aeg (hne 123 (by decide))];simp only[Bool.or_self,Aeh];rw[← AeO,← e];simp[Ci] at ho;exact WZ (by omega) (by omega) hw
 by_cases k4:k=4
 ·subst k4;simp[pl] at hp;obtain⟨rfl,hs⟩:=hp;have e:(bif decide ((4:Int)=1) then([110,117,108,108]:Af) else bif decide ((4:Int)=2) then(bif decide ((0:Int)=1) then[116,114,117,101] else[102,97,108,115,101]) else bif decide ((4:Int)=3) then Lib.itoa 0 else bif decide ((4:Int)=4) then E6 s else bif decide ((4:Int)=6) then[123,125] else[91,93])=E6 s:=rfl;show Gq true (F+1) (E6 s++w)=_;have e2:E6 s++w=34::(EC s++34::w):=by simp[E6]
  rw[e2,KM (by decide) (by decide) (by decide),Aei rfl];simp only[Aek];rw[OK s w (by rw[AeI];exact hs)];rfl
 by_cases k5:k=5
 ·subst k5;simp[pl] at hp;obtain⟨rfl,rfl⟩:=hp;show Gq true (F+1) (91::93::w)=_;rw[KM (by decide) (by decide) (by decide)];rfl
 by_cases k6:k=6
 ·subst k6;simp[pl] at hp;obtain⟨rfl,rfl⟩:=hp;show Gq true (F+1) (123::125::w)=_;rw[KM (by decide) (by decide) (by decide)];rfl
 exfalso;simp[pl,k1,k2,k3,k4,k5,k6] at hp
theorem Xn (m:Bool):Ce (Bl m)=false:=by cases m<;>decide
theorem AaD:∀n:Nat,(∀f:Fo,f.flat.length=n→f.one=true→f.wf false none=true→f.flat.any Ci=false→∀(F:Nat) (w:Af),2*n≤F→(∀x r,w=x::r→Ce x=false)→Gq true F (f.txt true++w)=some (f,w))∧
  (∀(g:Fo) (m:Bool) (last:Option Af),g.flat.length=n→g≠.nil→g.wf m last=true→g.flat.any Ci=false→∀(F:Nat) (w:Af),2*n+1≤F→D6 true F m last (g.txt true++Bl m::w)=some (g,w)):=by
 intro n
 induction n using Nat.strongRecOn with
 | ind n ih=>
  have hP:∀f:Fo,f.flat.length=n→f.one=true→f.wf false none=true→f.flat.any Ci=false→∀(F:Nat) (w:Af),2*n≤F→(∀x r,w=x::r→Ce x=false)→Gq true F (f.txt true++w)=some (f,w):=by
   intro f hn h1 hw ho F w hF hd;have hl:=Mq h1;obtain⟨F,rfl⟩:∃K,F=K+1:=⟨F-1,by omega⟩
   cases f with
   | nil=>cases h1
   | cell k c s=>cases k with
    | some _=>cases h1
    | none=>cases s with
     | nil=>
      simp only[Fo.wf,Aej,Aex] at hw;simp[Fo.flat,B4] at ho;have e:(Fo.cell none c .nil).txt true=DX c:=by simp[Fo.txt,CT,GM]
      rw[e];exact Y4 hw.1.1.2 hw.1.2 ho hd
     | _=>cases h1
   | node k c kids s=>cases k with
    | some _=>cases h1
    | none=>cases s with
     | nil=>
      simp only[Fo.wf,Aej,Aed] at hw;obtain⟨⟨⟨⟨⟨w1,w2⟩,w3⟩,w5⟩,w6⟩,w4⟩:=hw;have hfl:(Fo.node none c kids .nil).flat=c::kids.flat:=by simp[Fo.flat,B4]
      rw[hfl] at hn ho;simp only[Aef] at hn;simp only[List.any_cons,Ae4] at ho;have hne:kids≠.nil:=λe=>by subst e;simp[Fo.cnt] at w5;omega
      obtain⟨x,r,ex,hx⟩:=XL w6 hne;obtain⟨ha,hi,hs⟩:=I3 w2 w3;have e:(Fo.node none c kids .nil).txt true=NJ c (kids.txt true):=by simp[Fo.txt,CT,GM]
      have ih2:=(ih kids.flat.length (by omega)).2 kids (decide (c.fKind=6)) none rfl hne w6 ho.2 F w (by omega);have hnd:nd (decide (c.fKind=6)) kids = .node none c kids .nil:=by
       unfold nd;rw[Aeg (by omega)]
       cases c with
       | mk a1 a2 a3 a4=>
        simp only at ha hi hs w5 ⊢;subst hi;subst hs;subst w5;rcases ha with rfl | rfl<;>rfl
      rw[e];unfold NJ
      cases hm:decide (c.fKind=6) with
      | true=>
       rw[hm] at ih2 hnd;have e3:(bif true then 123::(kids.txt true++[125]) else 91::(kids.txt true++[93]))++w=(bif true then(123:UInt8) else 91)::(x::(r++125::w)):=by simp[ex]
       have ih3:D6 true F true none (x::(r++125::w))=some (kids,w):=by rw[ex] at ih2;exact ih2
       rw[e3,Ui,Ic,Qt hx true,Aeh,ih3];show some (nd true kids,w)=_;rw[hnd]
      | false=>
       rw[hm] at ih2 hnd;have e3:(bif false then 123::(kids.txt true++[125]) else 91::(kids.txt true++[93]))++w=(bif false then(123:UInt8) else 91)::(x::(r++93::w)):=by simp[ex]
       have ih3:D6 true F false none (x::(r++93::w))=some (kids,w):=by rw[ex] at ih2;exact ih2
       rw[e3,Ui,Ic,Qt hx false,Aeh,ih3];show some (nd false kids,w)=_;rw[hnd]
     | _=>cases h1
  refine⟨hP,?_⟩;intro g m last hn hne hw ho F w hF;rcases UA hw with h | ⟨k,f,r,rfl,h1,h2,h3,h4⟩
  ·exact absurd h hne
  obtain⟨F,rfl⟩:∃K,F=K+1:=⟨F-1,by omega⟩
  have hl:=Mq h1;rw[E7 h1,Aen,Aen] at hn;rw[Re h1,Ae4] at ho;rw[KK h1,Dz];have e:(CT true++(GM k++(f.txt true++r.txt false)))++Bl m::w=GM k++(f.txt true++(r.txt false++Bl m::w)):=by simp[CT]
  rw[e,Zc h3];simp only;have hpar:∀v:Af,(∀x y,v=x::y→Ce x=false)→Gq true F (f.txt true++v)=some (f,v):=λv hv=>by
   rcases Nat.lt_or_ge f.flat.length n with hlt | hge
   ·exact(ih f.flat.length hlt).1 f rfl h1 h2 ho.1 F v (by omega) hv
   ·exact hP f (by omega) h1 h2 ho.1 F v (by omega) hv
  by_cases hr:r = .nil
  ·subst hr;rw[hpar _ (λx y e=>by simp[Fo.txt] at e;rw[← e.1];exact Xn m)];simp[Fo.txt]
  ·rw[XK h4 hr,AeO,hpar _ (λx y e=>by cases e;decide)];simp only;have hb:decide ((44:UInt8)=Bl m)=false:=by cases m<;>decide
   have:=(ih r.flat.length (by omega)).2 r m k rfl hr h4 ho.2 F w (by omega);rw[hb,this];rfl
theorem SD:∀F:Nat,(∀s f u,Gq true F s=some (f,u)→f.flat.any Ci=false→s=f.txt true++u)∧(∀m last s g u,D6 true F m last s=some (g,u)→g.flat.any Ci=false→s=g.txt true++Bl m::u)
 | 0=>⟨(λs f u h=>by rw[Gq.eq_def] at h;cases h),(λm last s g u h=>by rw[D6.eq_def] at h;cases h)⟩
 | F+1=>by
  obtain⟨ih1,ih2⟩:=SD F;obtain⟨pl1,pl2⟩:=Eg true F;constructor
  ·intro s f u h ho;rw[DM] at h
   cases h1:pre [110,117,108,108] s with
   | some r=>rw[h1] at h;cases h;rw[Ds h1];rfl
   | none=>
   rw[h1] at h;simp only at h
   cases h2:pre [116,114,117,101] s with
   | some r=>rw[h2] at h;cases h;rw[Ds h2];rfl
   | none=>
   rw[h2] at h;simp only at h
   cases h3:pre [102,97,108,115,101] s with
   | some r=>rw[h3] at h;cases h;rw[Ds h3];rfl
   | none=>
   rw[h3] at h;simp only at h
   cases s with
   | nil=>cases h
   | cons c r=>
    simp only at h
    cases h4:decide (c=34) with
    | true=>
     rw[h4] at h;simp only[Aek] at h
     cases h5:CC true r with
     | none=>rw[h5] at h;cases h
     | some q=>
      obtain⟨t,u'⟩:=q;rw[h5] at h;cases h;rw[Aep h4,Qi _ r t _ rfl h5];simp[lf,Fo.txt,CT,GM,DX,E6]
    | false=>
    rw[h4] at h;simp only[Aeh] at h
    cases h5:(decide (c=91)||decide (c=123)) with
    | true=>
     rw[h5] at h;simp only[Aek] at h;have hopen:∀x:Af,(c::x)=(bif decide (c=123) then(123:UInt8) else 91)::x:=λx=>by
      cases h6:decide (c=123) with
      | true=>rw[Aep h6];rfl
      | false=>rw[h6,Ae6] at h5;rw[Aep h5];rfl
     rw[hopen];generalize decide (c=123)=m at *
     cases r with
     | nil=>cases h
     | cons d r'=>
      simp only at h
      cases h6:decide (d=Bl m) with
      | true=>
       rw[h6] at h;cases h;rw[Aep h6]
       cases m<;>simp[nd,Fo.cnt,Fo.txt,CT,GM,DX,Bl]
      | false=>
       rw[h6] at h;simp only[Aeh] at h
       cases h7:D6 true F m none (d::r') with
       | none=>rw[h7] at h;cases h
       | some q=>
        obtain⟨g,u'⟩:=q;rw[h7] at h;cases h;have hc:=(pl2 _ _ _ _ _ h7).2;rw[JE _ _ I9,List.any_cons,Ae4] at ho;rw[ih2 _ _ _ _ _ h7 ho.2];unfold nd;rw[Aeg (by omega)]
        cases m<;>simp[Fo.txt,CT,GM,NJ,Bl]
    | false=>
     rw[h5] at h;simp only[Aeh] at h;obtain⟨n,rfl,hb⟩:=Xa h;have ho':Ci ⟨3,n,[],0⟩=false:=by simpa[Fo.flat,B4] using ho
     rw[hb ho'];simp[Fo.txt,CT,GM,DX]
  ·intro m last s g u h ho;rw[Dz] at h
   cases h1:DS true m last s with
   | none=>rw[h1] at h;cases h
   | some q=>
    obtain⟨key,s1⟩:=q;rw[h1] at h;simp only at h
    cases h2:Gq true F s1 with
    | none=>rw[h2] at h;cases h
    | some q=>
     obtain⟨f,s2⟩:=q;have hone:=(pl1 _ _ _ h2).2;rw[h2] at h;simp only at h
     cases s2 with
     | nil=>cases h
     | cons c s3=>
      simp only at h
      cases h3:decide (c=Bl m) with
      | true=>
       rw[h3] at h;cases h;rw[Re hone,Ae4] at ho;rw[Q5 h1,ih1 _ _ _ h2 ho.1,KK hone,Aep h3];simp[CT,Fo.txt]
      | false=>
       rw[h3] at h;simp only[Aeh] at h
       cases h4:decide (c=44) with
       | false=>rw[h4] at h;cases h
       | true=>
        rw[h4] at h;simp only[Aek] at h
        cases h5:D6 true F m key s3 with
        | none=>rw[h5] at h;cases h
        | some q=>
         obtain⟨g',w⟩:=q;rw[h5] at h;cases h;have hc:=(pl2 _ _ _ _ _ h5).2;rw[Re hone,Ae4] at ho;have e5:=ih2 _ _ _ _ _ h5 ho.2;have e6:g'.txt false=44::g'.txt true:=by
          cases g' with
          | nil=>simp[Fo.cnt] at hc
          | cell k c r=>simp[Fo.txt,CT]
          | node k c kids r=>simp[Fo.txt,CT]
         rw[Q5 h1,ih1 _ _ _ h2 ho.1,KK hone,Aep h4,e5,e6];simp[CT]
open Go Go.RowKit
theorem MF {f:Fo}(h:GF f=0):f.flat.any Ci=false∧f.flat.any Is=false∧f.flat.length≤200∧f.dep≤8∧(f.txt true).length≤4000:=by
 unfold GF at h
 cases h1:f.flat.any Ci with
 | true=>rw[h1] at h;cases h
 | false=>
  rw[h1] at h
  cases h2:(f.flat.any Is||(decide (200<f.flat.length)||(decide (8<f.dep)||decide (4000<(f.txt true).length)))) with
  | true=>rw[h2] at h;cases h
  | false=>
   simp only[Ae4,Aee] at h2;exact⟨rfl,h2.1,by omega,by omega,by omega⟩
theorem Ab2 {f:Fo}(h1:f.one=true)(hw:f.wf false none=true)(he:GF f=0):Hp f.flat=0:=by
 unfold Hp;rw[LO h1 hw];exact he
theorem Acs {F:Nat}{s u:Af}{f:Fo}(h:Gq true F s=some (f,u)):f.wf false none=true:=by
 have:=((Om F).1 s).1;rw[h] at this
 cases h2:Gq false F s with
 | none=>rw[h2] at this;cases this
 | some q=>
  obtain⟨g,w⟩:=q;rw[h2] at this;simp only at this
  cases hw:g.wf false none with
  | true=>rw[hw] at this;cases this;exact hw
  | false=>rw[hw] at this;cases this
theorem Ab4 {v:List Aa}(h:(Ka v).2=0):LF (Ka v).1=some (v,0):=by
 unfold Ka at h ⊢
 cases hw:whole v with
 | none=>rw[hw] at h;cases h
 | some f=>
  rw[hw] at h;simp only at h
  cases he:decide (GF f=0) with
  | false=>rw[he] at h;exact absurd h (AeB he)
  | true=>
   obtain⟨x1,x2,x3⟩:=J5 hw;obtain⟨h1,h2,h3,h4,h5⟩:=MF (Aep he);have hp:=(AaD f.flat.length).1 f rfl x3 x2 h1 10000 [] (by omega) (λx r e=>by cases e);rw[AeF] at hp;simp only[he];show LF (f.txt true)=_;unfold LF;rw[Aeg (by omega),Aeh,hp];simp only;rw[he,x1];rfl
theorem R1 {s:Af}{r:List Aa×Int}(h:LF s=some r)(h0:r.2=0):IE 4000 r.1∧Ka r.1=(s,0)∧Hp r.1=0:=by
 unfold LF at h
 cases h4:decide (4000<s.length) with
 | true=>rw[h4] at h;cases h;cases h0
 | false=>
  rw[h4] at h;simp only[Aee] at h4;simp only[Aeh] at h
  cases hp:Gq true 10000 s with
  | none=>rw[hp] at h;cases h;cases h0
  | some q=>
   obtain⟨f,w⟩:=q;rw[hp] at h
   cases w with
   | cons _ _=>cases h;cases h0
   | nil=>
    simp only[Option.some.injEq] at h;subst h
    cases he:decide (GF f=0) with
    | false=>rw[he] at h0;exact absurd h0 (AeB he)
    | true=>
     have hf:=Aep he;have hw:=Acs hp;have hone:=((Eg true 10000).1 _ _ _ hp).2;have hcells:=(KN true 4000 10000).1 _ _ _ (by omega) hp;have hfl:=(E8 true 10000).1 _ _ _ hp;obtain⟨h1,h2,h3,_⟩:=MF hf;have hb:=(SD 10000).1 _ _ _ hp h1;rw[AeF] at hb;refine⟨⟨by decide,by show f.flat.length≤4000;omega,λc hc=>?_⟩,?_,Ab2 hone hw hf⟩
     ·obtain⟨a,b,c'⟩:=hcells c hc;exact⟨a,b,by omega⟩
     ·show Ka f.flat=_;unfold Ka;rw[LO hone hw];simp only;rw[he,hb];rfl
theorem Lb (s:Af):∃r,LF s=some r:=by
 unfold LF
 cases decide (4000<s.length) with
 | true=>exact⟨_,rfl⟩
 | false=>
  simp only[Aeh]
  split<;>exact⟨_,rfl⟩
section
variable {M : Nat} {v : List Aa}
end
def HR (c:Ae):Int:=
 bif !Rr c.fKey then 4 else bif decide (c.fIfVersion<(-1))||decide (1000000000000<c.fIfVersion) then 2
 else bif c.fDelete&&decide (0<(c.fValue.length:Int)) then 7 else bif c.fDelete then 0 else Hp c.fValue
def Kw:List Ae→Int
 | []=>0
 | c::r=>bif decide (HR c=0) then Kw r else HR c
def NU (l:List Ae):Int:=bif decide (256<l.length) then 3 else Kw l
theorem Nn:∀{l:List Ae},Kw l=0→∀c∈l,HR c=0
 | [],_,c,hc=>by cases hc
 | d::r,h,c,hc=>by
  unfold Kw at h
  cases hd:decide (HR d=0) with
  | false=>rw[hd] at h;exact absurd h (AeB hd)
  | true=>
   rw[hd] at h;rcases List.mem_cons.1 hc with rfl | hc
   ·exact Aep hd
   ·exact Nn h c hc
theorem Py:∀{l:List Ae},(∀c∈l,HR c=0)→Kw l=0
 | [],_=>rfl
 | d::r,h=>by
  unfold Kw;rw[Aei (h d (by simp))];exact Py λc hc=>h c (by simp[hc])
def PX (c:Ae):List Af:=[c.fKey,bif c.fDelete then[49] else[48],bif c.fDelete then[] else(Ka c.fValue).1,Lib.itoa c.fIfVersion]
def GK (c:Ae):Af:=Mm (PX c)
def Rz (l:List Ae):Af×Int:=bif decide (NU l=0) then Vr (l.map GK) else([],NU l)
theorem ZK {v:List Aa}(h:Hp v=0):(Ka v).1.length≤4000:=by
 unfold Ka;unfold Hp at h
 cases hw:whole v with
 | none=>rw[hw] at h;cases h
 | some f=>
  rw[hw] at h;simp only at h ⊢;rw[h];exact(MF h).2.2.2.2
theorem MG {c:Ae}(h:HR c=0):Rr c.fKey=true∧-1≤c.fIfVersion∧c.fIfVersion≤1000000000000∧(c.fDelete=true→c.fValue=[])∧(c.fDelete=false→Hp c.fValue=0):=by
 unfold HR at h
 cases h1:Rr c.fKey with
 | false=>rw[h1] at h;cases h
 | true=>
  rw[h1] at h;simp only[Aes,Aeh] at h
  cases h2:(decide (c.fIfVersion<(-1))||decide (1000000000000<c.fIfVersion)) with
  | true=>rw[h2] at h;cases h
  | false=>
   rw[h2] at h;simp only[Aeh] at h;simp only[Ae4,Aee] at h2
   cases h3:c.fDelete with
   | true=>
    rw[h3] at h;simp only[Aer] at h
    cases h4:decide (0<(c.fValue.length:Int)) with
    | true=>rw[h4] at h;cases h
    | false=>
     simp only[Aee] at h4;exact⟨rfl,by omega,by omega,λ_=>AeD (by omega),λh=>(by cases h)⟩
   | false=>
    rw[h3] at h;exact⟨rfl,by omega,by omega,λh=>(by cases h),λ_=>h⟩
theorem QA {s:Af}(h:Rr s=true):s.length≤64:=by
 unfold Rr at h;simp only[Aej,Aed] at h;exact h.2
theorem SH {c:Ae}(h:HR c=0):okP (PX c)=true:=by
 obtain⟨h1,h2,h3,h4,h5⟩:=MG h;have a1:=QA h1;have a2:=Zo c.fIfVersion (by omega) (by omega);unfold okP PX;simp only[Aef,AeS,AeN,List.all_nil,Ae2,Aej,Aed];refine⟨by omega,by omega,?_,?_,by omega⟩
 ·cases c.fDelete<;>simp
 ·cases hd:c.fDelete with
  | true=>simp
  | false=>exact ZK (h5 hd)
def zC:Ae:=Ae.mk [] false [] 0
def Px (l:List Af):Bool:=decide ((l.length:Int)=4)&&((decide (Aq l 1=[48])||decide (Aq l 1=[49]))&&decide (BI (Aq l 3)=0))
def ofC (l:List Af):Ae×Bool:=
 bif decide (Aq l 1=[49]) then(Ae.mk (Aq l 0) true [] (AL (Aq l 3)),decide (Aq l 2=[]))
 else(Ae.mk (Aq l 0) false (ov (LF (Aq l 2))).1 (AL (Aq l 3)),decide ((ov (LF (Aq l 2))).2=0))
def LK (b:Af):Ae×Bool:=bif decide ((GS b).2=0)&&Px (GS b).1 then ofC (GS b).1 else(zC,false)
def H6 (b:Af):Bool:=(LK b).2&&decide (HR (LK b).1=0)
def JH (s:Af):Bool:=decide ((BF s.length s).2=s.length)&&(decide ((BF s.length s).1.length≤256)&&((BF s.length s).1.all H6&&decide (s.length≤262144)))
def Kb (s:Af):List Ae×Int:=bif JH s then((BF s.length s).1.map λb=>(LK b).1,0) else([],13)
theorem UK {c:Ae}(h:HR c=0):LK (GK c)=(c,true):=by
 obtain⟨h1,h2,h3,h4,h5⟩:=MG h;have hu:=XH (SH h);unfold LK GK;rw[hu];have e0:Aq (PX c) 0=c.fKey:=rfl;have e1:Aq (PX c) 1=bif c.fDelete then[49] else[48]:=rfl;have e2:Aq (PX c) 2=bif c.fDelete then[] else(Ka c.fValue).1:=rfl;have e3:Aq (PX c) 3=Lib.itoa c.fIfVersion:=rfl;have hp:BI (Lib.itoa c.fIfVersion)=0∧AL (Lib.itoa c.fIfVersion)=c.fIfVersion:=by
  by_cases h0:0≤c.fIfVersion
  ·exact WY h0 h3
  ·have:c.fIfVersion = -1:=by omega
   rw[this];decide +kernel
 have hf:Px (PX c)=true:=by
  unfold Px;rw[e1,e3,hp.1]
  cases c.fDelete<;>rfl
 simp only[hf,decide_true,Bool.and_self,Aek];unfold ofC;rw[e0,e1,e2,e3,hp.2];obtain⟨k,d,v,iv⟩:=c
 cases d with
 | true=>
  have hv:v=[]:=h4 rfl;subst hv;rfl
 | false=>
  have hv:LF (Ka v).1=some (v,0):=Ab4 (by
   have:(Ka v).2=Hp v:=by
    unfold Ka Hp
    cases whole v with
    | none=>rfl
    | some f=>simp only;cases hh:decide (GF f=0) with
     | true=>rw[Aep hh];rfl
     | false=>rfl
   rw[this];exact h5 rfl)
  show(bif decide (([48]:Af)=[49]) then _ else _)=_;rw[show decide (([48]:Af)=[49])=false from by decide];simp only[Aeh,hv,Hd,decide_true]
theorem Ady {l:List Af}(h:(l.length:Int)=4):∃a b c d,l=[a,b,c,d]:=by
 match l,h with
 | [a,b,c,d],_=>exact⟨a,b,c,d,rfl⟩
 | [],h=>simp at h
 | [_],h=>simp at h
 | [_,_],h=>simp at h
 | [_,_,_],h=>simp at h
 | _::_::_::_::_::_,h=>simp at h;omega
theorem UL {b:Af}(h:(LK b).2=true):(GS b).2=0∧Px (GS b).1=true∧LK b=ofC (GS b).1:=by
 unfold LK at h ⊢
 cases hc:(decide ((GS b).2=0)&&Px (GS b).1) with
 | false=>rw[hc] at h;cases h
 | true=>
  simp only[Aej,Aed] at hc;exact⟨hc.1,hc.2,rfl⟩
theorem AaT {b:Af}(h:H6 b=true):GK (LK b).1=b:=by
 unfold H6 at h;simp only[Aej,Aed] at h;obtain⟨g1,g2⟩:=h;obtain⟨u1,u2,u3⟩:=UL g1;obtain⟨_,hpk⟩:=SE (s:=b) (l:=(GS b).1) (by rw[← u1]);rw[u3] at g1 g2 ⊢;generalize(GS b).1=l at *;unfold Px at u2;simp only[Aej,AeG,Aed] at u2;obtain⟨v1,v2,v3⟩:=u2;have hi:=SB v3;obtain⟨k,f,t,m,rfl⟩:=Ady v1;have e0:Aq [k,f,t,m] 0=k:=rfl;have e1:Aq [k,f,t,m] 1=f:=rfl;have e2:Aq [k,f,t,m] 2=t:=rfl;have e3:Aq [k,f,t,m] 3=m:=rfl;rw[e3] at hi;unfold ofC at g1 g2 ⊢;rw[e1] at v2;simp only[e0,e1,e2,e3] at g1 g2 ⊢;unfold GK
 cases hf:decide (f=[49]) with
 | true=>
  have hf':=Aep hf;rw[hf] at g1;have ht:t=[]:=Aep g1;subst hf' ht;show Mm [k,[49],[],Lib.itoa (AL m)]=b;rw[hi];exact hpk
 | false=>
  have hf':f=[48]:=by
   rcases v2 with v2 | v2
   ·exact v2
   ·exact absurd v2 (AeB hf)
  rw[hf] at g1;simp only[Aeh] at g1 ⊢;obtain⟨r,hr⟩:=Lb t;rw[hr,Hd] at g1;obtain⟨_,d2,_⟩:=R1 hr (Aep g1);subst hf';show Mm [k,[48],(Ka (ov (LF t)).1).1,Lib.itoa (AL m)]=b;rw[hr,Hd,d2,hi];exact hpk
theorem M9 (l:List Af):l.length≤(l.flatMap CJ).length:=by
 induction l with
 | nil=>simp
 | cons b l ih=>rw[Afd,Aen,EH,Aef];omega
theorem ZI {l:List Ae}(h:(Rz l).2=0):Kb (Rz l).1=(l,0):=by
 unfold Rz at h ⊢
 cases he:decide (NU l=0) with
 | false=>rw[he] at h;exact absurd h (AeB he)
 | true=>
  rw[he] at h;simp only[Aek] at h ⊢;unfold Vr at h ⊢
  cases hj:decide (((l.map GK).flatMap CJ).length≤262144) with
  | false=>rw[hj] at h;cases h
  | true=>
   simp only[Aek];have hlim:=Aep hj;have he':=Aep he;unfold NU at he'
   cases ha:decide (256<l.length) with
   | true=>rw[ha] at he';cases he'
   | false=>
    rw[ha] at he';simp only[Aeh] at he';have hall:=Nn he';have hb:∀b∈l.map GK,b.length≤262136:=λb hb=>by have:=PY _ b hb;omega
    have hsp:=N7 (l.map GK) ((l.map GK).flatMap CJ).length hb (M9 _);have hmap:(l.map GK).map (λb=>(LK b).1)=l:=by
     rw[Aff]
     conv=>rhs;rw[← List.map_id l]
     exact List.map_congr_left λc hc=>by show(LK (GK c)).1=c;rw[UK (hall c hc)]
    have hgood:(l.map GK).all H6=true:=by
     rw[List.all_map,AeI];intro c hc;show H6 (GK c)=true;unfold H6;rw[UK (hall c hc)];simp only[Aer];exact Aei (hall c hc)
    unfold Kb JH;rw[hsp,hgood];simp only[Aee] at ha;rw[Aei rfl,Aei (by simp;omega),hj,hmap];rfl
theorem ZQ {s:Af}(h:(Kb s).2=0):Rz (Kb s).1=(s,0):=by
 unfold Kb at h ⊢
 cases hg:JH s with
 | false=>rw[hg] at h;cases h
 | true=>
  simp only[Aek];unfold JH at hg;simp only[Aej,Aed] at hg;obtain⟨g1,g2,g3,g4⟩:=hg;obtain⟨_,s2,_⟩:=IZ s.length s;rw[g1,Afa] at s2;generalize(BF s.length s).1=l at *;rw[AeI] at g3;have hall:∀c∈l.map (λb=>(LK b).1),HR c=0:=λc hc=>by
   obtain⟨b,hb,rfl⟩:=List.mem_map.1 hc;have:=g3 b hb;unfold H6 at this;simp only[Aej,Aed] at this;exact this.2
  have hp:NU (l.map λb=>(LK b).1)=0:=by
   unfold NU;rw[Aeg (by simp;omega)];exact Py hall
  have hm:(l.map λb=>(LK b).1).map GK=l:=by
   rw[Aff]
   conv=>rhs;rw[← List.map_id l]
   exact List.map_congr_left λb hb=>AaT (g3 b hb)
  unfold Rz;rw[hp,hm];unfold Vr;rw[← s2,Aei g4];rfl
def tb (i:Nat):Int:=nv (RB 8 (BitVec.ofNat 32 i))
def JX (x:Nat):List Int:=(List.range 256).map λi=>if i<x then tb i else 0
theorem Kj (x:Nat):(JX x).length=256:=by simp[JX]
theorem XN {x:Nat}(h:x<256):(JX x).set x (tb x)=JX (x+1):=by
 apply List.ext_getElem (by simp[JX]);intro i h1 h2;simp only[JX,List.getElem_set,List.getElem_map,List.getElem_range]
 by_cases e:x=i
 ·subst e;simp
 ·rw[AeK e]
  by_cases g:i<x
  ·rw[AeY g,AeY (by omega)]
  ·rw[AeK g,AeK (by omega)]
theorem Ack:JX 0=List.replicate 256 (0:Int):=by
 apply List.ext_getElem
 ·rw[Kj,List.length_replicate]
 ·intro i h1 h2;rw[List.getElem_replicate];simp only[JX,List.getElem_map,List.getElem_range,Nat.not_lt_zero,AeP]
theorem AcS {i:Nat}(h:i<256):Aq (JX 256) (i:Int)=tb i:=by simp[Aq,JX,h]
theorem Zx (k:Nat):∀(n:Nat) (b:BitVec 32) (x:Int),0≤x→x+k=8→k<n→BJ (λσ:Int×Int=>GY σ.1 σ.2) n (nv b,x)=some (.go (nv (RB k b),8,false)):=by
 induction k with
 | zero=>
  intro n b x h0 h hn;obtain⟨n,rfl⟩:∃m,n=m+1:=⟨n-1,by omega⟩
  have:x=8:=by omega
  subst this;rfl
 | succ k ih=>
  intro n b x h0 h hn;obtain⟨n,rfl⟩:∃m,n=m+1:=⟨n-1,by omega⟩
  have hb:GY (nv b) x=some (.next (nv (sB b),x+1)):=by
   unfold GY;rw[AC (Aei (by omega)),A4 (by omega) (by omega),Sk]
  rw[BJ,hb];exact ih n (sB b) (x+1) (by omega) (by omega) (by omega)
theorem Ye (k:Nat):∀(n:Nat) (b:BitVec 32) (x:Int),0≤x→x+k=8→k<n→BJ (λσ:Int×Int=>Ip σ.1 σ.2) n (nv b,x)=some (.go (nv (RB k b),8,8,false)):=by
 induction k with
 | zero=>
  intro n b x h0 h hn;obtain⟨n,rfl⟩:∃m,n=m+1:=⟨n-1,by omega⟩
  have:x=8:=by omega
  subst this;rfl
 | succ k ih=>
  intro n b x h0 h hn;obtain⟨n,rfl⟩:∃m,n=m+1:=⟨n-1,by omega⟩
  have hb:Ip (nv b) x=some (.next (nv (sB b),x+1)):=by
   unfold Ip;rw[AC (Aei (by omega)),A4 (by omega) (by omega),Sk]
  rw[BJ,hb];exact ih n (sB b) (x+1) (by omega) (by omega) (by omega)
theorem TI (n:Nat):IntKind.wrap .u32 (n:Int)=nv (BitVec.ofNat 32 n):=by
 unfold nv;rw[BitVec.toNat_ofNat];simp[IntKind.wrap,IntKind.signed,IntKind.bits]
theorem Tp {F:Nat}(hF:8<F)(k:Nat):∀(n:Nat) (x:Nat),x+k=256→k<n→BJ (λσ:Int×List Int=>GZ F σ.1 σ.2) n ((x:Int),JX x)=some (.go (JX 256)):=by
 induction k with
 | zero=>
  intro n x h hn;obtain⟨n,rfl⟩:∃m,n=m+1:=⟨n-1,by omega⟩
  have:x=256:=by omega
  subst this;rfl
 | succ k ih=>
  intro n x h hn;obtain⟨n,rfl⟩:∃m,n=m+1:=⟨n-1,by omega⟩
  have hb:GZ F (x:Int) (JX x)=some (.next (((x+1:Nat):Int),JX (x+1))):=by
   unfold GZ;rw[AC (Aei (by omega)),TI,AI (Zx 8 F _ 0 (by omega) (by omega) hF),CU];unfold Jq;rw[show nv (RB 8 (BitVec.ofNat 32 x))=tb x from rfl];rw[AW (by omega) (by omega),AW (by omega) (by rw[Kj];omega),A4 (by omega) (by omega),Int.toNat_natCast,XN (by omega)];rfl
  rw[BJ,hb];exact ih n (x+1) (by omega) (by omega)
theorem Xe {F:Nat}(hF:300<F):Pw F=some (JX 256):=by
 unfold Pw;have:=Tp (F:=F) (by omega) 256 F 0 (by omega) (by omega);rw[Ack] at this;rw[show((0:Int),List.replicate 256 (0:Int))=(((0:Nat):Int),List.replicate 256 (0:Int)) from rfl,AI this,CU];unfold Jr;rw[B7 (Aei (Kj 256)),B7 (Aei List.length_replicate)]
theorem Ge {α:Type}[Inhabited α]{l:List α}{i:Nat}{b:α}{r:List α}(h:l.drop i=b::r):Aq l (i:Int)=b∧i<l.length∧l.drop (i+1)=r:=by
 have hl:i<l.length:=by
  have:=congrArg List.length h;simp only[Afc,Aef] at this;omega
 have hg:l[i]? =some b:=by
  have:=congrArg (λt=>t[0]?) h;simpa using this
 refine⟨by simp[Aq,hg],hl,?_⟩;rw[← Afb,h];rfl
theorem Aab (b:BitVec 32)(c:UInt8):ET .u8 (IntKind.wrap .u8 (nv b)) (c.toNat:Int)=(((b^^^IA c).toNat % 256:Nat):Int):=by
 have hc:=c.toNat_lt;have e1:IntKind.wrap .u8 (nv b)=((b.toNat % 256:Nat):Int):=by
  unfold nv;simp[IntKind.wrap,IntKind.signed,IntKind.bits]
 have h1:(BitVec.ofInt (IntKind.bits .u8) ((b.toNat % 256:Nat):Int)^^^BitVec.ofInt (IntKind.bits .u8) (c.toNat:Int)).toNat=(b^^^IA c).toNat % 256:=by
  rw[BitVec.toNat_xor,BitVec.toNat_ofInt,BitVec.toNat_ofInt,BitVec.toNat_xor];have hbits:IntKind.bits .u8=8:=rfl;have e1:(((b.toNat % 256:Nat):Int) % ((2 ^ 8:Nat):Int)).toNat=b.toNat % 256:=by omega
  have e2:(((c.toNat:Nat):Int) % ((2 ^ 8:Nat):Int)).toNat=c.toNat % 256:=by omega
  have e3:(IA c).toNat=c.toNat:=by unfold IA;rw[BitVec.toNat_ofNat];omega
  rw[hbits,e1,e2,e3];exact(Nat.xor_mod_two_pow (n:=8)).symm
 unfold ET;rw[e1,h1];simp[IntKind.wrap,IntKind.signed,IntKind.bits]
theorem O7 (b:BitVec 32)(c:UInt8):(b^^^IA c)>>>8=b>>>8:=by
 rw[BitVec.ushiftRight_xor_distrib];have:IA c>>>8=0#32:=by
  apply BitVec.eq_of_toNat_eq;have hc:=c.toNat_lt;rw[BitVec.toNat_ushiftRight,Nat.shiftRight_eq_div_pow];unfold IA;rw[BitVec.toNat_ofNat];show c.toNat % 4294967296/256=0;omega
 rw[this];simp
theorem YR (z:BitVec 32):BitVec.ofNat 32 (z.toNat % 256)=z&&& 255#32:=by
 apply BitVec.eq_of_toNat_eq;have hz:=z.isLt;rw[BitVec.toNat_ofNat,BitVec.toNat_and];have:z.toNat&&& 255=z.toNat % 256:=Nat.and_two_pow_sub_one_eq_mod z.toNat 8;show z.toNat % 256 % 4294967296=z.toNat&&& 255;rw[this];omega
theorem ZX (b:BitVec 32)(c:UInt8):ET .u32 (tb ((b^^^IA c).toNat % 256)) (BZ .u32 (nv b) 8)=nv (RB 8 (b^^^IA c)):=by
 unfold tb;have hs:BZ .u32 (nv b) 8=nv (b>>>8):=Vu (n:=8) (by omega) b;rw[hs,Ow,PD,PD,YR,← O7 b c,← Wb]
theorem YI (b:BitVec 32):Rt .u32 (nv b)=((~~~b).toNat:Int):=by
 show ET .u32 4294967295 (nv b)=_;rw[Ow,PD];have:bv 4294967295=BitVec.allOnes 32:=by decide
 rw[this,BitVec.allOnes_xor];rfl
theorem QC (s:Af):∀(r:Af) (n i:Nat) (b:BitVec 32),s.drop i=r→s.length≤1000000000→r.length<n→i≤s.length→BJ (λσ:Int×Int=>HQ s (JX 256) σ.1 σ.2) n (nv b,(i:Int))=some (.go (nv (U5 b r)))
 | [],n,i,b,h,hs,hn,hi=>by
  obtain⟨n,rfl⟩:∃m,n=m+1:=⟨n-1,by simp at hn;omega⟩
  have:s.length≤i:=by simpa using h
  have hb:HQ s (JX 256) (nv b) (i:Int)=some (.out (.go (nv b))):=by
   unfold HQ;rw[A2 (Aeg (by omega))]
  rw[BJ,hb];rfl
 | c::r,n,i,b,h,hs,hn,hi=>by
  obtain⟨n,rfl⟩:∃m,n=m+1:=⟨n-1,by simp at hn;omega⟩
  obtain⟨_,hl,hd⟩:=Ge h;have hbt:=MK h;have hz:(b^^^IA c).toNat % 256<256:=by omega
  have hb:HQ s (JX 256) (nv b) (i:Int)=some (.next (nv (RB 8 (b^^^IA c)),((i+1:Nat):Int))):=by
   unfold HQ;rw[AC (Aei (by omega)),AW (by omega) (by omega),hbt,Aab,AW (by omega) (by omega),AW (by omega) (by rw[Kj];omega),A4 (by omega) (by omega),AcS hz,ZX];rfl
  rw[BJ,hb];exact QC s r n (i+1) _ hd hs (by simp at hn;omega) (by omega)
theorem Vw {F:Nat}{s:Af}(hF:300<F)(hs:s.length<F)(hl:s.length≤1000000000):Xf F s=some (MI s:Int):=by
 unfold Xf;rw[AI (Xe hF),B7 (Aei List.length_replicate),B7 (Aei (Kj 256))];rw[show((4294967295:Int),(0:Int))=(nv 4294967295#32,((0:Nat):Int)) from rfl,AI (QC s s F 0 _ rfl hl hs (by omega))];show some (Rt .u32 (nv (U5 4294967295#32 s)))=_;rw[YI];rfl
theorem OY {F:Nat}(hF:8<F)(s:Af):∀(r:Af) (n i:Nat) (b:BitVec 32),s.drop i=r→s.length≤1000000000→r.length<n→i≤s.length→BJ (λσ:Int×Int=>GA F s σ.1 σ.2) n (nv b,(i:Int))=some (.go (nv (U5 b r)))
 | [],n,i,b,h,hs,hn,hi=>by
  obtain⟨n,rfl⟩:∃m,n=m+1:=⟨n-1,by simp at hn;omega⟩
  have:s.length≤i:=by simpa using h
  have hb:GA F s (nv b) (i:Int)=some (.out (.go (nv b))):=by
   unfold GA;rw[A2 (Aeg (by omega))]
  rw[BJ,hb];rfl
 | c::r,n,i,b,h,hs,hn,hi=>by
  obtain⟨n,rfl⟩:∃m,n=m+1:=⟨n-1,by simp at hn;omega⟩
  obtain⟨_,hl,hd⟩:=Ge h;have hbt:=MK h;have e:ET .u32 (nv b) (IntKind.wrap .u32 (c.toNat:Int))=nv (b^^^IA c):=by
   rw[TI,Ow,PD,PD];rfl
  have hb:GA F s (nv b) (i:Int)=some (.next (nv (RB 8 (b^^^IA c)),((i+1:Nat):Int))):=by
   unfold GA;rw[AC (Aei (by omega)),AW (by omega) (by omega),hbt,e,AI (Ye 8 F _ 0 (by omega) (by omega) hF),CU];unfold Kr;rw[A4 (by omega) (by omega)];rfl
  rw[BJ,hb];exact OY hF s r n (i+1) _ hd hs (by simp at hn;omega) (by omega)
theorem Yt {F:Nat}{s:Af}(hF:300<F)(hs:s.length<F)(hl:s.length≤1000000000):S8 F s=some (MI s:Int):=by
 unfold S8;rw[show((4294967295:Int),(0:Int))=(nv 4294967295#32,((0:Nat):Int)) from rfl,AI (OY (by omega) s s F 0 _ rfl hl hs (by omega))];show some (Rt .u32 (nv (U5 4294967295#32 s)))=_;rw[YI];rfl
theorem XU (n k:Nat)(h:k≤32):BZ .u32 (n:Int) (k:Int)=((n/2 ^ k:Nat):Int):=by
 unfold BZ;have e:min (k:Int).toNat (IntKind.bits .u32)=k:=by
  have:IntKind.bits .u32=32:=rfl;rw[this];omega
 rw[e,Int.fdiv_eq_ediv_of_nonneg _ (Int.pow_nonneg (by omega))];simp
theorem Tr (n:Nat):([IntKind.wrap .u8 (BZ .u32 (n:Int) 24),IntKind.wrap .u8 (BZ .u32 (n:Int) 16),IntKind.wrap .u8 (BZ .u32 (n:Int) 8),IntKind.wrap .u8 (n:Int)]:List Int)=Dy (T8 n):=by
 have ha:BZ .u32 (n:Int) 24=((n/16777216:Nat):Int):=XU n 24 (by omega);have hb:BZ .u32 (n:Int) 16=((n/65536:Nat):Int):=XU n 16 (by omega);have h8:BZ .u32 (n:Int) 8=((n/256:Nat):Int):=XU n 8 (by omega);rw[ha,hb,h8,O8,O8,O8,O8];rfl
theorem P3 (n:Nat):KZ (n:Int)=some (T8 n):=by
 unfold KZ;rw[Tr,Oq]
theorem Wu (n:Nat):OX (n:Int)=some (Dy (T8 n)):=by
 unfold OX;rw[Tr]
theorem K6 {n:Nat}(h:n<4294967296):IntKind.wrap .u32 (n:Int)=(n:Int):=by
 rw[TI];unfold nv;rw[BitVec.toNat_ofNat];omega
theorem AcH (x y:Int):J3 .u32 x y=nv (bv x||| bv y):=QQ (bv x||| bv y)
theorem Rs {x y:Nat}(hx:x<4294967296)(hy:y<4294967296):J3 .u32 (x:Int) (y:Int)=((x||| y:Nat):Int):=by
 rw[AcH];unfold nv;rw[BitVec.toNat_or];have e:∀z:Nat,z<4294967296→(bv (z:Int)).toNat=z:=λz hz=>by
  have:=AbR (x:=(z:Int)) ⟨by omega,by omega⟩;unfold nv at this;exact Int.ofNat_inj.1 this
 rw[e x hx,e y hy]
theorem XV {n k:Nat}(h:k≤32)(hn:n*2 ^ k<4294967296):Do .u32 (n:Int) (k:Int)=((n <<< k:Nat):Int):=by
 unfold Do;have e:min (k:Int).toNat (IntKind.bits .u32)=k:=by
  have:IntKind.bits .u32=32:=rfl;rw[this];omega
 rw[e,Nat.shiftLeft_eq,show(n:Int)*2 ^ k=((n*2 ^ k:Nat):Int) from by simp,K6 hn]
theorem Acw {a b c d:Nat}(ha:a<256)(hb:b<256)(hc:c<256)(hd:d<256):((a <<< 24||| b <<< 16)||| c <<< 8)||| d=((a*256+b)*256+c)*256+d:=by
 have e1:a <<< 24||| b <<< 16=(a*256+b) <<< 16:=by
  rw[← Nat.shiftLeft_add_eq_or_of_lt (by rw[Nat.shiftLeft_eq];omega)];simp only[Nat.shiftLeft_eq];omega
 have e2:(a*256+b) <<< 16||| c <<< 8=((a*256+b)*256+c) <<< 8:=by
  rw[← Nat.shiftLeft_add_eq_or_of_lt (by rw[Nat.shiftLeft_eq];omega)];simp only[Nat.shiftLeft_eq];omega
 rw[e1,e2,← Nat.shiftLeft_add_eq_or_of_lt (by omega)];simp only[Nat.shiftLeft_eq]
theorem P1 {s:Af}(h:4≤s.length):KW s=some (DR s:Int):=by
 match s,h with
 | a::b::c::d::r,_=>
  have ha:=a.toNat_lt;have hb:=b.toNat_lt;have hc:=c.toNat_lt;have hd:=d.toNat_lt;unfold KW;rw[AW (by omega) (by simp only[Aef];omega),AW (by omega) (by simp only[Aef];omega),AW (by omega) (by simp only[Aef];omega),AW (by omega) (by simp only[Aef];omega)];have b0:AM (a::b::c::d::r) 0=(a.toNat:Int):=rfl;have b1:AM (a::b::c::d::r) 1=(b.toNat:Int):=rfl;have b2:AM (a::b::c::d::r) 2=(c.toNat:Int):=rfl;have b3:AM (a::b::c::d::r) 3=(d.toNat:Int):=rfl;have s1:Do .u32 (a.toNat:Int) 24=((a.toNat <<< 24:Nat):Int):=XV (k:=24) (by omega) (by omega);have s2:Do .u32 (b.toNat:Int) 16=((b.toNat <<< 16:Nat):Int):=XV (k:=16) (by omega) (by omega);have s3:Do .u32 (c.toNat:Int) 8=((c.toNat <<< 8:Nat):Int):=XV (k:=8) (by omega) (by omega);have l1:a.toNat <<< 24<4294967296:=by rw[Nat.shiftLeft_eq];omega
  have l2:b.toNat <<< 16<4294967296:=by rw[Nat.shiftLeft_eq];omega
  have l3:c.toNat <<< 8<4294967296:=by rw[Nat.shiftLeft_eq];omega
  rw[b0,b1,b2,b3,K6 (by omega),K6 (by omega),K6 (by omega),K6 (by omega),s1,s2,s3,Rs l1 l2,Rs (Nat.or_lt_two_pow (n:=32) l1 l2) l3,Rs (Nat.or_lt_two_pow (n:=32) (Nat.or_lt_two_pow (n:=32) l1 l2) l3) (by omega),Acw ha hb hc hd];rfl
theorem IC (n:Nat):(T8 n).length=4:=rfl
theorem Dc (s:Af):(Dy s).length=s.length:=by simp[Dy]
theorem Ts {F:Nat}(hF:262200<F)(b:Af):P0 F b=some (bif decide (262136<b.length) then([],3) else(CJ b,0)):=by
 unfold P0
 cases h:decide (262136<b.length) with
 | true=>rw[AC (Aei (by have:=Aep h;omega))];rfl
 | false=>
  have h':=AeB h;rw[A2 (Aeg (by omega)),K6 (by omega),AI (P3 _),AI (Vw (by omega) (by omega) (by omega)),AI (P3 _)];rw[A4 (by rw[IC,IC];omega) (by rw[IC,IC];omega),A4 (by rw[Aen,IC,IC];omega) (by rw[Aen,IC,IC];omega)];rfl
theorem VM {n:Nat}(h:n<4294967296):IntKind.wrap .i64 (n:Int)=(n:Int):=by rw[IntKind.wrap_i64];omega
theorem ZT (s:Af)(n:Nat):List.take (Int.toNat (8+(n:Int))-Int.toNat 8) (List.drop (Int.toNat 8) s)=(s.drop 8).take n:=by
 rw[show Int.toNat (8+(n:Int))-Int.toNat 8=n from by omega];rfl
theorem ZC {F:Nat}(hF:262200<F){s:Af}(hs:s.length≤1000000000):Tu F s=some (Dk s):=by
 unfold Tu Dk
 cases h1:decide (s.length<8) with
 | true=>rw[AC (Aei (by have:=Aep h1;omega))];rfl
 | false=>
  have h1':=AeB h1;have hn:=Rl s;rw[A2 (Aeg (by omega)),AI (P1 (by omega)),VM hn];simp only[Aeh]
  cases h2:decide (262136<DR s) with
  | true=>rw[AC (Aei (by have:=Aep h2;omega))];rfl
  | false=>
   have h2':=AeB h2;rw[A2 (Aeg (by omega)),A4 (by omega) (by omega)];simp only[Aeh]
   cases h3:decide (s.length-8<DR s) with
   | true=>rw[AC (Aei (by have:=Aep h3;omega))];rfl
   | false=>
    have h3':=AeB h3;rw[A2 (Aeg (by omega)),A4 (by omega) (by omega),BN (by omega) (by omega),BN (by omega) (by omega),ZT];have hl:((s.drop 8).take (DR s)).length=DR s:=by simp;omega
    rw[AI (Vw (by omega) (by rw[hl];omega) (by rw[hl];omega)),BN (by omega) (by omega),AI (P1 (by simp;omega))];simp only[Aeh];rw[show decide (((MI ((s.drop 8).take (DR s)):Nat):Int)=((DR (List.drop (Int.toNat 4) s):Nat):Int))=decide (MI ((s.drop 8).take (DR s))=DR (s.drop 4)) from by rw[Aev];simp only[Aed];exact Int.ofNat_inj]
    cases decide (MI ((s.drop 8).take (DR s))=DR (s.drop 4)) with
    | true=>rfl
    | false=>rfl
theorem Wt {F:Nat}(hF:262200<F){s:Af}(hs:s.length≤1000000000):OW F s=some (Dk s):=by
 unfold OW Dk
 cases h1:decide (s.length<8) with
 | true=>rw[AC (Aei (by have:=Aep h1;omega))];rfl
 | false=>
  have h1':=AeB h1
  match s,h1',hs with
  | a::b::c::d::r,h1',hs=>
   have ha:=a.toNat_lt;have hb:=b.toNat_lt;have hc:=c.toNat_lt;have hd:=d.toNat_lt;generalize hS:a::b::c::d::r=s at *;have b0:AM s 0=(a.toNat:Int):=by rw[← hS];rfl
   have b1:AM s 1=(b.toNat:Int):=by rw[← hS];rfl
   have b2:AM s 2=(c.toNat:Int):=by rw[← hS];rfl
   have b3:AM s 3=(d.toNat:Int):=by rw[← hS];rfl
   have hn:DR s=((a.toNat*256+b.toNat)*256+c.toNat)*256+d.toNat:=by rw[← hS];rfl
   have hnI:((((((a.toNat:Int)*256)+(b.toNat:Int))*256)+(c.toNat:Int))*256)+(d.toNat:Int)=((DR s:Nat):Int):=by rw[hn];omega
   have hlt:=Rl s;have hlt2:=Rl (s.drop 4);rw[A2 (Aeg (by omega)),b0,b1,b2,b3];rw[AW (by omega) (by omega),A4 (by omega) (by omega),A4 (by omega) (by omega),AW (by omega) (by omega),A4 (by omega) (by omega),A4 (by omega) (by omega),A4 (by omega) (by omega),AW (by omega) (by omega),A4 (by omega) (by omega),A4 (by omega) (by omega),A4 (by omega) (by omega),AW (by omega) (by omega),A4 (by omega) (by omega),A4 (by omega) (by omega)];rw[hnI];simp only[Aeh]
   cases h2:decide (262136<DR s) with
   | true=>rw[AC (Aei (by have:=Aep h2;omega))];rfl
   | false=>
    have h2':=AeB h2;rw[A2 (Aeg (by omega)),A4 (by omega) (by omega)];simp only[Aeh]
    cases h3:decide (s.length-8<DR s) with
    | true=>rw[AC (Aei (by have:=Aep h3;omega))];rfl
    | false=>
     have h3':=AeB h3;rw[A2 (Aeg (by omega)),A4 (by omega) (by omega),BN (by omega) (by omega),BN (by omega) (by omega),ZT];have hl:((s.drop 8).take (DR s)).length=DR s:=by simp;omega
     rw[AI (Yt (by omega) (by rw[hl];omega) (by rw[hl];omega)),AI (Wu _),BN (by omega) (by omega),BN (by omega) (by omega),Oq];simp only[Aeh];rw[show List.take (Int.toNat 8-Int.toNat 4) (List.drop (Int.toNat 4) s)=T8 (DR (s.drop 4)) from(PF (by simp;omega)).symm];rw[show decide (T8 (MI ((s.drop 8).take (DR s)))=T8 (DR (s.drop 4)))=decide (MI ((s.drop 8).take (DR s))=DR (s.drop 4)) from by
      rw[Aev];simp only[Aed];constructor
      ·intro e;have e1:=Mt (V9 ((s.drop 8).take (DR s))) [];have e2:=Mt hlt2 [];rw[e] at e1;exact e1.symm.trans e2
      ·intro e;rw[e]]
     cases decide (MI ((s.drop 8).take (DR s))=DR (s.drop 4)) with
     | true=>rfl
     | false=>rfl
  | [],h1',_=>exact absurd (by simp) h1'
  | [_],h1',_=>exact absurd (by simp) h1'
  | [_,_],h1',_=>exact absurd (by simp) h1'
  | [_,_,_],h1',_=>exact absurd (by simp) h1'
theorem L3 {O:Type}(s:Af)(b:List Af×Int→Option (Stp (List Af×Int) O))(e:List Af→Int→O)
  (hb:∀(acc:List Af) (x:Nat),x≤s.length→acc.length≤x→b (acc,(x:Int))=bif decide ((Dk (s.drop x)).2.2=0) then some (.next (acc++[(Dk (s.drop x)).1],(x:Int)+(Dk (s.drop x)).2.1)) else some (.out (e acc (x:Int)))) :
  ∀(n m:Nat) (acc:List Af) (x:Nat),x≤s.length→acc.length≤x→s.length-x≤n→n<m→BJ b m (acc,(x:Int))=some (e (acc++(BF n (s.drop x)).1) ((x+(BF n (s.drop x)).2:Nat):Int))
 | n,0,acc,x,hx,ha,hn,hm=>by omega
 | n,m+1,acc,x,hx,ha,hn,hm=>by
  rw[BJ,hb acc x hx ha]
  cases h:decide ((Dk (s.drop x)).2.2=0) with
  | false=>
   have:BF n (s.drop x)=([],0):=by
    cases n with
    | zero=>rfl
    | succ n=>rw[BF,h];rfl
   rw[this];simp only[Aeh,AeF,Nat.add_zero]
  | true=>
   obtain⟨h1,h2,h3⟩:=Mp (Aep h);have hl:=congrArg List.length h3;rw[Aen,EH,Afc] at hl
   cases n with
   | zero=>omega
   | succ n=>
    rw[BF,h];simp only[Aek];rw[h2,show(((8+(Dk (s.drop x)).1.length:Nat):Int)).toNat=8+(Dk (s.drop x)).1.length from by omega,Afb];rw[show(x:Int)+((8+(Dk (s.drop x)).1.length:Nat):Int)=((x+(8+(Dk (s.drop x)).1.length):Nat):Int) from by omega];rw[L3 s b e hb n m _ (x+(8+(Dk (s.drop x)).1.length)) (by omega) (by rw[Aen,AeC];omega) (by omega) (by omega)];rw[Ae5,Nat.add_assoc x];rfl
theorem Xi {F:Nat}(hF:262200<F){s:Af}(hs:s.length<F)(hl:s.length≤999999999):Pz F s=some ((BF s.length s).1,((BF s.length s).2:Int)):=by
 unfold Pz;have:=L3 s (λσ=>Ha F s σ.1 σ.2) (λa x=>.go (a,x)) (λacc x hx ha=>by
  show Ha F s acc (x:Int)=_;unfold Ha;rw[Int.toNat_natCast]
  by_cases hx2:x<s.length
  ·rw[AC (Aei (by omega)),BN (by omega) (by omega),AI (ZC hF (by simp;omega))]
   cases h:decide ((Dk (s.drop x)).2.2=0) with
   | false=>rfl
   | true=>
    obtain⟨h1,h2,h3⟩:=Mp (Aep h);rw[A2 (p:=!true) rfl,Jy (by simp;omega),A4 (by omega) (by omega)];rfl
  ·have:s.drop x=[]:=List.drop_eq_nil_of_le (by omega);rw[A2 (Aeg (by omega)),this,SG];rfl) s.length F [] 0 (by omega) (by simp) (by omega) hs
 rw[show(([]:List Af),(0:Int))=([],((0:Nat):Int)) from rfl,AI this,CU];unfold Jt;rw[BN (by omega) (Ae8 _),Int.toNat_natCast,Afa,List.drop_zero,AeE,AeU]
theorem Uf {F:Nat}(hF:262200<F){s:Af}(hs:s.length<F)(hl:s.length≤999999999):Mh F s=some ((BF s.length s).1,((BF s.length s).2:Int)):=by
 unfold Mh;have:=L3 s (λσ=>Gp F s σ.1 σ.2) (λa x=>.ret (a,x)) (λacc x hx ha=>by
  show Gp F s acc (x:Int)=_;unfold Gp;rw[Int.toNat_natCast,BN (by omega) (by omega),AI (Wt hF (by simp;omega))]
  cases h:decide ((Dk (s.drop x)).2.2=0) with
  | false=>rfl
  | true=>
   obtain⟨h1,h2,h3⟩:=Mp (Aep h);rw[A2 (p:=!true) rfl,Jy (by simp;omega),A4 (by omega) (by omega)];rfl) s.length F [] 0 (by omega) (by simp) (by omega) hs
 rw[show(([]:List Af),(0:Int))=([],((0:Nat):Int)) from rfl,AI this,Mo,List.drop_zero,AeE,AeU]
theorem P2 {F:Nat}(hF:262200<F)(l:List Af)(hl:l.length≤1000000000):∀(r:List Af) (n i:Nat) (acc:Af),l.drop i=r→i≤l.length→r.length<n→acc.length≤262144→
  Br (BJ (λσ:List Int×Int=>GD F l σ.1 σ.2) n (Dy acc,(i:Int))) (BE λν=>Kx ν)=some (bif decide ((acc++r.flatMap CJ).length≤262144) then(acc++r.flatMap CJ,0) else([],3))
 | [],n,i,acc,h,hi,hn,ha=>by
  obtain⟨n,rfl⟩:∃m,n=m+1:=⟨n-1,by simp at hn;omega⟩
  have:l.length≤i:=by simpa using h
  have hb:GD F l (Dy acc) (i:Int)=some (.out (.go (Dy acc))):=by
   unfold GD;rw[A2 (Aeg (by omega))]
  rw[BJ,hb,List.flatMap_nil,AeF,Aei ha];show some (Nd (Dy acc),0)=_;rw[Oq];rfl
 | c::r,n,i,acc,h,hi,hn,ha=>by
  obtain⟨n,rfl⟩:∃m,n=m+1:=⟨n-1,by simp at hn;omega⟩
  obtain⟨hat,hlt,hd⟩:=Ge h;have hs:=EH c;have hlen:(acc++(c::r).flatMap CJ).length=acc.length+(8+c.length)+(r.flatMap CJ).length:=by
   rw[Afd,Aen,Aen,hs];omega
  have hb:GD F l (Dy acc) (i:Int)=bif decide (acc.length+(8+c.length)≤262144) then some (.next (Dy (acc++CJ c),((i+1:Nat):Int))) else some (.out (.ret ([],3))):=by
   unfold GD;rw[AC (Aei (by omega)),AW (by omega) (by omega),hat]
   cases h1:decide (262136<c.length) with
   | true=>
    have hsl:P0 F c=some ([],3):=by rw[Ts hF c,h1];rfl
    rw[AI hsl,Aeg (p:=acc.length+(8+c.length)≤262144) (by have:=Aep h1;omega)];rfl
   | false=>
    have h1':=AeB h1;have hsl:P0 F c=some (CJ c,0):=by rw[Ts hF c,h1];rfl
    have hk:Bs .i64 (((Dy acc).length:Int)+((CJ c).length:Int))=true:=Hm (by rw[Dc,hs];omega) (by rw[Dc,hs];omega);rw[AI hsl,B7 (by rw[hk];exact AcF _)]
    cases h2:decide (acc.length+(8+c.length)≤262144) with
    | false=>
     have h2':=AeB h2;have hx:decide ((262144:Int)<((Dy acc).length:Int)+((CJ c).length:Int))=true:=Aei (by rw[Dc,hs];omega);rw[AC (by rw[hx,Ae7])];rfl
    | true=>
     have h2':=Aep h2;have hx:decide ((262144:Int)<((Dy acc).length:Int)+((CJ c).length:Int))=false:=Aeg (by rw[Dc,hs];omega);rw[A2 (by rw[hx];rfl),Jz (by rw[Dc,hs];omega),A4 (by omega) (by omega),UM];rfl
  rw[BJ,hb]
  cases h2:decide (acc.length+(8+c.length)≤262144) with
  | false=>
   have h2':=AeB h2;rw[Aeg (p:=(acc++(c::r).flatMap CJ).length≤262144) (by rw[hlen];omega)];rfl
  | true=>
   have h2':=Aep h2;have:=P2 hF l hl r n (i+1) (acc++CJ c) hd (by omega) (by simp at hn;omega) (by rw[Aen,hs];omega);simp only[Aek];rw[this,Afd,Ae5]
theorem ZD {F:Nat}(hF:262200<F){l:List Af}(hl:l.length<F)(hb:l.length≤1000000000):Tv F l=some (Vr l):=by
 unfold Tv;have:=P2 hF l hb l F 0 [] rfl (by omega) hl (by simp);rw[AeE] at this;exact this
theorem J7:∀a:Af,BR a a=false
 | []=>rfl
 | x::a=>by
  show Op.bytesLess (x::a) (x::a)=false;have h : ¬ x<x:=λh=>absurd h (by simp);have ih:Op.bytesLess a a=false:=J7 a;simp[Op.bytesLess,h,ih]
theorem QS (x y:UInt8)(a b:Af):BR (x::a) (y::b)=(decide (x<y)||(decide (x=y)&&BR a b)):=by
 show Op.bytesLess (x::a) (y::b)=_;simp only[Op.bytesLess]
 by_cases h:x<y
 ·simp[h]
 ·by_cases e:x=y
  ·subst e;simp[h]
  ·have:y<x:=by
    rcases Nat.lt_trichotomy x.toNat y.toNat with h1 | h1 | h1
    ·exact absurd (UInt8.lt_iff_toNat_lt.2 h1) h
    ·exact absurd (UInt8.toNat_inj.1 h1) e
    ·exact UInt8.lt_iff_toNat_lt.2 h1
   simp[h,e,this]
theorem Kk:∀{a b c:Af},BR a b=true→BR b c=true→BR a c=true
 | [],[],_,h,_=>by cases h
 | [],_::_,[],_,h=>by cases h
 | [],_::_,_::_,_,_=>rfl
 | _::_,[],_,h,_=>by cases h
 | _::_,_::_,[],_,h=>by cases h
 | x::a,y::b,z::c,h,h'=>by
  rw[QS] at h h' ⊢;simp only[AeG,Aed,Aej] at h h' ⊢;have t:∀{u v:UInt8},u<v↔u.toNat<v.toNat:=UInt8.lt_iff_toNat_lt;rcases h with h | ⟨rfl,h⟩
  ·rcases h' with h' | ⟨rfl,h'⟩
   ·exact .inl (t.2 (Nat.lt_trans (t.1 h) (t.1 h')))
   ·exact .inl h
  ·rcases h' with h' | ⟨rfl,h'⟩
   ·exact .inl h'
   ·exact .inr ⟨rfl,Kk h h'⟩
theorem ON:∀(a b:Af),BR a b=true∨a=b∨BR b a=true
 | [],[]=>.inr (.inl rfl)
 | [],_::_=>.inl rfl
 | _::_,[]=>.inr (.inr rfl)
 | x::a,y::b=>by
  rw[QS,QS];simp only[AeG,Aed,Aej];rcases Nat.lt_trichotomy x.toNat y.toNat with h1 | h1 | h1
  ·exact .inl (.inl (UInt8.lt_iff_toNat_lt.2 h1))
  ·have e:=UInt8.toNat_inj.1 h1;subst e;rcases ON a b with h | rfl | h
   ·exact .inl (.inr ⟨rfl,h⟩)
   ·exact .inr (.inl rfl)
   ·exact .inr (.inr (.inr ⟨rfl,h⟩))
  ·exact .inr (.inr (.inl (UInt8.lt_iff_toNat_lt.2 h1)))
theorem XT {a b:Af}(h:BR a b=true):BR b a=false:=by
 cases h':BR b a with
 | false=>rfl
 | true=>have:=Kk h h';rw[J7] at this;cases this
theorem AbL {a b:Af}(h:BR a b=true):a≠b:=λe=>by subst e;rw[J7] at h;cases h
section
variable {T : Type}
def Ms (xs:List (Af×T)):Prop:=xs.Pairwise λp q=>BR p.1 q.1=true
theorem Ms.nil:Ms ([]:List (Af×T)):=List.Pairwise.nil
theorem Ms.nodup {xs:List (Af×T)}(h:Ms xs):(xs.map (·.1)).Nodup:=by
 rw[List.Nodup,List.pairwise_map];exact h.imp λhpq=>AbL hpq
theorem EP {xs:List (Af×T)}{k:Af}:BA xs k=none↔∀p∈xs,p.1≠k:=by
 induction xs with
 | nil=>simp[BA]
 | cons p r ih=>
  rw[BA]
  by_cases h:p.1=k
  ·rw[Aei h];simp[h]
  ·rw[Aeg h];simp[h,ih]
theorem C7 {xs:List (Af×T)}{k:Af}{v:T}(h:BA xs k=some v):(k,v)∈xs:=by
 induction xs with
 | nil=>cases h
 | cons p r ih=>
  rw[BA] at h
  by_cases e:p.1=k
  ·rw[Aei e] at h;cases h;subst e;exact List.mem_cons_self ..
  ·rw[Aeg e] at h;exact List.mem_cons_of_mem _ (ih h)
theorem Kt {xs:List (Af×T)}{k:Af}{v:T}(hn:(xs.map (·.1)).Nodup)(h:(k,v)∈xs):BA xs k=some v:=by
 induction xs with
 | nil=>cases h
 | cons p r ih=>
  rw[AeR,List.nodup_cons] at hn;rw[BA];rcases List.mem_cons.1 h with h | h
  ·subst h;rw[Aei rfl];rfl
  ·have hne : ¬ p.1=k:=λe=>hn.1 (by rw[e];exact List.mem_map.2 ⟨(k,v),h,rfl⟩);rw[Aeg hne];exact ih hn.2 h
theorem WB (xs:List (Af×T))(k k':Af)(v:T):BA (mput xs k v) k'=bif decide (k'=k) then(BA xs k).map (λ_=>v) else BA xs k':=by
 induction xs with
 | nil=>cases decide (k'=k)<;>rfl
 | cons p r ih=>
  show BA ((bif decide (p.1=k) then(k,v) else p)::mput r k v) k'=_
  by_cases h:p.1=k
  ·rw[Aei h];simp only[Aek,BA]
   by_cases e:k'=k
   ·subst e;rw[Aei rfl,h,Aei rfl];rfl
   ·rw[Aeg (Ne.symm e),Aeg e,ih,Aeg e,h,Aeg (Ne.symm e)];rfl
  ·rw[Aeg h];simp only[Aeh,BA];rw[ih]
   by_cases e:k'=k
   ·subst e;rw[Aei rfl,Aeg h];rfl
   ·rw[Aeg e]
    cases decide (p.1=k')<;>rfl
theorem WD (xs:List (Af×T))(k k':Af)(v:T)(h:BA xs k=none):BA (mins k v xs) k'=bif decide (k'=k) then some v else BA xs k':=by
 induction xs with
 | nil=>
  show(bif decide (k=k') then some v else none)=bif decide (k'=k) then some v else none
  by_cases e:k'=k
  ·rw[Aei e,Aei e.symm]
  ·rw[Aeg e,Aeg (Ne.symm e)]
 | cons p r ih=>
  rw[BA] at h
  by_cases hk:p.1=k
  ·rw[Aei hk] at h;cases h
  ·rw[Aeg hk] at h;rw[mins]
   cases BR k p.1 with
   | true=>
    simp only[Aek,BA]
    by_cases e:k'=k
    ·subst e;rw[Aei rfl]
     try rfl
    ·rw[Aeg e,Aeg (Ne.symm e)]
     try rfl
   | false=>
    simp only[Aeh,BA];rw[ih h]
    by_cases e:k'=k
    ·subst e;rw[Aei rfl,Aeg hk];rfl
    ·rw[Aeg e]
     cases decide (p.1=k')<;>rfl
theorem Qz (xs:List (Af×T))(k k':Af)(v:T):BA (mset xs k v) k'=bif decide (k'=k) then some v else BA xs k':=by
 unfold mset CG
 cases h:BA xs k with
 | none=>exact WD xs k k' v h
 | some w=>
  simp only[Option.isSome_some,Aek];rw[WB,h]
  cases decide (k'=k)<;>rfl
theorem WE (xs:List (Af×T))(k k':Af):BA (mdel xs k) k'=bif decide (k'=k) then none else BA xs k':=by
 unfold mdel
 induction xs with
 | nil=>cases decide (k'=k)<;>rfl
 | cons p r ih=>
  by_cases h:p.1=k
  ·rw[List.filter_cons_of_neg (by simp[h]),ih,BA]
   by_cases e:k'=k
   ·rw[Aei e];rfl
   ·rw[Aeg e,h,Aeg (Ne.symm e)];rfl
  ·rw[List.filter_cons_of_pos (by simp[h]),BA,BA,ih]
   by_cases e:k'=k
   ·rw[Aei e,e,Aeg h];rfl
   ·rw[Aeg e]
    cases decide (p.1=k')<;>rfl
theorem Ph {k:Af}{v:T}{q:Af×T}:∀{xs:List (Af×T)},q∈mins k v xs→q=(k,v)∨q∈xs
 | [],h=>by simp[mins] at h;exact .inl h
 | p::r,h=>by
  rw[mins] at h
  cases hs:BR k p.1 with
  | true=>rw[hs] at h;simpa using h
  | false=>
   rw[hs] at h;rcases List.mem_cons.1 h with h | h
   ·exact .inr (by rw[h];exact List.mem_cons_self ..)
   ·rcases Ph h with h | h
    ·exact .inl h
    ·exact .inr (List.mem_cons_of_mem _ h)
theorem Ms.mins {k:Af}{v:T}:∀{xs:List (Af×T)},Ms xs→BA xs k=none→Ms (mins k v xs)
 | [],_,_=>List.pairwise_singleton ..
 | p::r,h,hk=>by
  obtain⟨h1,h2⟩:=List.pairwise_cons.1 h;rw[BA] at hk
  by_cases e:p.1=k
  ·rw[Aei e] at hk;cases hk
  ·rw[Aeg e] at hk;rw[Proofs.YtjfnokmpfekniaaGreatDoor.mins]
   cases hs:BR k p.1 with
   | true=>exact List.pairwise_cons.2 ⟨λq hq=>by
     rcases List.mem_cons.1 hq with rfl | hq
     ·exact hs
     ·exact Kk hs (h1 q hq),h⟩
   | false=>
    have hp:BR p.1 k=true:=by
     rcases ON p.1 k with h | h | h
     ·exact h
     ·exact absurd h e
     ·rw[h] at hs;cases hs
    exact List.pairwise_cons.2 ⟨λq hq=>by
     rcases Ph hq with rfl | hq
     ·exact hp
     ·exact h1 q hq,Ms.mins h2 hk⟩
theorem Ms.mput {xs:List (Af×T)}(h:Ms xs)(k:Af)(v:T):Ms (mput xs k v):=by
 unfold Proofs.YtjfnokmpfekniaaGreatDoor.mput;unfold Ms;rw[List.pairwise_map];refine h.imp fun {p q} hpq=>?_;have e:∀p:Af×T,(bif decide (p.1=k) then(k,v) else p).1=p.1:=λp=>by
  by_cases hp:p.1=k
  ·rw[Aei hp];exact hp.symm
  ·rw[Aeg hp];rfl
 rw[e,e];exact hpq
theorem Ms.mset {xs:List (Af×T)}(h:Ms xs)(k:Af)(v:T):Ms (mset xs k v):=by
 unfold Proofs.YtjfnokmpfekniaaGreatDoor.mset CG
 cases hk:BA xs k with
 | none=>exact h.mins hk
 | some w=>exact h.mput k v
theorem Ms.mdel {xs:List (Af×T)}(h:Ms xs)(k:Af):Ms (mdel xs k):=h.sublist (List.filter_sublist ..)
theorem Ms.ext:∀{xs ys:List (Af×T)},Ms xs→Ms ys→(∀k,BA xs k=BA ys k)→xs=ys
 | [],[],_,_,_=>rfl
 | [],q::s,_,_,h=>by
  have:=h q.1;rw[BA,BA,Aei rfl] at this;cases this
 | p::r,[],_,_,h=>by
  have:=h p.1;rw[BA,BA,Aei rfl] at this;cases this
 | p::r,q::s,hx,hy,h=>by
  obtain⟨x1,x2⟩:=List.pairwise_cons.1 hx;obtain⟨y1,y2⟩:=List.pairwise_cons.1 hy;have hpq:p.1=q.1:=by
   have a1:=h p.1;have a2:=h q.1;rw[BA,Aei rfl] at a1;rw[show BA (q::s) q.1=bif decide (q.1=q.1) then some q.2 else BA s q.1 from rfl,Aei rfl] at a2;simp only[Aek] at a1 a2;have m1:=C7 a1.symm;have m2:=C7 a2;rcases List.mem_cons.1 m1 with e | m1
   ·exact congrArg Prod.fst e
   ·rcases List.mem_cons.1 m2 with e | m2
    ·exact(congrArg Prod.fst e).symm
    ·have c1:=y1 _ m1;have c2:=x1 _ m2;have:=Kk c1 c2;rw[J7] at this;cases this
  have e:p=q:=by
   have a1:=h p.1;rw[BA,Aei rfl,BA,Aei hpq.symm] at a1;simp only[Aek,Option.some.injEq] at a1;exact Prod.ext hpq a1
  subst e;rw[Ms.ext x2 y2 λk=>by
   have a1:=h k;rw[BA,BA] at a1
   by_cases e:p.1=k
   ·have n1:BA r k=none:=EP.2 λz hz e'=>by have:=x1 z hz;rw[e',← e,J7] at this;cases this
    have n2:BA s k=none:=EP.2 λz hz e'=>by have:=y1 z hz;rw[e',← e,J7] at this;cases this
    rw[n1,n2]
   ·rw[Aeg e] at a1;exact a1]
theorem ST (k:Af)(v:T)(xs:List (Af×T)):(mins k v xs).length=xs.length+1:=(Nh k v xs).length_eq
theorem NE (xs:List (Af×T))(k:Af)(v:T):(mset xs k v).length=bif CG xs k then xs.length else xs.length+1:=by
 unfold mset
 cases CG xs k with
 | true=>simp[mput]
 | false=>simp[ST]
theorem SY {xs:List (Af×T)}(h:Ms xs)(k:Af):(mdel xs k).length=bif CG xs k then xs.length-1 else xs.length:=by
 induction xs with
 | nil=>rfl
 | cons p r ih=>
  obtain⟨h1,h2⟩:=List.pairwise_cons.1 h;unfold mdel CG at *;rw[BA]
  by_cases e:p.1=k
  ·have hn:r.filter (λq=>!decide (q.1=k))=r:=List.filter_eq_self.2 λq hq=>by
    have:=h1 q hq;have hne:q.1≠k:=λe'=>by rw[e',← e,J7] at this;cases this
    simp[hne]
   rw[List.filter_cons_of_neg (by simp[e]),hn,Aei e];rfl
  ·rw[List.filter_cons_of_pos (by simp[e]),Aeg e,Aef,ih h2]
   cases hg:BA r k with
   | none=>rfl
   | some w=>
    have:=C7 hg;have:0<r.length:=List.length_pos_of_mem this;show r.length-1+1=(r.length+1)-1;omega
end
theorem Td {T St R:Type}(body:T→St→Option (Stp St (Out R St)))(g:T→St→St)(I:St→Prop):∀(ord:List T) (s:St),I s→(∀p∈ord,∀s,I s→body p s=some (.next (g p s))∧I (g p s))→WJ body ord s=some (.go (ord.foldl (λs p=>g p s) s))∧I (ord.foldl (λs p=>g p s) s)
 | [],s,hi,_=>⟨rfl,hi⟩
 | p::r,s,hi,h=>by
  obtain⟨h1,h2⟩:=h p (List.mem_cons_self ..) s hi;obtain⟨h3,h4⟩:=Td body g I r (g p s) h2 λq hq=>h q (List.mem_cons_of_mem _ hq);exact⟨by rw[WJ,h1];exact h3,h4⟩
section
variable {T : Type}
theorem WA {xs ys:List (Af×T)}(h:ys.Perm xs)(hn:(xs.map (·.1)).Nodup)(k:Af):BA ys k=BA xs k:=by
 have hn':(ys.map (·.1)).Nodup:=(h.map _).nodup_iff.2 hn
 cases e:BA xs k with
 | none=>exact EP.2 λp hp=>(EP.1 e) p (h.subset hp)
 | some v=>exact Kt hn' (h.symm.subset (C7 e))
def O1 (del:T→Bool)(xs:List (Af×T))(p:Af×T):List (Af×T):=bif del p.2 then mdel xs p.1 else mset xs p.1 p.2
theorem Aai {del:T→Bool}{xs:List (Af×T)}(h:Ms xs)(p:Af×T):Ms (O1 del xs p):=by
 unfold O1
 cases del p.2 with
 | true=>exact h.mdel _
 | false=>exact h.mset _ _
theorem ML {del:T→Bool}:∀(ord:List (Af×T)) {xs:List (Af×T)},Ms xs→Ms (ord.foldl (O1 del) xs)
 | [],_,h=>h
 | p::r,_,h=>ML r (Aai h p)
theorem SW {del:T→Bool}(xs:List (Af×T))(p:Af×T)(k:Af):BA (O1 del xs p) k=bif decide (k=p.1) then(bif del p.2 then none else some p.2) else BA xs k:=by
 unfold O1
 cases del p.2 with
 | true=>exact WE xs p.1 k
 | false=>exact Qz xs p.1 k p.2
theorem KR {del:T→Bool}:∀(ord:List (Af×T)) (xs:List (Af×T)) (k:Af),(ord.map (·.1)).Nodup→BA (ord.foldl (O1 del) xs) k=match BA ord k with
  | none=>BA xs k
  | some v=>bif del v then none else some v
 | [],xs,k,_=>rfl
 | p::r,xs,k,h=>by
  rw[AeR,List.nodup_cons] at h;rw[List.foldl_cons,KR r _ k h.2,BA,SW]
  by_cases e:p.1=k
  ·have hn:BA r k=none:=EP.2 λq hq e'=>h.1 (by rw[e,← e'];exact List.mem_map.2 ⟨q,hq,rfl⟩);rw[hn,Aei e,Aei e.symm];rfl
  ·rw[Aeg e,Aeg (Ne.symm e)];rfl
theorem Xs {del:T→Bool}{xs ys zs:List (Af×T)}(hz:Ms zs)(hx:Ms xs)(h:ys.Perm xs):ys.foldl (O1 del) zs=xs.foldl (O1 del) zs:=
 Ms.ext (ML ys hz) (ML xs hz) λk=>by
  rw[KR ys zs k ((h.map _).nodup_iff.2 hx.nodup),KR xs zs k hx.nodup,WA h hx.nodup]
end
theorem Pc {R V:Type}(K:V→Option R)(v:V):BE K (.go v)=K v:=rfl
theorem Acv {R V:Type}(K:V→Option R)(r:R):BE K (.ret r)=some r:=rfl
theorem Jn {α R U:Type}[Inhabited α](l:List α)(P:α→Prop)(B:R→Prop)(u:U)(body:Int→Option (Stp Int (Out R U)))
  (h1:∀(x:Int) (c:α),0≤x→x<(l.length:Int)→c∈l→Aq l x=c→(body x=some (.next (x+1))∧P c)∨∃q,body x=some (.out (.ret q))∧B q)
  (h2:body (l.length:Int)=some (.out (.go u))) {F:Nat} (hF:l.length<F) :
  ∃o,BJ body F 0=some o∧((∃q,o = .ret q∧B q)∨(o = .go u∧∀c∈l,P c)):=by
 refine Gi (λx=>0≤x∧x≤(l.length:Int)∧∀c∈l.take x.toNat,P c) (λx=>l.length-x.toNat) _ (λx ⟨h0,hl,ha⟩=>?_) F 0 ⟨Ae8 0,by omega,by simp⟩ (by show l.length-0<F;omega)
 by_cases hx:x<(l.length:Int)
 ·obtain⟨c,hc⟩:∃c,l[x.toNat]? =some c:=⟨l[x.toNat]'(by omega),Aeq (by omega)⟩
  have hat:Aq l x=c:=by simp[Aq,hc]
  rcases h1 x c h0 hx (Aet hc) hat with⟨hb,hp⟩ | ⟨q,hb,hq⟩
  ·refine .inl ⟨x+1,hb,⟨by omega,by omega,λd hd=>?_⟩,by omega⟩;rw[show(x+1).toNat=x.toNat+1 from by omega,List.take_add_one,hc] at hd;simp only[Option.toList_some,List.mem_append,Afe,List.not_mem_nil,or_false] at hd;rcases hd with hd | rfl
   ·exact ha d hd
   ·exact hp
  ·exact .inr ⟨.ret q,hb,.inl ⟨q,rfl,hq⟩⟩
 ·have e:x=(l.length:Int):=by omega
  subst e;refine .inr ⟨.go u,h2,.inr ⟨rfl,λc hc=>ha c ?_⟩⟩;rw[show((l.length:Int)).toNat=l.length from by omega,Afa];exact hc
structure SmC (c:Ae):Prop where
 key:c.fKey.length≤300
 val:c.fValue.length≤300
 cells:∀x∈c.fValue,x.fStr.length≤5000
structure SmP (l:List Ae):Prop where
 len:l.length≤300
 all:∀c∈l,SmC c
theorem YY {F:Nat}(hF:5000<F)(l:List Ae):∃b,Pk F l=some b∧(b=true→SmP l):=by
 unfold Pk
 by_cases hl:(300:Int)<(l.length:Int)
 ·rw[AC (Aei hl)];exact⟨false,rfl,λh=>by cases h⟩
 ·rw[A2 (Aeg hl)];obtain⟨o,h1,h2⟩:=Jn l SmC (λq=>q=false) () (λσ=>DK F l σ) (λx c h0 hx hc hat=>by
   by_cases hk:(300:Int)<(c.fKey.length:Int)∨(300:Int)<(c.fValue.length:Int)
   ·refine .inr ⟨false,?_,rfl⟩;show DK F l x=_;unfold DK;rw[AC (Aei hx),AW h0 hx,hat,AC (by simpa using hk)]
   ·obtain⟨o,g1,g2⟩:=Jn c.fValue (λy=>y.fStr.length≤5000) (λq=>q = .out (.ret false)) (((c.fValue.length:Int)),decide ((c.fValue.length:Int)<(c.fValue.length:Int))) (λσ=>DY l x σ) (λy d y0 yx yc yat=>by
     by_cases hd:(5000:Int)<(d.fStr.length:Int)
     ·refine .inr ⟨_,?_,rfl⟩;show DY l x y=_;unfold DY;rw[hat,AC (Aei yx),AW y0 yx,yat,AC (Aei hd)]
     ·refine .inl ⟨?_,by omega⟩;show DY l x y=_;unfold DY;rw[hat,AC (Aei yx),AW y0 yx,yat,A2 (Aeg hd),A4 (by omega) (by omega)]) (by
     show DY l x _=_;unfold DY;rw[hat,A2 (Aeg (by omega))]) (F:=F) (by omega)
    have hb:DK F l x=Br (some o) (BE λν=>HX x ν.1 ν.2):=by
     unfold DK;rw[AC (Aei hx),AW h0 hx,g1,hat,A2 (by simpa using hk)]
    rcases g2 with⟨q,rfl,rfl⟩ | ⟨rfl,g⟩
    ·exact .inr ⟨false,hb,rfl⟩
    ·refine .inl ⟨?_,⟨by omega,by omega,g⟩⟩;show DK F l x=_;rw[hb,AI rfl,Pc];unfold HX;rw[A4 (by omega) (by omega)]) (by
   show DK F l _=_;unfold DK;rw[A2 (Aeg (by omega))]) (F:=F) (by omega)
  rw[AI h1];rcases h2 with⟨q,rfl,rfl⟩ | ⟨rfl,h⟩
  ·exact⟨false,rfl,λh=>by cases h⟩
  ·exact⟨true,rfl,λ_=>⟨by omega,h⟩⟩
theorem Ac6 {F:Nat}(hF:5000<F)(l:List (List Ae)):∃b,Rm F l=some b∧(b=true→l.length≤30∧∀m∈l,SmP m):=by
 unfold Rm
 by_cases hl:(30:Int)<(l.length:Int)
 ·rw[AC (Aei hl)];exact⟨false,rfl,λh=>by cases h⟩
 ·rw[A2 (Aeg hl)];obtain⟨o,h1,h2⟩:=Jn l SmP (λq=>q=false) () (λσ=>HL F l σ) (λx m h0 hx hm hat=>by
   obtain⟨b,hb,hs⟩:=YY hF m;have e:HL F l x=Bi (!b) (some (.out (.ret false))) (some (.next (x+1))):=by
    unfold HL;rw[AC (Aei hx),AW h0 hx,hat,hb,AI rfl,A4 (by omega) (by omega)]
   cases b with
   | false=>exact .inr ⟨false,e,rfl⟩
   | true=>exact .inl ⟨e,hs rfl⟩) (by
   show HL F l _=_;unfold HL;rw[A2 (Aeg (by omega))]) (F:=F) (by omega)
  rw[AI h1];rcases h2 with⟨q,rfl,rfl⟩ | ⟨rfl,h⟩
  ·exact⟨false,rfl,λh=>by cases h⟩
  ·exact⟨true,rfl,λ_=>⟨by omega,h⟩⟩
structure OkC (c:Ae):Prop where
 iv : -9223372036854775808≤c.fIfVersion∧c.fIfVersion≤9223372036854775807
 cells:∀x∈c.fValue,Bs .i64 x.fInt=true∧x.fN≤9223372036854775807
theorem Ab3 {v:List Aa}:Hp v≠19:=by
 unfold Hp
 cases whole v with
 | none=>decide
 | some f=>
  show GF f≠19;unfold GF
  cases f.flat.any Ci with
  | true=>show(2:Int)≠19;decide
  | false=>
   simp only[Aeh]
   cases(f.flat.any Is||(decide (200<f.flat.length)||(decide (8<f.dep)||decide (4000<(f.txt true).length))))<;>decide
theorem Zl {F:Nat}(hF:5000<F){c:Ae}(hs:SmC c)(ho:OkC c):∃e,JF F c=some e∧e≠19:=by
 have hA:IE 5000 c.fValue:=⟨by decide,by have:=hs.val;omega,λx hx=>⟨hs.cells x hx,(ho.cells x hx).1,(ho.cells x hx).2⟩⟩
 unfold JF;rw[IV hA (by decide) hF,AI rfl]
 cases Rr c.fKey with
 | false=>exact⟨4,rfl,by decide⟩
 | true=>
  rw[A2 (p:=!true) rfl]
  cases(decide (c.fIfVersion<(-1))||decide (1000000000000<c.fIfVersion)) with
  | true=>exact⟨2,rfl,by decide⟩
  | false=>
   rw[A2 rfl]
   cases(c.fDelete&&decide (0<(c.fValue.length:Int))) with
   | true=>exact⟨7,rfl,by decide⟩
   | false=>
    rw[A2 rfl]
    cases c.fDelete with
    | true=>exact⟨0,rfl,by decide⟩
    | false=>exact⟨_,rfl,Ab3⟩
def zI:Ah:=⟨[],[],0⟩
def Ky (q:AR)(k:Af):Ah:=(BA q.fChanged k).getD ((BA q.fItems k).getD zI)
def Lj (q:AR)(c:Ae)(size:Int):Int×Int×AR:=
 bif (decide (0≤c.fIfVersion))&&(!decide (c.fIfVersion=(Ky q c.fKey).fVersion)) then(0,19,q) else
 bif c.fDelete then(bif decide (0<(Ky q c.fKey).fVersion) then size-1 else size,0,⟨q.fItems,mset q.fChanged c.fKey zI⟩) else
 bif (decide ((Ky q c.fKey).fVersion=0))&&(decide (256≤size)) then(0,3,q) else
 bif decide (1000000000000≤(Ky q c.fKey).fVersion) then(0,8,q) else
 (bif decide ((Ky q c.fKey).fVersion=0) then size+1 else size,0,⟨q.fItems,mset q.fChanged c.fKey ⟨c.fKey,c.fValue,(Ky q c.fKey).fVersion+1⟩⟩)
theorem Abo (q:AR)(k:Af):Zg q k=some (Ky q k,q):=by
 unfold Zg Ky CG CL
 cases BA q.fChanged k<;>rfl
theorem QM {ys:List Aa}(h:ys.length≤1000000):Nr ys=some ys:=by
 unfold Nr;rw[B7 (by unfold Dw;simp only[AeS,Aed];omega)];rfl
theorem U0 {q:AR}{c:Ae}{size:Int}(hs : -1000000000≤size∧size≤1000000000)(hv:0≤(Ky q c.fKey).fVersion)(hl:c.fValue.length≤300):KV q c size=some (Lj q c size):=by
 unfold KV Lj GW;rw[Abo,AI rfl,QM (by omega)];generalize Ky q c.fKey=x at hv;simp only
 cases(decide (0≤c.fIfVersion)&&!decide (c.fIfVersion=x.fVersion)) with
 | true=>rfl
 | false=>
  rw[A2 rfl]
  cases c.fDelete with
  | true=>
   rw[AC rfl]
   cases decide (0<x.fVersion) with
   | true=>rw[AC rfl,A4 (by omega) (by omega)];rfl
   | false=>rfl
  | false=>
   rw[A2 rfl]
   cases(decide (x.fVersion=0)&&decide (256≤size)) with
   | true=>rfl
   | false=>
    rw[A2 rfl]
    cases hb:decide ((1000000000000:Int)≤x.fVersion) with
    | true=>rfl
    | false=>
     have hb':=AeB hb;rw[A2 rfl]
     cases decide (x.fVersion=0) with
     | true=>rw[AC rfl,A4 (by omega) (by omega),AI rfl,A4 (by omega) (by omega)];rfl
     | false=>rw[A2 rfl,AI rfl,A4 (by omega) (by omega)];rfl
theorem Iq {T:Type}{xs:List (Af×T)}{k:Af}{v:T}{p:Af×T}(h:p∈mset xs k v):p=(k,v)∨p∈xs:=by
 unfold mset at h
 cases hh:CG xs k with
 | false=>rw[hh] at h;exact Ph h
 | true=>
  rw[hh] at h;obtain⟨q,hq,e⟩:=List.mem_map.1 h
  cases hk:decide (q.1=k) with
  | true=>rw[hk] at e;exact .inl e.symm
  | false=>rw[hk] at e;exact .inr (e▸hq)
theorem SX {T:Type}{xs:List (Af×T)}{k:Af}{p:Af×T}(h:p∈mdel xs k):p∈xs:=(List.mem_filter.1 h).1
theorem Abe {T:Type}{del:T→Bool}{xs:List (Af×T)}{q p:Af×T}(h:p∈O1 del xs q):p∈xs∨(p=q∧del p.2=false):=by
 unfold O1 at h
 cases hd:del q.2 with
 | true=>rw[hd] at h;exact .inl (SX h)
 | false=>
  rw[hd] at h;rcases Iq h with e | h
  ·exact .inr ⟨e,by rw[e];exact hd⟩
  ·exact .inl h
theorem Mw {T:Type}{del:T→Bool}{p:Af×T}:∀{ord xs:List (Af×T)},p∈ord.foldl (O1 del) xs→p∈xs∨(p∈ord∧del p.2=false)
 | [],xs,h=>.inl h
 | q::r,xs,h=>by
  rcases Mw (ord:=r) h with h | ⟨h,h'⟩
  ·rcases Abe h with h2 | ⟨h2,h3⟩
   ·exact .inl h2
   ·exact .inr ⟨by rw[h2];exact List.mem_cons_self ..,h3⟩
  ·exact .inr ⟨List.mem_cons_of_mem _ h,h'⟩
structure MO (xs:List (Af×Ah)):Prop where
 ms:Ms xs
 ok:∀p∈xs,0≤p.2.fVersion∧p.2.fVersion≤1000000000000∧p.2.fValue.length≤300
theorem MO.nil:MO []:=⟨Ms.nil,λ_ h=>by cases h⟩
theorem MO.set {xs:List (Af×Ah)}(h:MO xs){k:Af}{v:Ah}(hv:0≤v.fVersion∧v.fVersion≤1000000000000∧v.fValue.length≤300):MO (mset xs k v):=
 ⟨h.ms.mset k v,λp hp=>by
  rcases Iq hp with rfl | hp
  ·exact hv
  ·exact h.ok p hp⟩
theorem Xy:0≤zI.fVersion∧zI.fVersion≤1000000000000∧zI.fValue.length≤300:=by decide
theorem MO.get {xs:List (Af×Ah)}(h:MO xs)(k:Af):0≤((BA xs k).getD zI).fVersion∧((BA xs k).getD zI).fVersion≤1000000000000∧((BA xs k).getD zI).fValue.length≤300:=by
 cases e:BA xs k with
 | none=>exact Xy
 | some v=>exact h.ok _ (C7 e)
theorem V8 {q:AR}(h1:MO q.fItems)(h2:MO q.fChanged)(k:Af):0≤(Ky q k).fVersion∧(Ky q k).fVersion≤1000000000000∧(Ky q k).fValue.length≤300:=by
 unfold Ky
 cases e:BA q.fChanged k with
 | none=>exact h1.get k
 | some v=>exact h2.ok _ (C7 e)
theorem ZZ {q:AR}{c:Ae}{size:Int}(h1:MO q.fItems)(h2:MO q.fChanged)(hl:c.fValue.length≤300) :
  (Lj q c size).2.2.fItems=q.fItems∧MO (Lj q c size).2.2.fChanged∧(Lj q c size).2.2.fChanged.length≤q.fChanged.length+1∧((Lj q c size).2.1=0→size-1≤(Lj q c size).1∧(Lj q c size).1≤size+1):=by
 have hc:=V8 h1 h2 c.fKey;have hm:∀v:Ah,(mset q.fChanged c.fKey v).length≤q.fChanged.length+1:=λv=>by rw[NE];cases CG q.fChanged c.fKey<;>simp
 unfold Lj;generalize Ky q c.fKey=x at hc
 cases(decide (0≤c.fIfVersion)&&!decide (c.fIfVersion=x.fVersion)) with
 | true=>exact⟨rfl,h2,Nat.le_succ _,λh=>by cases h⟩
 | false=>
  cases c.fDelete with
  | true=>
   refine⟨rfl,h2.set Xy,hm _,λ_=>?_⟩;show size-1≤(bif decide (0<x.fVersion) then size-1 else size)∧(bif decide (0<x.fVersion) then size-1 else size)≤size+1
   cases decide (0<x.fVersion)<;>simp only[Aek,Aeh]<;>omega
  | false=>
   cases(decide (x.fVersion=0)&&decide (256≤size)) with
   | true=>exact⟨rfl,h2,Nat.le_succ _,λh=>by cases h⟩
   | false=>
    cases hb:decide ((1000000000000:Int)≤x.fVersion) with
    | true=>exact⟨rfl,h2,Nat.le_succ _,λh=>by cases h⟩
    | false=>
     have hb':=AeB hb;refine⟨rfl,h2.set ⟨?_,?_,hl⟩,hm _,λ_=>?_⟩
     ·show 0≤x.fVersion+1;omega
     ·show x.fVersion+1≤1000000000000;omega
     ·show size-1≤(bif decide (x.fVersion=0) then size+1 else size)∧(bif decide (x.fVersion=0) then size+1 else size)≤size+1
      cases decide (x.fVersion=0)<;>simp only[Aek,Aeh]<;>omega
def J0:List Ae→Int→AR→Int×AR
 | [],_,q=>(0,q)
 | c::r,size,q=>bif !decide ((Lj q c size).2.1=0) then((Lj q c size).2.1,(Lj q c size).2.2) else J0 r (Lj q c size).1 (Lj q c size).2.2
theorem R2:∀(l:List Ae) {q:AR} {size:Int},(∀c∈l,c.fValue.length≤300)→MO q.fItems→MO q.fChanged→(J0 l size q).2.fItems=q.fItems∧MO (J0 l size q).2.fChanged∧(J0 l size q).2.fChanged.length≤q.fChanged.length+l.length
 | [],q,size,_,h1,h2=>⟨rfl,h2,AeA _⟩
 | c::r,q,size,hl,h1,h2=>by
  obtain⟨a1,a2,a3,_⟩:=ZZ (size:=size) h1 h2 (hl c (List.mem_cons_self ..));rw[J0]
  cases decide ((Lj q c size).2.1=0) with
  | false=>exact⟨a1,a2,by simp only[Aef];exact Nat.le_trans a3 (by omega)⟩
  | true=>
   obtain⟨b1,b2,b3⟩:=R2 r (q:=(Lj q c size).2.2) (size:=(Lj q c size).1) (λd hd=>hl d (List.mem_cons_of_mem _ hd)) (by rw[a1];exact h1) a2;exact⟨b1.trans a1,b2,by simp only[Aef,Aes,Aeh];omega⟩
def Acu (t:Int×AR):Out (Int×AR) ((List (Af×Ah))×(List (Af×Ah))):=bif !decide (t.1=0) then .ret t else .go (t.2.fItems,t.2.fChanged)
theorem Tl {l:List Ae}(hlen:l.length≤300)(hsm:∀c∈l,c.fValue.length≤300)(r:List Ae):∀(F:Nat) (size x:Int) (q:AR),0≤x→x+r.length=l.length→l.drop x.toNat=r→r.length<F→MO q.fItems→MO q.fChanged→-1000000+(r.length:Int)≤size→size≤1000000-(r.length:Int)→
  BJ (λσ=>EQ l σ.1 σ.2.1 σ.2.2.1 σ.2.2.2) F (size,x,q.fItems,q.fChanged)=some (Acu (J0 r size q)):=by
 induction r with
 | nil=>
  intro F size x q h0 hx hd hF h1 h2 hs1 hs2;obtain⟨F,rfl⟩:∃G,F=G+1:=⟨F-1,by simp at hF;omega⟩
  have hx':x=(l.length:Int):=by simpa using hx
  have hb:EQ l size x q.fItems q.fChanged=some (.out (.go (q.fItems,q.fChanged))):=by
   unfold EQ;rw[A2 (Aeg (by omega))]
  rw[BJ];simp only[hb];rfl
 | cons c r ih=>
  intro F size x q h0 hx hd hF h1 h2 hs1 hs2;simp only[Aef] at hx hF hs1 hs2;obtain⟨F,rfl⟩:∃G,F=G+1:=⟨F-1,by omega⟩
  have hxl:x<(l.length:Int):=by omega
  have hc:l[x.toNat]? =some c:=by
   have:=congrArg (·[0]?) hd;simpa using this
  have hat:Aq l x=c:=by simp[Aq,hc]
  have hm:c∈l:=Aet hc;have hq:=V8 h1 h2 c.fKey;have hch:KV q c size=some (Lj q c size):=U0 ⟨by omega,by omega⟩ hq.1 (hsm c hm);obtain⟨a1,a2,_,a4⟩:=ZZ (size:=size) h1 h2 (hsm c hm);have hb:EQ l size x q.fItems q.fChanged=Bi (!decide ((Lj q c size).2.1=0)) (some (.out (.ret ((Lj q c size).2.1,(Lj q c size).2.2)))) (some (.next ((Lj q c size).1,x+1,(Lj q c size).2.2.fItems,(Lj q c size).2.2.fChanged))):=by
   unfold EQ;rw[AC (Aei hxl),AW h0 hxl,hat,hch,AI rfl,A4 (by omega) (by omega)]
  rw[BJ];simp only[hb];rw[J0];generalize hg:Lj q c size=t at a1 a2 a4
  cases he:decide (t.2.1=0) with
  | false=>
   simp only[Ae0,Aek,Bi];rw[Acu];simp only[he];rfl
  | true=>
   obtain⟨s1,s2⟩:=a4 (Aep he);simp only[Aes,Aeh,Bi];have hd2:l.drop (x+1).toNat=r:=by
    have:=congrArg (·.drop 1) hd;rw[Afb] at this;rw[show(x+1).toNat=x.toNat+1 from by omega];simpa using this
   exact ih F _ (x+1) t.2.2 (by omega) (by omega) hd2 (by omega) (by rw[a1];exact h1) a2 (by omega) (by omega)
def Jw (x:Ah):Bool:=decide (x.fVersion=0)
theorem Ro {xs ys:List (Af×Ah)}(hx:Ms xs)(hy:Ms ys):GX xs ys=some (0,⟨ys.foldl (O1 Jw) xs,ys⟩):=by
 unfold GX;refine Ac0 λp hp=>?_;obtain⟨h1,_⟩:=Td (λp τ=>Ia p.1 p.2 τ) (λp τ=>O1 Jw τ p) (λ_=>True) p xs trivial (λz _ s _=>⟨by
  unfold Ia O1;show _=some (Stp.next (bif Jw z.2 then _ else _))
  cases hd:Jw z.2 with
  | true=>exact(AC (show decide (z.2.fVersion=0)=true from hd)).trans rfl
  | false=>exact(A2 (show decide (z.2.fVersion=0)=false from hd)).trans rfl,trivial⟩)
 rw[h1,AI rfl,Pc];show some (0,AR.mk (p.foldl (O1 Jw) xs) ys)=_;rw[Xs hx hy hp]
def UB (e0:Int)(q:AR)(l:List Ae):Int×AR:=
 bif !decide (e0=0) then(e0,q) else
 bif !decide ((J0 l (q.fItems.length:Int) ⟨q.fItems,[]⟩).1=0) then J0 l (q.fItems.length:Int) ⟨q.fItems,[]⟩ else
 (0,⟨(J0 l (q.fItems.length:Int) ⟨q.fItems,[]⟩).2.fChanged.foldl (O1 Jw) q.fItems,(J0 l (q.fItems.length:Int) ⟨q.fItems,[]⟩).2.fChanged⟩)
theorem WX {F:Nat}(hF:5000<F){q:AR}{l:List Ae}{e0:Int}(he:It F l=some e0)(hs:SmP l)(hq:MO q.fItems)(hn:q.fItems.length≤100000):Hx F q l=some (UB e0 q l):=by
 have hlen:=hs.len;have hsm:∀c∈l,c.fValue.length≤300:=λc hc=>(hs.all c hc).val;unfold Hx UB Ls;rw[AI rfl,A2 (p:=!true) rfl,he,AI rfl]
 cases decide (e0=0) with
 | false=>rfl
 | true=>
  rw[A2 (p:=!true) rfl];have hl:=Tl hlen hsm l F (q.fItems.length:Int) 0 ⟨q.fItems,[]⟩ (by omega) (by omega) (by simp) (by omega) hq MO.nil (by omega) (by omega);rw[AI hl];obtain⟨b1,b2,_⟩:=R2 l (q:=⟨q.fItems,[]⟩) (size:=(q.fItems.length:Int)) hsm hq MO.nil;generalize J0 l (q.fItems.length:Int) ⟨q.fItems,[]⟩=t at b1 b2;unfold Acu
  cases hd:decide (t.1=0) with
  | false=>rfl
  | true=>
   show GX t.2.fItems t.2.fChanged=_;rw[b1,Ro hq.ms b2.ms];rfl
structure QOk (q:AR) (n:Nat):Prop where
 ok:MO q.fItems
 pos:∀p∈q.fItems,1≤p.2.fVersion
 len:q.fItems.length≤n
theorem Acz {α:Type}[Inhabited α](a:α):ov (some a)=a:=rfl
theorem Acr:∀a b d e f g h i j:Bool,(Br (some a) λha=>Bi ha (some true) (Bi d (Bi e (some true) (Br (some b) λhb=>Bi hb (some true) (Bi f (some true) (Bi g (some true) (Bi h (some true) (Bi i (some true) (some j))))))) (Br (some b) λhd=>Bi hd (some true) (Bi f (some true) (Bi g (some true) (Bi h (some true) (Bi i (some true) (some j))))))))=some (a||b||(d&&e)||f||g||h||i||j):=by decide
theorem Xd (c:Int):Rv c=some (DN c):=Acr (decide (97≤c)&&decide (c≤122)) (decide (48≤c)&&decide (c≤57)) (decide (65≤c)) (decide (c≤90)) (decide (c=45)) (decide (c=95)) (decide (c=46)) (decide (c=58)) (decide (c=47))
theorem NL:∀(s:Af) (k:Nat),B0 Nm k s=s.all λu=>DN u.toNat
 | [],k=>rfl
 | u::r,k=>by rw[B0,NL r (k+1),AeN];rfl
theorem Vv {F:Nat}(hF:64<F)(s:Af):Zv F s=some (Rr s):=by
 unfold Zv Rr;rw[NL]
 by_cases hl:(s.length:Int)<1∨(64:Int)<(s.length:Int)
 ·rw[AC (by simpa using hl)];have:(decide (1≤s.length)&&decide (s.length≤64))=false:=by
   simp only[AeJ,Aee];omega
  rw[Bool.and_assoc,this,Ae3]
 ·rw[A2 (by simpa using hl)];have hb:(decide (1≤s.length)&&decide (s.length≤64))=true:=by
   simp only[Aej,Aed];omega
  rw[Bool.and_assoc,hb,Ae2];obtain⟨o,h1,h2⟩:=Jn s (λu=>DN u.toNat=true) (λq=>q=false∧(s.all λu=>DN u.toNat)=false) () (λσ=>HP s σ) (λx c h0 hx hc hat=>by
   have hb:AM s x=(c.toNat:Int):=by rw[← hat];rfl
   have e:HP s x=Bi (!DN c.toNat) (some (.out (.ret false))) (some (.next (x+1))):=by
    unfold HP;rw[AC (Aei hx),AW h0 hx,hb,Xd,AI rfl,A4 (by omega) (by omega)]
   cases hL:DN c.toNat with
   | true=>exact .inl ⟨by rw[hL] at e;exact e,rfl⟩
   | false=>exact .inr ⟨false,by rw[hL] at e;exact e,rfl,List.all_eq_false.2 ⟨c,hc,by simp[hL]⟩⟩) (by
   show HP s _=_;unfold HP;rw[A2 (Aeg (by omega))]) (F:=F) (by omega)
  rw[AI h1];rcases h2 with⟨q,rfl,rfl,ha⟩ | ⟨rfl,h⟩
  ·rw[Acv,ha]
  ·rw[Pc,List.all_eq_true.2 h];rfl
theorem Wd {F:Nat}(hF:30000<F){c:Ae}(hs:SmC c)(ho:OkC c):Dq F c=JF F c:=by
 have hA:IE 5000 c.fValue:=⟨by decide,by have:=hs.val;omega,λx hx=>⟨hs.cells x hx,(ho.cells x hx).1,(ho.cells x hx).2⟩⟩
 unfold Dq JF;rw[Vv (by omega),AI rfl,MY hA (by decide) (by omega),IV hA (by decide) (by omega),AI rfl]
 cases Rr c.fKey with
 | false=>rfl
 | true=>
  cases(decide (c.fIfVersion<(-1))||decide (1000000000000<c.fIfVersion)) with
  | true=>rfl
  | false=>
   cases c.fDelete with
   | true=>cases decide (0<(c.fValue.length:Int))<;>rfl
   | false=>rfl
theorem Ta {S O:Type}{b b':S→Option (Stp S O)}(I:S→Prop)(h:∀s,I s→b s=b' s∧∀s',b s=some (.next s')→I s'):∀(n:Nat) (s:S),I s→BJ b n s=BJ b' n s
 | 0,s,_=>rfl
 | n+1,s,hi=>by
  obtain⟨h1,h2⟩:=h s hi;rw[BJ,BJ,← h1]
  cases hb:b s with
  | none=>rfl
  | some t=>cases t with
   | next s'=>exact Ta I h n s' (h2 s' hb)
   | out o=>rfl
theorem AaO {F:Nat}(hF:30000<F){l:List Ae}(hs:SmP l)(ho:∀c∈l,OkC c):Yq F l=It F l:=by
 have hl:=hs.len;unfold Yq It;have:BJ (λσ=>G9 F l σ) F 0=BJ (λσ=>D1 F l σ) F 0:=Ta (λx:Int=>0≤x∧x≤(l.length:Int)) (λx ⟨h0,hx⟩=>by
  by_cases hx2:x<(l.length:Int)
  ·obtain⟨c,hc⟩:∃c,l[x.toNat]? =some c:=⟨l[x.toNat]'(by omega),Aeq (by omega)⟩
   have hat:Aq l x=c:=by simp[Aq,hc]
   have hm:c∈l:=Aet hc;obtain⟨e,he,_⟩:=Zl (by omega:5000<F) (hs.all c hm) (ho c hm);have e1:G9 F l x=Bi (!decide (e=0)) (some (.out (.ret e))) (some (.next (x+1))):=by
    unfold G9;rw[AC (Aei hx2),AW h0 hx2,hat,Wd hF (hs.all c hm) (ho c hm),he,AI rfl,A4 (by omega) (by omega)]
   have e2:D1 F l x=Bi (!decide (e=0)) (some (.out (.ret e))) (some (.next (x+1))):=by
    unfold D1;rw[AC (Aei hx2),AW h0 hx2,hat,he,AI rfl,A4 (by omega) (by omega)]
   refine⟨e1.trans e2.symm,λs' hs'=>?_⟩;rw[e1] at hs'
   cases hd:decide (e=0) with
   | false=>rw[hd] at hs';cases hs'
   | true=>rw[hd] at hs';cases hs';omega
  ·refine⟨?_,λs' hs'=>?_⟩
   ·show G9 F l x=D1 F l x;unfold G9 D1;rw[A2 (Aeg hx2),A2 (Aeg hx2)]
   ·have:G9 F l x=some (.out (.go ())):=by unfold G9;rw[A2 (Aeg hx2)]
    rw[this] at hs';cases hs') F 0 ⟨Ae8 0,by omega⟩
 rw[this];rfl
section
variable {T : Type}
def pos:List (Af×T)→Af→Nat
 | [],_=>0
 | p::r,k=>bif BR p.1 k then pos r k+1 else 0
theorem Pa {k:Af}:∀(xs:List (Af×T)) (x:Nat),x≤xs.length→(∀p∈xs.take x,BR p.1 k=true)→(∀p,xs[x]? =some p→BR p.1 k=false)→pos xs k=x
 | [],x,h,_,_=>by simp at h;subst h;rfl
 | p::r,0,_,_,h=>by rw[pos,h p rfl];rfl
 | p::r,x+1,hl,h1,h2=>by
  rw[pos,h1 p (by simp)];simp only[Aek];rw[Pa r x (by simpa using hl) (λq hq=>h1 q (by simp[hq])) (λq hq=>h2 q (by simpa using hq))]
theorem Uh {k:Af}:∀xs:List (Af×T),pos xs k≤xs.length
 | []=>AeA _
 | p::r=>by
  rw[pos]
  cases BR p.1 k with
  | true=>simpa using Uh r
  | false=>exact AeL _
theorem Ml {k:Af}:∀(xs:List (Af×T)),Ms xs→
  (BA xs k=match xs[pos xs k]? with
   | some p=>bif decide (p.1=k) then some p.2 else none
   | none=>none)∧
  (∀v,mset xs k v=xs.take (pos xs k)++(k,v)::xs.drop (pos xs k+bif CG xs k then 1 else 0))∧
  (mdel xs k=xs.take (pos xs k)++xs.drop (pos xs k+bif CG xs k then 1 else 0))
 | [],_=>⟨rfl,λv=>rfl,rfl⟩
 | p::r,h=>by
  obtain⟨h1,h2⟩:=List.pairwise_cons.1 h;obtain⟨i1,i2,i3⟩:=Ml (k:=k) r h2;rw[pos]
  cases hs:BR p.1 k with
  | true=>
   have hne : ¬ p.1=k:=AbL hs;have hg:BA (p::r) k=BA r k:=by rw[BA,Aeg hne];rfl
   have hh:CG (p::r) k=CG r k:=by unfold CG;rw[hg]
   simp only[Aek];refine⟨by rw[hg,i1];rfl,λv=>?_,?_⟩
   ·have e:mset (p::r) k v=p::mset r k v:=by
     unfold mset;rw[hh]
     cases CG r k with
     | true=>show(bif decide (p.1=k) then(k,v) else p)::mput r k v=p::mput r k v;rw[Aeg hne];rfl
     | false=>
      show mins k v (p::r)=p::mins k v r;rw[mins,XT hs];rfl
    rw[e,i2 v,hh,show pos r k+1+(bif CG r k then 1 else 0)=(pos r k+(bif CG r k then 1 else 0))+1 from by omega];rfl
   ·have e:mdel (p::r) k=p::mdel r k:=by unfold mdel;rw[List.filter_cons_of_pos (by simp[hne])]
    rw[e,i3,hh,show pos r k+1+(bif CG r k then 1 else 0)=(pos r k+(bif CG r k then 1 else 0))+1 from by omega];rfl
  | false=>
   simp only[Aeh]
   by_cases hk:p.1=k
   ·have hg:BA (p::r) k=some p.2:=by rw[BA,Aei hk];rfl
    have hh:CG (p::r) k=true:=by unfold CG;rw[hg];rfl
    have hn:∀q∈r,¬ q.1=k:=λq hq e=>by have:=h1 q hq;rw[e,← hk,J7] at this;cases this
    have e1:∀v,mput r k v=r:=λv=>by
     unfold mput
     conv=>rhs;rw[← List.map_id r]
     refine List.map_congr_left λq hq=>?_;rw[Aeg (hn q hq)];rfl
    have e2:mdel r k=r:=List.filter_eq_self.2 λq hq=>by simp[hn q hq]
    refine⟨by rw[hg];show _=bif decide (p.1=k) then some p.2 else none;rw[Aei hk];rfl,λv=>?_,?_⟩
    ·unfold mset;rw[hh];show(bif decide (p.1=k) then(k,v) else p)::mput r k v=_;rw[Aei hk,e1];rfl
    ·rw[hh];show mdel (p::r) k=r;unfold mdel;rw[List.filter_cons_of_neg (by simp[hk])];exact e2
   ·have hlt:BR k p.1=true:=by
     rcases ON p.1 k with h | h | h
     ·rw[h] at hs;cases hs
     ·exact absurd h hk
     ·exact h
    have hn:∀q∈p::r,¬ q.1=k:=λq hq e=>by
     rcases List.mem_cons.1 hq with rfl | hq
     ·exact hk e
     ·have:=Kk hlt (h1 q hq);rw[e,J7] at this;cases this
    have hg:BA (p::r) k=none:=EP.2 hn;have hh:CG (p::r) k=false:=by unfold CG;rw[hg];rfl
    refine⟨by rw[hg];show none=bif decide (p.1=k) then some p.2 else none;rw[Aeg hk];rfl,λv=>?_,?_⟩
    ·unfold mset;rw[hh];show mins k v (p::r)=_;rw[mins,hlt];rfl
    ·rw[hh];exact List.filter_eq_self.2 λq hq=>by simp[hn q hq]
end
def Eo (xs:List (Af×Ah)):List Ah:=xs.map (·.2)
def VF (xs:List (Af×Ah)):Prop:=∀p∈xs,p.2.fKey=p.1
theorem Rq (xs:List (Af×Ah)):(Eo xs).length=xs.length:=by simp[Eo]
theorem Ov {xs:List (Af×Ah)}{i:Nat}{p:Af×Ah}(h:xs[i]? =some p):(Eo xs)[i]? =some p.2:=by simp[Eo,h]
theorem Wg {F:Nat}{xs:List (Af×Ah)}(hF:xs.length<F)(hL:xs.length≤1000000)(hm:Ms xs)(hk:VF xs)(k:Af):OS F (Eo xs) k=some ((pos xs k:Int),CG xs k):=by
 have hlen:=Rq xs;unfold OS;obtain⟨o,h1,h2⟩:=Gi (body:=λσ=>EJ (Eo xs) k σ) (λx=>0≤x∧x≤(xs.length:Int)∧∀p∈xs.take x.toNat,BR p.1 k=true) (λx=>xs.length-x.toNat)
  (λo=>o = .go (pos xs k:Int)) (λx ⟨h0,hl,ha⟩=>by
   by_cases hx:x<(xs.length:Int)
   ·obtain⟨p,hp⟩:∃p,xs[x.toNat]? =some p:=⟨xs[x.toNat]'(by omega),Aeq (by omega)⟩
    have hat:(Aq (Eo xs) x).fKey=p.1:=by
     rw[← hk p (Aet hp)];simp[Aq,Ov hp]
    have e:EJ (Eo xs) k x=Bi (BR p.1 k) (some (.next (x+1))) (some (.out (.go x))):=by
     unfold EJ;rw[hlen,Aei hx,B7 (by rw[Li h0 hx];rfl),hat,Aer,A4 (by omega) (by omega)]
    cases hs:BR p.1 k with
    | true=>
     refine .inl ⟨x+1,by rw[hs] at e;exact e,⟨by omega,by omega,λq hq=>?_⟩,by omega⟩;rw[show(x+1).toNat=x.toNat+1 from by omega,List.take_add_one,hp] at hq;simp only[Option.toList_some,List.mem_append,Afe,List.not_mem_nil,or_false] at hq;rcases hq with hq | rfl
     ·exact ha q hq
     ·exact hs
    | false=>
     refine .inr ⟨.go x,by rw[hs] at e;exact e,?_⟩;have:=Pa xs x.toNat (by omega) ha (λq hq=>by rw[hp] at hq;cases hq;exact hs);rw[this,show((x.toNat:Nat):Int)=x from by omega]
   ·refine .inr ⟨.go x,?_,?_⟩
    ·show EJ (Eo xs) k x=_;unfold EJ;rw[hlen,Aeg hx];rfl
    ·have:=Pa (k:=k) xs x.toNat (by omega) ha (λq hq=>by
      have:=(List.getElem?_eq_some_iff.1 hq).1;omega)
     rw[this,show((x.toNat:Nat):Int)=x from by omega]) F 0 ⟨Ae8 0,by omega,by simp⟩ (by show xs.length-0<F;omega)
 subst h2;rw[AI h1,Pc];unfold Jc;have hp:=Uh (k:=k) xs;obtain⟨g1,_,_⟩:=Ml (k:=k) xs hm;rw[hlen]
 by_cases hx:((pos xs k:Nat):Int)<(xs.length:Int)
 ·obtain⟨p,hpp⟩:∃p,xs[pos xs k]? =some p:=⟨xs[pos xs k]'(by omega),Aeq (by omega)⟩
  have hat:(Aq (Eo xs) (pos xs k:Int)).fKey=p.1:=by
   rw[← hk p (Aet hpp)];simp[Aq,Ov hpp]
  rw[Aei hx,B7 (by rw[Li (by omega) hx];rfl),hat,Aer];rw[hpp] at g1;have:CG xs k=decide (p.1=k):=by
   unfold CG;rw[g1];simp only
   cases decide (p.1=k)<;>rfl
  rw[this]
 ·rw[Aeg hx];have hpp:xs[pos xs k]? =none:=List.getElem?_eq_none (by omega);rw[hpp] at g1;have:CG xs k=false:=by unfold CG;rw[g1];rfl
  rw[this];rfl
theorem AcT {xs:List (Af×Ah)}(hm:Ms xs){k:Af}(h:CG xs k=true):(pos xs k:Int)<(xs.length:Int)∧Aq (Eo xs) (pos xs k:Int)=(BA xs k).getD zI:=by
 obtain⟨g1,_,_⟩:=Ml (k:=k) xs hm;unfold CG at h
 cases hp:xs[pos xs k]? with
 | none=>rw[hp] at g1;rw[g1] at h;cases h
 | some p=>
  rw[hp] at g1;have hlt:=(List.getElem?_eq_some_iff.1 hp).1;refine⟨by omega,?_⟩;simp only at g1
  cases hd:decide (p.1=k) with
  | false=>rw[hd] at g1;rw[g1] at h;cases h
  | true=>
   rw[hd] at g1;rw[g1];simp[Aq,Ov hp]
def Xw (xs:List (Af×Ah))(c:Ae):List (Af×Ah)×Int:=
 bif (decide (0≤c.fIfVersion))&&(!decide (c.fIfVersion=((BA xs c.fKey).getD zI).fVersion)) then([],19) else
 bif c.fDelete then(mdel xs c.fKey,0) else
 bif (decide (((BA xs c.fKey).getD zI).fVersion=0))&&(decide (256≤(xs.length:Int))) then([],3) else
 bif decide (1000000000000≤((BA xs c.fKey).getD zI).fVersion) then([],8) else
 (mset xs c.fKey ⟨c.fKey,c.fValue,((BA xs c.fKey).getD zI).fVersion+1⟩,0)
theorem Lt {α:Type}{n:Nat}{x:Option α}(h:n≤1000000):AQ (Dw 48 n) x=x:=B7 (by unfold Dw;simp only[Aed];omega)
theorem Zm {xs:List (Af×Ah)}(hm:Ms xs)(k:Af)(v:Ah):Eo (mset xs k v)=(Eo xs).take (pos xs k)++v::(Eo xs).drop (pos xs k+bif CG xs k then 1 else 0):=by
 rw[(Ml xs hm).2.1 v];simp[Eo,List.map_take,List.map_drop]
theorem Zn {xs:List (Af×Ah)}(hm:Ms xs)(k:Af):Eo (mdel xs k)=(Eo xs).take (pos xs k)++(Eo xs).drop (pos xs k+bif CG xs k then 1 else 0):=by
 rw[(Ml xs hm).2.2];simp[Eo,List.map_take,List.map_drop]
theorem S6 {F:Nat}{xs:List (Af×Ah)}(hF:xs.length<F)(hL:xs.length≤256)(hm:Ms xs)(hk:VF xs)(hpos:∀p∈xs,1≤p.2.fVersion∧p.2.fVersion≤1000000000000)(c:Ae) :
  Ko F (Eo xs) c=some (Eo (Xw xs c).1,(Xw xs c).2):=by
 have hp:=Uh (k:=c.fKey) xs;have hlen:=Rq xs;have hset:=λv=>Zm hm c.fKey v;have hdel:=Zn hm c.fKey;unfold Ko;rw[Wg hF (by omega) hm hk,AI rfl];dsimp only
 cases hh:CG xs c.fKey with
 | true=>
  obtain⟨ha,hat⟩:=AcT hm hh;rw[hh] at hset hdel;simp only[Aek] at hset hdel;have hv:1≤((BA xs c.fKey).getD zI).fVersion∧((BA xs c.fKey).getD zI).fVersion≤1000000000000:=by
   unfold CG at hh
   cases hg:BA xs c.fKey with
   | none=>rw[hg] at hh;cases hh
   | some v=>exact hpos _ (C7 hg)
  rw[AC rfl,AW (by omega) (by rw[hlen];exact ha),hat];unfold Xw;generalize(BA xs c.fKey).getD zI=y at hv
  cases(decide (0≤c.fIfVersion)&&!decide (c.fIfVersion=y.fVersion)) with
  | true=>rfl
  | false=>
   rw[A2 rfl,BN (by omega) (by rw[hlen];omega),Lt (by simp[hlen];omega)]
   cases c.fDelete with
   | true=>
    rw[A2 (p:=!true) rfl,A4 (by omega) (by omega),BN (by omega) (by rw[hlen];omega),Lt (by simp[hlen];omega)];simp only[Aek,Aeh];rw[hdel,AeE,show Int.toNat (pos xs c.fKey:Int)=pos xs c.fKey from by omega,show Int.toNat ((pos xs c.fKey:Int)+1)=pos xs c.fKey+1 from by omega]
   | false=>
    have h0:decide (y.fVersion=0)=false:=Aeg (by omega);rw[AC (p:=!false) rfl,h0];simp only[Aeh,Ae1]
    by_cases h8:y.fVersion=1000000000000
    ·rw[AC (Aei h8),Aei (by omega:(1000000000000:Int)≤y.fVersion)];rfl
    ·rw[A2 (Aeg h8),Aeg (by omega : ¬ (1000000000000:Int)≤y.fVersion),A4 (by omega) (by omega),Lt (by simp[hlen];omega),A4 (by omega) (by omega),BN (by omega) (by rw[hlen];omega),Lt (by simp[hlen];omega)];simp only[Aeh];rw[hset,AeE,show Int.toNat (pos xs c.fKey:Int)=pos xs c.fKey from by omega,show Int.toNat ((pos xs c.fKey:Int)+1)=pos xs c.fKey+1 from by omega,Ae5];rfl
 | false=>
  rw[hh] at hset hdel;simp only[Aeh,Nat.add_zero] at hset hdel;have hg:(BA xs c.fKey).getD zI=zI:=by
   unfold CG at hh
   cases hg:BA xs c.fKey with
   | none=>rfl
   | some v=>rw[hg] at hh;cases hh
  have hz:zI.fVersion=0:=rfl;rw[A2 rfl];unfold Xw;rw[hg,hz]
  cases(decide (0≤c.fIfVersion)&&!decide (c.fIfVersion=0)) with
  | true=>rfl
  | false=>
   rw[A2 rfl,BN (by omega) (by rw[hlen];omega),Lt (by simp[hlen];omega)]
   cases c.fDelete with
   | true=>
    rw[A2 (p:=!true) rfl,Lt (by simp[hlen];omega)];simp only[Aek,Aeh];rw[hdel,AeE,show Int.toNat (pos xs c.fKey:Int)=pos xs c.fKey from by omega]
   | false=>
    rw[AC (p:=!false) rfl,hlen];simp only[Aeh]
    by_cases h3:(xs.length:Int)=256
    ·rw[AC (Aei h3),Aei (by omega:(256:Int)≤(xs.length:Int))];rfl
    ·rw[A2 (Aeg h3),Aeg (by omega : ¬ (256:Int)≤(xs.length:Int)),Lt (by simp[hlen];omega),Lt (by simp[hlen];omega)];rw[AeE,show Int.toNat (pos xs c.fKey:Int)=pos xs c.fKey from by omega,Ae5];show _=some (Eo (mset xs c.fKey ⟨c.fKey,c.fValue,0+1⟩),0);rw[hset];rfl
def ES (q:AR):List (Af×Ah):=q.fChanged.foldl (O1 Jw) q.fItems
structure LH (q:AR):Prop where
 it:MO q.fItems
 ch:MO q.fChanged
 ipos:∀p∈q.fItems,1≤p.2.fVersion
 ikey:VF q.fItems
 cz:∀p∈q.fChanged,Jw p.2=true→p.2=zI
 ck:∀p∈q.fChanged,Jw p.2=false→p.2.fKey=p.1
 len:(ES q).length≤256
 kl:∀p∈ES q,p.1.length≤300
theorem Pg {q:AR}(h:Ms q.fChanged)(k:Af):BA (ES q) k=match BA q.fChanged k with
  | none=>BA q.fItems k
  | some v=>bif Jw v then none else some v:=(KR (del:=Jw) q.fChanged q.fItems k h.nodup).trans (by cases BA q.fChanged k<;>rfl)
theorem LH.ms {q:AR}(h:LH q):Ms (ES q):=ML _ h.it.ms
theorem LH.iok {q:AR}(h:LH q):MO (ES q):=⟨h.ms,λp hp=>by
 rcases Mw hp with hp | ⟨hp,_⟩
 ·exact h.it.ok p hp
 ·exact h.ch.ok p hp⟩
theorem LH.pos {q:AR}(h:LH q):∀p∈ES q,1≤p.2.fVersion∧p.2.fVersion≤1000000000000:=λp hp=>by
 refine⟨?_,(h.iok.ok p hp).2.1⟩;rcases Mw hp with hp | ⟨hp,hd⟩
 ·exact h.ipos p hp
 ·have:=(h.ch.ok p hp).1;have:=AeB hd;omega
theorem LH.key {q:AR}(h:LH q):VF (ES q):=λp hp=>by
 rcases Mw hp with hp | ⟨hp,hd⟩
 ·exact h.ikey p hp
 ·exact h.ck p hp hd
theorem ZV {q:AR}(h:LH q)(k:Af):Ky q k=(BA (ES q) k).getD zI:=by
 rw[Pg h.ch.ms];unfold Ky
 cases e:BA q.fChanged k with
 | none=>rfl
 | some v=>
  simp only[AeH]
  cases hd:Jw v with
  | true=>exact h.cz _ (C7 e) hd
  | false=>rfl
theorem V3 {q:AR}(h:LH q)(k:Af)(v:Ah):ES ⟨q.fItems,mset q.fChanged k v⟩=O1 Jw (ES q) (k,v):=
 Ms.ext (ML _ h.it.ms) (Aai h.ms _) λk'=>by
  rw[Pg (q:=⟨q.fItems,mset q.fChanged k v⟩) (h.ch.ms.mset k v),SW,Pg h.ch.ms];show(match BA (mset q.fChanged k v) k' with | none=>BA q.fItems k' | some v=>bif Jw v then none else some v)=_;rw[Qz]
  cases decide (k'=k)<;>rfl
theorem Abx {q:AR}(h:LH q)(k:Af):CG (ES q) k=decide (0<((BA (ES q) k).getD zI).fVersion):=by
 unfold CG
 cases e:BA (ES q) k with
 | none=>rfl
 | some v=>
  have:=(h.pos _ (C7 e)).1;simp only[Option.isSome_some,AeH];rw[Aei (by have h':1≤v.fVersion:=this;omega)]
theorem AbB {q:AR}(h:LH q){c:Ae}(hs:SmC c) :
  (Lj q c ((ES q).length:Int)).2.1=(Xw (ES q) c).2∧((Xw (ES q) c).2=0→ES (Lj q c ((ES q).length:Int)).2.2=(Xw (ES q) c).1∧(Lj q c ((ES q).length:Int)).1=((ES (Lj q c ((ES q).length:Int)).2.2).length:Int)∧LH (Lj q c ((ES q).length:Int)).2.2∧(Lj q c ((ES q).length:Int)).2.2.fItems=q.fItems):=by
 have hlen:=h.len;have hver:=Abx h c.fKey;have hcur:=ZV h c.fKey;have hok:=h.iok.get c.fKey;unfold Lj Xw;rw[hcur];generalize hx:(BA (ES q) c.fKey).getD zI=x at hver hok
 cases(decide (0≤c.fIfVersion)&&!decide (c.fIfVersion=x.fVersion)) with
 | true=>exact⟨rfl,λh=>by cases h⟩
 | false=>
  cases c.fDelete with
  | true=>
   have he:=V3 h c.fKey zI;have he2:O1 Jw (ES q) (c.fKey,zI)=mdel (ES q) c.fKey:=rfl;rw[he2] at he;have hl:=SY h.ms c.fKey;rw[hver] at hl;refine⟨rfl,λ_=>⟨he,?_,⟨h.it,h.ch.set Xy,h.ipos,h.ikey,λp hp hd=>?_,λp hp hd=>?_,?_,λp hp=>?_⟩,rfl⟩⟩
   ·show(bif decide (0<x.fVersion) then((ES q).length:Int)-1 else((ES q).length:Int))=((ES ⟨q.fItems,mset q.fChanged c.fKey zI⟩).length:Int);rw[he,hl]
    cases hd:decide (0<x.fVersion) with
    | false=>rfl
    | true=>
     rw[hd] at hver;have:0<(ES q).length:=by
      unfold CG at hver
      cases e:BA (ES q) c.fKey with
      | none=>rw[e] at hver;cases hver
      | some v=>exact List.length_pos_of_mem (C7 e)
     simp only[Aek];omega
   ·rcases Iq hp with rfl | hp
    ·rfl
    ·exact h.cz p hp hd
   ·rcases Iq hp with rfl | hp
    ·cases hd
    ·exact h.ck p hp hd
   ·show(ES ⟨q.fItems,mset q.fChanged c.fKey zI⟩).length≤256;rw[he,hl]
    cases decide (0<x.fVersion)<;>simp only[Aek,Aeh]<;>omega
   ·have hp':p∈mdel (ES q) c.fKey:=by rw[← he];exact hp
    exact h.kl p (SX hp')
  | false=>
   have hz:decide (x.fVersion=0) = !CG (ES q) c.fKey:=by
    rw[hver]
    by_cases h0:x.fVersion=0
    ·rw[Aei h0,Aeg (by omega)];rfl
    ·rw[Aeg h0,Aei (by omega)];rfl
   cases h3:(decide (x.fVersion=0)&&decide (256≤((ES q).length:Int))) with
   | true=>exact⟨rfl,λh=>by cases h⟩
   | false=>
    cases hb:decide ((1000000000000:Int)≤x.fVersion) with
    | true=>exact⟨rfl,λh=>by cases h⟩
    | false=>
     have hb':=AeB hb;have hd1:Jw ⟨c.fKey,c.fValue,x.fVersion+1⟩=false:=Aeg (by show ¬ x.fVersion+1=0;omega);have he:=V3 h c.fKey ⟨c.fKey,c.fValue,x.fVersion+1⟩;have he2:O1 Jw (ES q) (c.fKey,⟨c.fKey,c.fValue,x.fVersion+1⟩)=mset (ES q) c.fKey ⟨c.fKey,c.fValue,x.fVersion+1⟩:=by
      unfold O1;rw[hd1];rfl
     rw[he2] at he;have hl:=NE (ES q) c.fKey ⟨c.fKey,c.fValue,x.fVersion+1⟩;have hsz:(bif decide (x.fVersion=0) then((ES q).length:Int)+1 else((ES q).length:Int))=((mset (ES q) c.fKey ⟨c.fKey,c.fValue,x.fVersion+1⟩).length:Int):=by
      rw[hl,hz]
      cases CG (ES q) c.fKey<;>simp
     refine⟨rfl,λ_=>⟨he,?_,⟨h.it,h.ch.set ⟨?_,?_,hs.val⟩,h.ipos,h.ikey,λp hp hd=>?_,λp hp hd=>?_,?_,λp hp=>?_⟩,rfl⟩⟩
     ·show(bif decide (x.fVersion=0) then((ES q).length:Int)+1 else((ES q).length:Int))=((ES ⟨q.fItems,mset q.fChanged c.fKey ⟨c.fKey,c.fValue,x.fVersion+1⟩⟩).length:Int);rw[he];exact hsz
     ·show 0≤x.fVersion+1;omega
     ·show x.fVersion+1≤1000000000000;omega
     ·rcases Iq hp with rfl | hp
      ·rw[hd1] at hd;cases hd
      ·exact h.cz p hp hd
     ·rcases Iq hp with rfl | hp
      ·rfl
      ·exact h.ck p hp hd
     ·show(ES ⟨q.fItems,mset q.fChanged c.fKey ⟨c.fKey,c.fValue,x.fVersion+1⟩⟩).length≤256;rw[he,hl];rw[hz] at h3
      cases hh:CG (ES q) c.fKey with
      | true=>simp only[Aek];omega
      | false=>
       rw[hh] at h3;simp only[Ae0,Aer,Aee] at h3;simp only[Aeh];omega
     ·have hp':p∈mset (ES q) c.fKey ⟨c.fKey,c.fValue,x.fVersion+1⟩:=by rw[← he];exact hp
      rcases Iq hp' with rfl | hp'
      ·exact hs.key
      ·exact h.kl p hp'
theorem S5 {F:Nat}(hF:300<F){l:List Ae}(hlen:l.length≤300)(hsm:∀c∈l,SmC c)(s:AV)(r:List Ae):∀(n:Nat) (x:Int) (q:AR),0≤x→x+r.length=l.length→l.drop x.toNat=r→r.length<n→LH q→
  BJ (λσ=>En F s l σ.1 σ.2) n (Eo (ES q),x)=some (bif !decide ((J0 r ((ES q).length:Int) q).1=0) then .ret ((J0 r ((ES q).length:Int) q).1,s) else .go (Eo (ES (J0 r ((ES q).length:Int) q).2)))∧((J0 r ((ES q).length:Int) q).1=0→LH (J0 r ((ES q).length:Int) q).2∧(J0 r ((ES q).length:Int) q).2.fItems=q.fItems):=by
 induction r with
 | nil=>
  intro n x q h0 hx hd hn hw;obtain⟨n,rfl⟩:∃m,n=m+1:=⟨n-1,by simp at hn;omega⟩
  have hx':x=(l.length:Int):=by simpa using hx
  have hb:En F s l (Eo (ES q)) x=some (.out (.go (Eo (ES q)))):=by
   unfold En;rw[A2 (Aeg (by omega))]
  refine⟨?_,λ_=>⟨hw,rfl⟩⟩;rw[BJ];simp only[hb];rfl
 | cons c r ih=>
  intro n x q h0 hx hd hn hw;simp only[Aef] at hx hn;obtain⟨n,rfl⟩:∃m,n=m+1:=⟨n-1,by omega⟩
  have hxl:x<(l.length:Int):=by omega
  have hc:l[x.toNat]? =some c:=by
   have:=congrArg (·[0]?) hd;simpa using this
  have hat:Aq l x=c:=by simp[Aq,hc]
  have hm:c∈l:=Aet hc;have hwl:=hw.len;have ha:=S6 (F:=F) (by omega) hw.len hw.ms hw.key hw.pos c;obtain⟨s1,s2⟩:=AbB hw (hsm c hm);have hb:En F s l (Eo (ES q)) x=Bi (!decide ((Xw (ES q) c).2=0)) (some (.out (.ret ((Xw (ES q) c).2,s)))) (some (.next (Eo (Xw (ES q) c).1,x+1))):=by
   unfold En;rw[AC (Aei hxl),AW h0 hxl,hat,ha,AI rfl,A4 (by omega) (by omega)]
  rw[BJ];simp only[hb];rw[J0];generalize Lj q c ((ES q).length:Int)=t at s1 s2;rw[s1];generalize Xw (ES q) c=u at s2
  cases he:decide (u.2=0) with
  | false=>
   simp only[Ae0,Aek,Bi];refine⟨by rw[he];rfl,λh=>?_⟩;have:=AeB he;exact absurd h this
  | true=>
   obtain⟨t1,t2,t3,t4⟩:=s2 (Aep he);simp only[Aes,Aeh,Bi];have hd2:l.drop (x+1).toNat=r:=by
    have:=congrArg (·.drop 1) hd;rw[Afb] at this;rw[show(x+1).toNat=x.toNat+1 from by omega];simpa using this
   rw[← t1,t2];obtain⟨i1,i2⟩:=ih n (x+1) t.2.2 (by omega) (by omega) hd2 (by omega) t3;exact⟨i1,λh=>⟨(i2 h).1,(i2 h).2.trans t4⟩⟩
theorem Wq {F:Nat}(hF:30000<F){xs ys:List (Af×Ah)}{l:List Ae}(hw:LH ⟨xs,[]⟩)(hs:SmP l)(ho:∀c∈l,OkC c){e0:Int}(he:It F l=some e0) :
  L7 F ⟨true,Eo xs⟩ l=some ((UB e0 ⟨xs,ys⟩ l).1,⟨true,Eo (UB e0 ⟨xs,ys⟩ l).2.fItems⟩)∧LH ⟨(UB e0 ⟨xs,ys⟩ l).2.fItems,[]⟩:=by
 have hlen:=hs.len;unfold L7 UB;rw[A2 (p:=!true) rfl,AaO hF hs ho,he,AI rfl]
 cases decide (e0=0) with
 | false=>exact⟨rfl,hw⟩
 | true=>
  rw[A2 (p:=!true) rfl];obtain⟨i1,i2⟩:=S5 (F:=F) (by omega) hlen hs.all ⟨true,Eo xs⟩ l F 0 ⟨xs,[]⟩ (Ae8 0) (by omega) (by simp) (by omega) hw;have ee:ES ⟨xs,[]⟩=xs:=rfl;rw[ee] at i1 i2;show Br (BJ (λσ=>En F ⟨true,Eo xs⟩ l σ.1 σ.2) F (Eo xs,0)) _=some _∧_;rw[AI i1];have hk:=(R2 l (q:=⟨xs,[]⟩) (size:=(xs.length:Int)) (λc hc=>(hs.all c hc).val) hw.it MO.nil).1;generalize J0 l (xs.length:Int) ⟨xs,[]⟩=t at i2 hk
  cases hd:decide (t.1=0) with
  | false=>
   refine⟨?_,?_⟩
   ·show some (t.1,AV.mk true (Eo xs))=some (t.1,⟨true,Eo t.2.fItems⟩);rw[hk]
   ·show LH ⟨t.2.fItems,[]⟩;rw[hk];exact hw
  | true=>
   obtain⟨j1,j2⟩:=i2 (Aep hd);have e:t.2.fChanged.foldl (O1 Jw) xs=ES t.2:=by unfold ES;rw[j2]
   refine⟨?_,?_⟩
   ·show some ((0:Int),AV.mk true (Eo (ES t.2)))=some ((0:Int),⟨true,Eo (t.2.fChanged.foldl (O1 Jw) xs)⟩);rw[e]
   ·show LH ⟨t.2.fChanged.foldl (O1 Jw) xs,[]⟩;rw[e];exact⟨j1.iok,MO.nil,λp hp=>(j1.pos p hp).1,j1.key,λ_ h=>by(cases h),λ_ h=>by(cases h),j1.len,j1.kl⟩
theorem S3 {F:Nat}{v:List Aa}(hF:v.length<F)(hl:v.length≤1000000):Io F v v=some true:=by
 unfold Io;rw[A2 (by simp)];obtain⟨o,h1,h2⟩:=Jn v (λ_=>True) (λq:Bool=>False) () (λσ=>EN v v σ) (λx c h0 hx hc hat=>by
  refine .inl ⟨?_,trivial⟩;show EN v v x=_;unfold EN;rw[AC (Aei hx),AW h0 hx,AW h0 hx,A2 (by simp),A4 (by omega) (by omega)]) (by
  show EN v v _=_;unfold EN;rw[A2 (Aeg (by omega))]) hF
 rw[AI h1];rcases h2 with⟨q,_,h⟩ | ⟨rfl,_⟩
 ·exact h.elim
 ·rfl
theorem Sq {F:Nat}{a:List Ah}(hF:a.length<F)(hF2:300<F)(hl:a.length≤1000000)(hv:∀y∈a,y.fValue.length≤300):MU F a a=some true:=by
 unfold MU;rw[A2 (by simp)];obtain⟨o,h1,h2⟩:=Jn a (λ_=>True) (λq:Bool=>False) () (λσ=>EI F a a σ) (λx c h0 hx hc hat=>by
  refine .inl ⟨?_,trivial⟩;show EI F a a x=_;unfold EI;rw[AC (Aei hx),AW h0 hx,AW h0 hx,hat,S3 (by have:=hv c hc;omega) (by have:=hv c hc;omega),B7 (by simp[imp]),A2 (by simp[ov]),A4 (by omega) (by omega)]) (by
  show EI F a a _=_;unfold EI;rw[A2 (Aeg (by omega))]) hF
 rw[AI h1];rcases h2 with⟨q,_,h⟩ | ⟨rfl,_⟩
 ·exact h.elim
 ·rfl
def pfx (pre k:Af):Bool:=decide ((pre.length:Int)≤(k.length:Int))&&decide (List.take (Int.toNat (pre.length:Int)) k=pre)
theorem Uw (k pre:Af):ER k pre=some (pfx pre k):=by
 unfold ER Hh;have hc:imp (decide ((pre.length:Int)≤(k.length:Int))) (Gr (pre.length:Int) (k.length:Int))=true:=by
  by_cases h:(pre.length:Int)≤(k.length:Int)
  ·rw[Aei h,Xb (by omega) h];rfl
  ·rw[Aeg h];rfl
 rw[B7 hc,AI rfl];rfl
def NN (pre:Af)(xs:List (Af×Ah)):List (Af×Ah):=xs.filter λp=>pfx pre p.1
theorem Sh {pre:Af}{xs:List (Af×Ah)}{n:Nat}{p:Af×Ah}(h:xs[n]? =some p):Eo (NN pre (xs.take (n+1)))=Eo (NN pre (xs.take n))++bif pfx pre p.1 then[p.2] else[]:=by
 rw[List.take_add_one,h];unfold Eo NN;rw[List.filter_append,Afj]
 congr 1
 cases hp:pfx pre p.1<;>simp[hp]
theorem QV (pre:Af)(xs:List (Af×Ah)):(Eo (NN pre xs)).length≤xs.length:=by
 unfold Eo NN;rw[Aey];exact List.length_filter_le ..
theorem Yh {F:Nat}(hF:300<F){xs:List (Af×Ah)}(hw:LH ⟨xs,[]⟩)(pre:Af):So F ⟨true,Eo xs⟩ pre=some (Eo (NN pre xs),⟨true,Eo xs⟩):=by
 have hl:xs.length≤256:=hw.len;have hlen:=Rq xs;unfold So;rw[A2 (p:=!true) rfl];obtain⟨o,h1,h2⟩:=Gi (body:=λσ:List Ah×Int=>Hj ⟨true,Eo xs⟩ pre σ.1 σ.2) (λσ=>0≤σ.2∧σ.2≤(xs.length:Int)∧σ.1=Eo (NN pre (xs.take σ.2.toNat))) (λσ=>xs.length-σ.2.toNat)
  (λo=>o = .go (Eo (NN pre xs))) (λ⟨out,x⟩ ⟨h0,hx,ho⟩=>by
   dsimp only at h0 hx ho ⊢;subst ho;have hsl:=QV pre (xs.take x.toNat);rw[Afh] at hsl
   by_cases hx2:x<(xs.length:Int)
   ·obtain⟨p,hp⟩:∃p,xs[x.toNat]? =some p:=⟨xs[x.toNat]'(by omega),Aeq (by omega)⟩
    have hat:Aq (Eo xs) x=p.2:=by simp[Aq,Ov hp]
    have hkey:p.2.fKey=p.1:=hw.ikey p (Aet hp);have hc:imp (decide ((pre.length:Int)≤(p.1.length:Int))) (Gr (pre.length:Int) (p.1.length:Int))=true:=by
     by_cases h:(pre.length:Int)≤(p.1.length:Int)
     ·rw[Aei h,Xb (by omega) h];rfl
     ·rw[Aeg h];rfl
    have hb:Hj ⟨true,Eo xs⟩ pre (Eo (NN pre (xs.take x.toNat))) x=Bi (pfx pre p.1) (some (.next (Eo (NN pre (xs.take x.toNat))++[p.2],x+1))) (some (.next (Eo (NN pre (xs.take x.toNat)),x+1))):=by
     unfold Hj Ja;dsimp only;rw[hlen,AC (Aei hx2),AW h0 hx2,hat,hkey,B7 hc,Lt (by simp;omega),A4 (by omega) (by omega),A4 (by omega) (by omega)];rfl
    have ht:=Sh (pre:=pre) hp;have hx1:(x+1).toNat=x.toNat+1:=by omega
    cases hpf:pfx pre p.1 with
    | true=>
     rw[hpf] at ht;refine .inl ⟨_,hb.trans (AC hpf),⟨by show 0≤x+1;omega,by show x+1≤_;omega,?_⟩,by show xs.length-(x+1).toNat<xs.length-x.toNat;omega⟩;show _=Eo (NN pre (xs.take (x+1).toNat));rw[hx1,ht];rfl
    | false=>
     rw[hpf] at ht;refine .inl ⟨_,hb.trans (A2 hpf),⟨by show 0≤x+1;omega,by show x+1≤_;omega,?_⟩,by show xs.length-(x+1).toNat<xs.length-x.toNat;omega⟩;show _=Eo (NN pre (xs.take (x+1).toNat));rw[hx1,ht];simp
   ·refine .inr ⟨.go _,by unfold Hj;dsimp only;rw[hlen,A2 (Aeg hx2)],?_⟩;rw[show x.toNat=xs.length from by omega,Afa]) F ([],0) ⟨Ae8 0,by show(0:Int)≤_;omega,by simp[Eo,NN]⟩ (by show xs.length-0<F;omega)
 subst h2;rw[AI h1,Pc];rfl
theorem SS {xs:List (Af×Ah)}(hm:Ms xs):Dm xs=xs.map (·.1):=by
 unfold Dm;refine List.mergeSort_of_pairwise (List.pairwise_map.2 (hm.imp fun {p q} h=>?_));have h':Op.bytesLess p.1 q.1=true:=h;rw[bytesLess_eq] at h';exact Aei (List.le_of_lt (Aep h'))
theorem WM {xs:List (Af×Ah)}(hl:xs.length≤256)(hk:∀p∈xs,p.1.length≤300):Pq xs=true:=by
 unfold Pq;simp only[Aej,Aed,AeI];refine⟨by omega,λp hp=>?_⟩;have:=hk p hp;unfold okS;simp only[Aed];omega
theorem Zd {F:Nat}(hF:300<F){xs ys:List (Af×Ah)}(hw:LH ⟨xs,[]⟩)(pre:Af):Ti F ⟨xs,ys⟩ pre=some (Eo (NN pre xs),⟨xs,ys⟩):=by
 have hl:xs.length≤256:=hw.len;have hm:Ms xs:=hw.it.ms;have hlen:(xs.map (·.1)).length=xs.length:=by simp
 unfold Ti Ls;rw[AI rfl,A2 (p:=!true) rfl,B7 (WM hl hw.kl)];obtain⟨o,h1,h2⟩:=Gi (body:=λσ:List Ah×Int=>Hl pre (true,⟨xs,ys⟩) σ.1 σ.2) (λσ=>0≤σ.2∧σ.2≤(xs.length:Int)∧σ.1=Eo (NN pre (xs.take σ.2.toNat))) (λσ=>xs.length-σ.2.toNat)
  (λo=>o = .go (Eo (NN pre xs))) (λ⟨out,x⟩ ⟨h0,hx,ho⟩=>by
   dsimp only at h0 hx ho ⊢;subst ho;have hsl:=QV pre (xs.take x.toNat);rw[Afh] at hsl
   by_cases hx2:x<(xs.length:Int)
   ·obtain⟨p,hp⟩:∃p,xs[x.toNat]? =some p:=⟨xs[x.toNat]'(by omega),Aeq (by omega)⟩
    have hpm:=Aet hp;have hat:Aq (xs.map (·.1)) x=p.1:=by simp[Aq,hp]
    have hval:CL xs p.1 (Ah.mk [] [] 0)=p.2:=by
     unfold CL;rw[Kt hm.nodup (show(p.1,p.2)∈xs from hpm)];rfl
    have hown:WS p.2=some p.2:=by
     unfold WS;have:=(hw.it.ok p hpm).2.2;rw[QM (by omega),AI rfl]
    have hb:Hl pre (true,⟨xs,ys⟩) (Eo (NN pre (xs.take x.toNat))) x=Bi (pfx pre p.1) (some (.next (Eo (NN pre (xs.take x.toNat))++[p.2],x+1))) (some (.next (Eo (NN pre (xs.take x.toNat)),x+1))):=by
     unfold Hl Jp;dsimp only;rw[SS hm,hlen,AC (Aei hx2),AW h0 hx2,hat,Uw,AI rfl,hval,hown,AI rfl,Lt (by simp;omega),A4 (by omega) (by omega),A4 (by omega) (by omega)]
    have ht:=Sh (pre:=pre) hp;have hx1:(x+1).toNat=x.toNat+1:=by omega
    cases hpf:pfx pre p.1 with
    | true=>
     rw[hpf] at ht;refine .inl ⟨_,hb.trans (AC hpf),⟨by show 0≤x+1;omega,by show x+1≤_;omega,?_⟩,by show xs.length-(x+1).toNat<xs.length-x.toNat;omega⟩;show _=Eo (NN pre (xs.take (x+1).toNat));rw[hx1,ht];rfl
    | false=>
     rw[hpf] at ht;refine .inl ⟨_,hb.trans (A2 hpf),⟨by show 0≤x+1;omega,by show x+1≤_;omega,?_⟩,by show xs.length-(x+1).toNat<xs.length-x.toNat;omega⟩;show _=Eo (NN pre (xs.take (x+1).toNat));rw[hx1,ht];simp
   ·refine .inr ⟨.go _,by unfold Hl;dsimp only;rw[SS hm,hlen,A2 (Aeg hx2)],?_⟩;rw[show x.toNat=xs.length from by omega,Afa]) F ([],0) ⟨Ae8 0,by show(0:Int)≤_;omega,by simp[Eo,NN]⟩ (by show xs.length-0<F;omega)
 subst h2;rw[AI h1,Pc];rfl
theorem XW {F:Nat}(hF:300<F){xs:List (Af×Ah)}(hw:LH ⟨xs,[]⟩)(pre:Af):MU F (Eo (NN pre xs)) (Eo (NN pre xs))=some true:=by
 have hl:xs.length≤256:=hw.len;have h1:=QV pre xs;refine Sq (by omega) hF (by omega) λy hy=>?_;obtain⟨p,hp,rfl⟩:=List.mem_map.1 hy;exact(hw.it.ok p (List.mem_filter.1 hp).1).2.2
theorem IE.up {M K:Nat}{v:List Aa}(h:IE M v)(hK:M≤K)(hb:K≤1000000000):IE K v:=⟨hb,by have:=h.hv;omega,λc hc=>⟨by have:=(h.hc c hc).1;omega,(h.hc c hc).2⟩⟩
theorem IE.zero {M:Nat}(hM:M≤1000000000):IE M []:=⟨hM,AeL _,λ_ h=>by cases h⟩
def CkC (c:Ae):Prop:=IE 5000 c.fValue
def CkL (l:List Ae):Prop:=∀c∈l,CkC c
theorem WV {F:Nat}(hF:5000<F){c:Ae}(hA:CkC c):JF F c=some (HR c):=by
 unfold JF HR;rw[IV hA (by decide) hF,AI rfl]
 cases Rr c.fKey with
 | false=>rfl
 | true=>
  cases(decide (c.fIfVersion<(-1))||decide (1000000000000<c.fIfVersion)) with
  | true=>rfl
  | false=>
   cases(c.fDelete&&decide (0<(c.fValue.length:Int))) with
   | true=>rfl
   | false=>cases c.fDelete<;>rfl
theorem OQ {F:Nat}(hF:30000<F){c:Ae}(hA:CkC c):Dq F c=some (HR c):=by
 unfold Dq HR;rw[Vv (by omega),AI rfl,MY hA (by decide) (by omega),AI rfl]
 cases Rr c.fKey with
 | false=>rfl
 | true=>
  cases(decide (c.fIfVersion<(-1))||decide (1000000000000<c.fIfVersion)) with
  | true=>rfl
  | false=>
   cases c.fDelete with
   | true=>cases decide (0<(c.fValue.length:Int))<;>rfl
   | false=>rfl
theorem OA {l:List Ae}{b:Int→Option (Stp Int (Out Int Unit))}(hb:∀(x:Nat) (c:Ae) (r:List Ae),l.drop x=c::r→b (x:Int)=bif decide (HR c=0) then some (.next ((x+1:Nat):Int)) else some (.out (.ret (HR c))))
  (he:b (l.length:Int)=some (.out (.go ()))):∀(r:List Ae) (n x:Nat),l.drop x=r→x≤l.length→r.length<n→Br (BJ b n (x:Int)) (BE λ_=>some 0)=some (Kw r)
 | [],n,x,h,hx,hn=>by
  obtain⟨n,rfl⟩:∃m,n=m+1:=⟨n-1,by simp at hn;omega⟩
  have:l.length≤x:=by simpa using h
  have e:x=l.length:=by omega
  subst e;rw[BJ,he];rfl
 | c::r,n,x,h,hx,hn=>by
  obtain⟨n,rfl⟩:∃m,n=m+1:=⟨n-1,by simp at hn;omega⟩
  obtain⟨hat,hlt,hd⟩:=Ge h;rw[BJ,hb x c r h,Kw]
  cases hc:decide (HR c=0) with
  | false=>rfl
  | true=>
   simp only[Aek];exact OA hb he r n (x+1) hd (by omega) (by simp at hn;omega)
theorem Q6 {F:Nat}(hF:5000<F){l:List Ae}(hA:CkL l):It F l=some (NU l):=by
 unfold It NU
 cases h:decide (256<l.length) with
 | true=>rw[AC (Aei (by have:=Aep h;omega))];rfl
 | false=>
  have h':=AeB h;rw[A2 (Aeg (by omega))];exact OA (λx c r hd=>by
   obtain⟨hat,hlt,_⟩:=Ge hd;show D1 F l (x:Int)=_;unfold D1;rw[AC (Aei (by omega)),AW (by omega) (by omega),hat,AI (WV hF (hA c (Afg (i:=x) (by rw[hd];simp)))),A4 (by omega) (by omega)]
   cases decide (HR c=0)<;>rfl) (by
   show D1 F l _=_;unfold D1;rw[A2 (Aeg (by omega))]) l F 0 rfl (by omega) (by omega)
theorem ZJ (v:List Aa):(Ka v).2=Hp v:=by
 unfold Ka Hp
 cases whole v with
 | none=>rfl
 | some f=>
  simp only
  cases hh:decide (GF f=0) with
  | true=>rw[Aep hh];rfl
  | false=>rfl
theorem Uj {c:Ae}(h:HR c=0):Qr (PX c)=(GK c,0):=by
 unfold Qr;rw[SH h];rfl
theorem Ze {F:Nat}(hF:30000<F){c:Ae}(hA:CkC c)(h:HR c=0):Tj F c=some (GK c,0):=by
 obtain⟨h1,h2,h3,h4,h5⟩:=MG h;have hp:=Uj h;unfold Tj;unfold PX at hp
 cases hd:c.fDelete with
 | true=>
  rw[hd] at hp;rw[A2 (by rfl),A4 (by omega) (by omega),AI (Tt (by omega))];exact congrArg some hp
 | false=>
  rw[hd] at hp;rw[AC (by rfl),AI (TO hA (by decide) (by omega)),ZJ,h5 hd,A2 (by rfl),A4 (by omega) (by omega),AI (Tt (by omega))];exact congrArg some hp
theorem T0 {l:List Ae}{b:List Af×Int→Option (Stp (List Af×Int) (Out (Af×Int) (List Af)))}(hl:l.length≤300)(hb:∀(acc:List Af) (x:Nat) (c:Ae) (r:List Ae),l.drop x=c::r→acc.length≤300→b (acc,(x:Int))=some (.next (acc++[GK c],((x+1:Nat):Int))))
  (he:∀acc,b (acc,(l.length:Int))=some (.out (.go acc))):∀(r:List Ae) (n x:Nat) (acc:List Af),l.drop x=r→x≤l.length→acc.length=x→r.length<n→BJ b n (acc,(x:Int))=some (.go (acc++r.map GK))
 | [],n,x,acc,h,hx,ha,hn=>by
  obtain⟨n,rfl⟩:∃m,n=m+1:=⟨n-1,by simp at hn;omega⟩
  have:l.length≤x:=by simpa using h
  have e:x=l.length:=by omega
  rw[e,BJ,he,List.map_nil,AeF]
 | c::r,n,x,acc,h,hx,ha,hn=>by
  obtain⟨n,rfl⟩:∃m,n=m+1:=⟨n-1,by simp at hn;omega⟩
  obtain⟨hat,hlt,hd⟩:=Ge h;rw[BJ,hb acc x c r h (by omega)];simp only;rw[T0 hl hb he r n (x+1) _ hd (by omega) (by simp;omega) (by simp at hn;omega),Ae5];rfl
theorem ZG {l:List Ae}(h:NU l=0):l.length≤256∧∀c∈l,HR c=0:=by
 unfold NU at h
 cases h2:decide (256<l.length) with
 | true=>rw[h2] at h;cases h
 | false=>
  rw[h2] at h;exact⟨by have:=AeB h2;omega,Nn h⟩
theorem Ux {F:Nat}(hF:270000<F){l:List Ae}(hA:CkL l):M5 F l=some (Rz l):=by
 unfold M5 Rz;rw[AI (Q6 (by omega) hA)]
 cases h:decide (NU l=0) with
 | false=>rfl
 | true=>
  obtain⟨h1,h2⟩:=ZG (Aep h);rw[A2 (p:=!true) rfl];have:=T0 (l:=l) (b:=λσ=>Eh F l σ.1 σ.2) (by omega) (λacc x c r hd ha=>by
   obtain⟨hat,hlt,_⟩:=Ge hd;have hm:c∈l:=Afg (i:=x) (by rw[hd];simp);show Eh F l acc (x:Int)=_;unfold Eh;rw[AC (Aei (by omega)),AW (by omega) (by omega),hat,AI (Ze (by omega) (hA c hm) (h2 c hm)),A2 (by rfl),Jy (by simp;omega),A4 (by omega) (by omega)];rfl) (λacc=>by
   show Eh F l acc _=_;unfold Eh;rw[A2 (Aeg (by omega))]) l F 0 [] rfl (by omega) rfl (by omega)
  rw[show(([]:List Af),(0:Int))=([],((0:Nat):Int)) from rfl,AI this,CU,AeE];unfold Iu;rw[AI (ZD (by omega) (by simp;omega) (by simp;omega))];rfl
theorem QN {α:Type}{n:Nat}{x:Option α}(h:n≤1000000000):AQ (Dw 56 n) x=x:=B7 (Aei (by omega))
theorem T4 (l:List Af):decide ((l.length:Int)=4)=true→∃a b c d,l=[a,b,c,d]:=λh=>Ady (Aep h)
theorem Sd {b:Af}(h:(GS b).2=0):∀f∈(GS b).1,f.length≤4000:=λf hf=>VW hf h
theorem Uv {F:Nat}(hF:30000<F){b:Af}(hb:b.length≤1000000000):M1 F b=some (LK b):=by
 unfold M1 LK;rw[AI (U3 (by omega) hb)];have hsm:=Sd (b:=b);generalize GS b=u at *;obtain⟨l,e⟩:=u
 cases he:decide (e=0) with
 | false=>rw[B7 (by simp[imp,he]),AC (by simp[he])];rfl
 | true=>
  have e0:=Aep he;subst e0
  cases hl:decide ((l.length:Int)=4) with
  | false=>
   rw[B7 (by simp[imp,hl]),AC (by simp[hl])];unfold Px;rw[hl];rfl
  | true=>
   obtain⟨k,f,t,m,rfl⟩:=T4 l hl;have a0:Aq [k,f,t,m] 0=k:=rfl;have a1:Aq [k,f,t,m] 1=f:=rfl;have a2:Aq [k,f,t,m] 2=t:=rfl;have a3:Aq [k,f,t,m] 3=m:=rfl;have hm:m.length≤4000:=hsm rfl m (by simp);rw[B7 (by rfl)];unfold Px ofC;rw[a0,a1,a2,a3]
   cases hd:decide (f=[48]) with
   | false=>
    cases ha:decide (f=[49]) with
    | false=>rw[AC (by rfl)];rfl
    | true=>
     rw[A2 (by rfl),AW (by omega) (by simp),Jz (by omega)]
     cases hp:decide (BI m=0) with
     | false=>rfl
     | true=>
      rw[A2 (by rfl),AW (by omega) (by simp),AW (by omega) (by simp),AC (by rfl),AW (by omega) (by simp)];rfl
   | true=>
    have hf:=Aep hd;have ha:decide (f=[49])=false:=by rw[hf];rfl
    rw[ha,A2 (by rfl),AW (by omega) (by simp),Jz (by omega)]
    cases hp:decide (BI m=0) with
    | false=>rfl
    | true=>
     obtain⟨r,hr⟩:=Lb t;rw[A2 (by rfl),AW (by omega) (by simp),AW (by omega) (by simp),A2 (by rfl),AW (by omega) (by simp),Sc (by omega),hr,AI rfl,Hd];rfl
theorem Ub {F:Nat}(hF:30000<F){b:Af}(hb:b.length≤1000000000):∃c,Mg F b=some (c,H6 b)∧(H6 b=true→c=(LK b).1):=by
 unfold Mg H6 LK;rw[AI (S7 (by omega) hb)];have hsm:=Sd (b:=b);generalize GS b=u at *;obtain⟨l,e⟩:=u
 cases he:decide (e=0) with
 | false=>exact⟨zC,by rw[AC (by simp[he])];rfl,λh=>by cases h⟩
 | true=>
  have e0:=Aep he;subst e0
  cases hl:decide ((l.length:Int)=4) with
  | false=>
   refine⟨zC,?_,?_⟩
   ·rw[AC (by simp[hl])];unfold Px;rw[hl];rfl
   ·unfold Px;rw[hl];intro h;cases h
  | true=>
   obtain⟨k,f,t,m,rfl⟩:=T4 l hl;have a0:Aq [k,f,t,m] 0=k:=rfl;have a1:Aq [k,f,t,m] 1=f:=rfl;have a2:Aq [k,f,t,m] 2=t:=rfl;have a3:Aq [k,f,t,m] 3=m:=rfl;have hm:m.length≤4000:=hsm rfl m (by simp);unfold Px ofC;rw[a0,a1,a2,a3,A2 (by rfl),AW (by omega) (by simp),Jz (by omega),AW (by omega) (by simp),AW (by omega) (by simp)]
   cases hp:decide (BI m=0) with
   | false=>
    rw[AC (by rfl)];refine⟨Ae.mk k (decide (f=[49])) [] (AL m),?_,λh=>?_⟩
    ·cases decide (f=[48])<;>cases decide (f=[49])<;>rfl
    ·exfalso;revert h
     cases decide (f=[48])<;>cases decide (f=[49])<;>(intro h;cases h)
   | true=>
    cases hd:decide (f=[48]) with
    | false=>
     cases ha:decide (f=[49]) with
     | false=>exact⟨_,by rw[AC (by rfl)];rfl,λh=>by cases h⟩
     | true=>
      have hv:=OQ hF (c:=Ae.mk k true [] (AL m)) (IE.zero (by decide));rw[A2 (by rfl),AC (by rfl),AW (by omega) (by simp),hv,B7 (by cases decide (t=[])<;>rfl)];exact⟨_,rfl,λ_=>rfl⟩
    | true=>
     have hf:=Aep hd;have ha:decide (f=[49])=false:=by rw[hf];rfl
     obtain⟨r,hr⟩:=Lb t;rw[ha,A2 (by rfl),A2 (by rfl),AW (by omega) (by simp),Sz (by omega),hr,AI rfl,Hd]
     cases hr0:decide (r.2=0) with
     | false=>
      refine⟨_,by rw[B7 (by rfl)];rfl,λh=>?_⟩;exfalso;revert h;simp only[decide_true,Ae6,Ae7,Bool.and_self,Aek,Aeh,Ae1];intro h;cases h
     | true=>
      obtain⟨d1,d2,d3⟩:=R1 hr (Aep hr0);have hv:=OQ hF (c:=Ae.mk k false r.1 (AL m)) (IE.up d1 (by decide) (by decide));rw[hv,B7 (by rfl)];exact⟨_,rfl,λ_=>rfl⟩
theorem XI {b:Af}(h:(LK b).2=true):CkC (LK b).1:=by
 obtain⟨_,_,u3⟩:=UL h;rw[u3] at h ⊢;unfold ofC at h ⊢;unfold CkC
 cases hf:decide (Aq (GS b).1 1=[49]) with
 | true=>exact IE.zero (by decide)
 | false=>
  rw[hf] at h;simp only[Aeh] at h ⊢;obtain⟨r,hr⟩:=Lb (Aq (GS b).1 2);rw[hr,Hd] at h ⊢;exact IE.up (R1 hr (Aep h)).1 (by decide) (by decide)
theorem PA {l:List Af}{b:List Ae×Int→Option (Stp (List Ae×Int) (Out (List Ae×Int) (List Ae)))}{good:Af→Bool}{val:Af→Ae}
  (hb:∀(acc:List Ae) (x:Nat) (c:Af) (r:List Af),l.drop x=c::r→acc.length=x→b (acc,(x:Int))=bif good c then some (.next (acc++[val c],((x+1:Nat):Int))) else some (.out (.ret ([],13))))
  (he:∀acc,b (acc,(l.length:Int))=some (.out (.go acc))):∀(r:List Af) (n x:Nat) (acc:List Ae),l.drop x=r→x≤l.length→acc.length=x→r.length<n→BJ b n (acc,(x:Int))=some (bif r.all good then .go (acc++r.map val) else .ret ([],13))
 | [],n,x,acc,h,hx,ha,hn=>by
  obtain⟨n,rfl⟩:∃m,n=m+1:=⟨n-1,by simp at hn;omega⟩
  have:l.length≤x:=by simpa using h
  have e:x=l.length:=by omega
  rw[e,BJ,he,List.map_nil,AeF];rfl
 | c::r,n,x,acc,h,hx,ha,hn=>by
  obtain⟨n,rfl⟩:∃m,n=m+1:=⟨n-1,by simp at hn;omega⟩
  obtain⟨hat,hlt,hd⟩:=Ge h;rw[BJ,hb acc x c r h ha,AeN]
  cases hg:good c with
  | false=>rfl
  | true=>
   simp only[Aek,Aer];rw[PA hb he r n (x+1) _ hd (by omega) (by simp;omega) (by simp at hn;omega),Ae5];rfl
theorem OM (s:Af):(BF s.length s).1.length≤s.length:=by
 obtain⟨h1,h2,_⟩:=IZ s.length s;have:=M9 (BF s.length s).1;rw[← h2,Afh] at this;omega
theorem Gt {s:Af}(h:JH s=false):Kb s=([],13):=by unfold Kb;rw[h];rfl
theorem Lc {s:Af}(h:JH s=true):Kb s=((BF s.length s).1.map λb=>(LK b).1,0):=by unfold Kb;rw[h];rfl
theorem Uz {F:Nat}(hF:270000<F){s:Af}(hs:s.length≤270000):M6 F s=some (Kb s):=by
 have hsl:=OM s;have hbl:=(IZ s.length s).2.2;unfold M6;rw[AI (Xi (by omega) (by omega) (by omega))]
 cases hn:decide ((BF s.length s).2=s.length) with
 | false=>
  have hg:JH s=false:=by unfold JH;rw[hn];rfl
  rw[Gt hg,AC (by rw[Aeg (by have:=AeB hn;omega)];rfl)]
 | true=>
  have hn':=Aep hn;rw[A2 (by rw[Aei (by omega)];rfl)];have:=PA (l:=(BF s.length s).1) (b:=λσ=>Ei F ((BF s.length s).1,((BF s.length s).2:Int)) σ.1 σ.2) (good:=λb=>(LK b).2) (val:=λb=>(LK b).1) (λacc x c r hd ha=>by
   obtain⟨hat,hlt,_⟩:=Ge hd;have hc:=hbl c (Afg (i:=x) (by rw[hd];simp));show Ei F ((BF s.length s).1,((BF s.length s).2:Int)) acc (x:Int)=_;unfold Ei;rw[AC (Aei (by simp only;omega)),AW (by omega) (by simp only;omega),hat,AI (Uv (by omega) (by omega))]
   cases(LK c).2 with
   | false=>rfl
   | true=>rw[A2 (by rfl),QN (by simp;omega),A4 (by omega) (by omega)];rfl) (λacc=>by
   show Ei F ((BF s.length s).1,((BF s.length s).2:Int)) acc _=_;unfold Ei;rw[A2 (Aeg (by simp only;omega))]) (BF s.length s).1 F 0 [] rfl (by omega) rfl (by omega)
  rw[show(([]:List Ae),(0:Int))=([],((0:Nat):Int)) from rfl,AI this,AeE]
  cases hall:(BF s.length s).1.all (λb=>(LK b).2) with
  | false=>
   have hg:JH s=false:=by
    cases hgg:JH s with
    | false=>rfl
    | true=>
     unfold JH at hgg;simp only[Aej] at hgg;obtain⟨_,_,g3,_⟩:=hgg;rw[AeI] at g3;have:(BF s.length s).1.all (λb=>(LK b).2)=true:=List.all_eq_true.2 λb hb=>by
      have:=g3 b hb;unfold H6 at this;simp only[Aej] at this;exact this.1
     rw[this] at hall;cases hall
   rw[Gt hg];rfl
  | true=>
   have hck:CkL ((BF s.length s).1.map λb=>(LK b).1):=λc hc=>by
    obtain⟨b,hb,rfl⟩:=List.mem_map.1 hc;exact XI ((List.all_eq_true.1 hall) b hb)
   simp only[Aek];rw[CU];unfold Iv;rw[AI (Ux hF hck)]
   cases hg:JH s with
   | true=>
    have h1:=Lc hg;have h2:=ZQ (s:=s) (by rw[h1]);rw[h1] at h2 ⊢;simp only at h2;rw[h2,A2 (by simp)]
   | false=>
    rw[Gt hg]
    cases he:((!decide ((Rz ((BF s.length s).1.map λb=>(LK b).1)).2=0))||(!decide ((Rz ((BF s.length s).1.map λb=>(LK b).1)).1=s))) with
    | true=>rw[AC (by rfl)]
    | false=>
     simp only[Ae4,AeW,Aed] at he;have h2:=ZI he.1;rw[he.2,Gt hg] at h2;exact absurd (show(13:Int)=0 from congrArg Prod.snd h2) (by decide)
theorem S0 {F:Nat}(hF:270000<F){s:Af}(hs:s.length≤270000):Kn F s=some (Kb s):=by
 have hsl:=OM s;have hbl:=(IZ s.length s).2.2;unfold Kn Kb JH;rw[AI (Uf (by omega) (by omega) (by omega))]
 cases hn:decide ((BF s.length s).2=s.length) with
 | false=>rw[AC (by rw[Aeg (by have:=AeB hn;omega)];rfl)];rfl
 | true=>
  have hn':=Aep hn
  cases hl:decide ((BF s.length s).1.length≤256) with
  | false=>rw[AC (by rw[Aei (p:=(256:Int)<_) (by have:=AeB hl;simp only;omega),Ae7])];rfl
  | true=>
   have hl':=Aep hl;rw[A2 (by rw[Aei (by simp only;omega),Aeg (p:=(256:Int)<_) (by simp only;omega)];rfl)];have:=PA (l:=(BF s.length s).1) (b:=λσ=>DL F ((BF s.length s).1,((BF s.length s).2:Int)) σ.1 σ.2) (good:=H6) (val:=λb=>(LK b).1) (λacc x c r hd ha=>by
    obtain⟨hat,hlt,_⟩:=Ge hd;have hc:=hbl c (Afg (i:=x) (by rw[hd];simp));obtain⟨v,hv1,hv2⟩:=Ub (F:=F) (by omega) (b:=c) (by omega);show DL F ((BF s.length s).1,((BF s.length s).2:Int)) acc (x:Int)=_;unfold DL;rw[AC (Aei (by simp only;omega)),AW (by omega) (by simp only;omega),hat,AI hv1]
    cases hg:H6 c with
    | false=>rfl
    | true=>rw[A2 (by rfl),QN (by simp;omega),A4 (by omega) (by omega),hv2 hg];rfl) (λacc=>by
    show DL F ((BF s.length s).1,((BF s.length s).2:Int)) acc _=_;unfold DL;rw[A2 (Aeg (by simp only;omega))]) (BF s.length s).1 F 0 [] rfl (by omega) rfl (by omega)
   rw[show(([]:List Ae),(0:Int))=([],((0:Nat):Int)) from rfl,AI this,AeE]
   cases hall:(BF s.length s).1.all H6 with
   | false=>rfl
   | true=>
    simp only[Aek];rw[CU];unfold Hk
    cases hz:decide (s.length≤262144) with
    | false=>rw[AC (Aei (by have:=AeB hz;omega))];rfl
    | true=>rw[A2 (Aeg (by have:=Aep hz;omega))];rfl
theorem V7 (s:Af):CkL (Kb s).1:=by
 cases hg:JH s with
 | false=>rw[Gt hg];intro c hc;cases hc
 | true=>
  rw[Lc hg];intro c hc;obtain⟨b,hb,rfl⟩:=List.mem_map.1 hc;unfold JH at hg;simp only[Aej] at hg;have:=(List.all_eq_true.1 hg.2.2.1) b hb;unfold H6 at this;simp only[Aej] at this;exact XI this.1
theorem Po:Pp 300000=some true:=by decide +kernel
theorem CkL.of {l:List Ae}(hs:SmP l)(ho:∀c∈l,OkC c):CkL l:=λc hc=>
 ⟨by decide,by have:=(hs.all c hc).val;omega,λx hx=>⟨(hs.all c hc).cells x hx,((ho c hc).cells x hx).1,((ho c hc).cells x hx).2⟩⟩
theorem ZS (s:Af):(Kb s).1.length≤256:=by
 cases hg:JH s with
 | false=>rw[Gt hg];exact AeL _
 | true=>
  rw[Lc hg];unfold JH at hg;simp only[Aej,Aed] at hg;rw[Aey];exact hg.2.1
theorem QK {s:Af}:∀c∈(Kb s).1,HR c=0:=by
 intro c hc
 cases hg:JH s with
 | false=>rw[Gt hg] at hc;cases hc
 | true=>
  rw[Lc hg] at hc;obtain⟨b,hb,rfl⟩:=List.mem_map.1 hc;unfold JH at hg;simp only[Aej] at hg;have:=(List.all_eq_true.1 hg.2.2.1) b hb;unfold H6 at this;simp only[Aej,Aed] at this;exact this.2
theorem ZF {v:List Aa}(h:Hp v=0):v.length≤200:=by
 unfold Hp at h
 cases hw:whole v with
 | none=>rw[hw] at h;cases h
 | some f=>
  rw[hw] at h;have:=(MF h).2.2.1;rw[(J5 hw).1];exact this
theorem Vx {c:Ae}(h:HR c=0)(hA:CkC c):SmC c∧OkC c:=by
 obtain⟨h1,h2,h3,h4,h5⟩:=MG h;have hk:=QA h1;have hv:c.fValue.length≤200:=by
  cases hd:c.fDelete with
  | true=>rw[h4 hd];exact AeL _
  | false=>exact ZF (h5 hd)
 exact⟨⟨by omega,by omega,λx hx=>(hA.hc x hx).1⟩,⟨⟨by omega,by omega⟩,λx hx=>(hA.hc x hx).2⟩⟩
theorem Ab9 (s:Af):SmP (Kb s).1∧∀c∈(Kb s).1,OkC c:=
 ⟨⟨by have:=ZS s;omega,λc hc=>(Vx (QK c hc) (V7 s c hc)).1⟩,λc hc=>(Vx (QK c hc) (V7 s c hc)).2⟩
theorem PI {F:Nat}(hF:30000<F){xs:List (Af×Ah)}(ys:List (Af×Ah)){l:List Ae}(hw:LH ⟨xs,[]⟩)(hs:SmP l)(ho:∀c∈l,OkC c) :
  ∃e xs' ys',Hx F ⟨xs,ys⟩ l=some (e,⟨xs',ys'⟩)∧L7 F ⟨true,Eo xs⟩ l=some (e,⟨true,Eo xs'⟩)∧LH ⟨xs',[]⟩:=by
 have he:=Q6 (F:=F) (by omega) (CkL.of hs ho);have hl2:xs.length≤256:=hw.len;obtain⟨r1,r2⟩:=Wq (ys:=ys) hF hw hs ho he;have hk:=WX (q:=⟨xs,ys⟩) (by omega) he hs hw.it (by show xs.length≤100000;omega);generalize UB (NU l) ⟨xs,ys⟩ l=t at r1 r2 hk;obtain⟨e,xs',ys'⟩:=t;exact⟨e,xs',ys',hk,r1,r2⟩
theorem WI {F:Nat}(hF:270000<F){xs:List (Af×Ah)}(ys:List (Af×Ah)){s:Af}(hw:LH ⟨xs,[]⟩)(hs:s.length≤270000) :
  ∃e xs' ys',Tk F ⟨xs,ys⟩ s=some (e,⟨xs',ys'⟩)∧Sw F ⟨true,Eo xs⟩ s=some (e,⟨true,Eo xs'⟩)∧LH ⟨xs',[]⟩:=by
 unfold Tk Sw Ls;rw[AI rfl,A2 (by rfl),A2 (by rfl),Uz hF hs,S0 hF hs,AI rfl,AI rfl]
 cases h:decide ((Kb s).2=0) with
 | false=>exact⟨_,xs,ys,rfl,rfl,hw⟩
 | true=>
  obtain⟨h1,h2⟩:=Ab9 s;obtain⟨e,xs',ys',a1,a2,a3⟩:=PI (F:=F) (by omega) ys hw h1 h2;refine⟨e,xs',ys',?_,?_,a3⟩
  ·rw[A2 (by rfl),AI a1]
  ·rw[A2 (by rfl),AI a2]
theorem LH.start:LH ⟨[],[]⟩:=⟨MO.nil,MO.nil,λ_ h=>by(cases h),λ_ h=>by(cases h),λ_ h=>by(cases h),λ_ h=>by(cases h),by decide,λ_ h=>by(cases h)⟩
end Go.Proofs.YtjfnokmpfekniaaGreatDoor
namespace Go.Proofs.YtjfnokmpfekniaaGreatDoor
open Go
set_option linter.unusedVariables false
set_option linter.unusedSimpArgs false
theorem Uu {l:List (List Ae)}{s:Af}(hl:∀m∈l,∀d∈m,OkC d):Pn 300000 l s=some true:=by
 obtain⟨b,hb,hs⟩:=Ac6 (F:=300000) (by decide) l;unfold Pn;rw[hb];simp only[Option.isSome_some,B7,Acz]
 cases hA:(!b||decide (20000<(s.length:Int))) with
 | true=>rw[AC rfl,Po];rfl
 | false=>
  simp only[Ae4,AeW,Aee] at hA;obtain⟨hlen,hsm⟩:=hs hA.1;rw[A2 rfl];unfold Zi AaM;rw[AI rfl,AI rfl];obtain⟨o,g1,g2⟩:=Gi (body:=λσ:Int×AV×List (Af×Ah)×List (Af×Ah)=>GV 300000 l σ.1 σ.2.1 σ.2.2.1 σ.2.2.2) (λσ=>0≤σ.1∧σ.1≤(l.length:Int)∧σ.2.1=⟨true,Eo σ.2.2.1⟩∧LH ⟨σ.2.2.1,[]⟩) (λσ=>l.length-σ.1.toNat)
   (λo=>∃xs ys,o = .go (⟨true,Eo xs⟩,xs,ys)∧LH ⟨xs,[]⟩) (λ⟨x,r,xs,ys⟩ ⟨h0,hxl,hr,hw⟩=>by
    dsimp only at h0 hxl hr hw ⊢;subst hr
    by_cases hx:x<(l.length:Int)
    ·obtain⟨m,hm⟩:∃m,l[x.toNat]? =some m:=⟨l[x.toNat]'(by omega),Aeq (by omega)⟩
     have hat:Aq l x=m:=by simp[Aq,hm]
     have hmm:m∈l:=Aet hm;obtain⟨e,xs',ys',a1,a2,a3⟩:=PI (F:=300000) (by decide) ys hw (hsm m hmm) (hl m hmm);refine .inl ⟨(x+1,⟨true,Eo xs'⟩,xs',ys'),?_,⟨by show 0≤x+1;omega,by show x+1≤_;omega,rfl,a3⟩,by show l.length-(x+1).toNat<l.length-x.toNat;omega⟩;unfold GV;rw[AC (Aei hx),AW h0 hx,hat,AI a1,AI a2,A4 (by omega) (by omega)]
    ·exact .inr ⟨.go (⟨true,Eo xs⟩,xs,ys),by unfold GV;rw[A2 (Aeg hx)],⟨xs,ys,rfl,hw⟩⟩) 300000 (0,⟨true,[]⟩,[],[]) ⟨Ae8 0,by show(0:Int)≤_;omega,rfl,LH.start⟩ (by show l.length-0<300000;omega)
  obtain⟨xs,ys,rfl,hw⟩:=g2;rw[AI g1,Pc];dsimp only;unfold Jo;obtain⟨e,xs',ys',a1,a2,a3⟩:=WI (F:=300000) (by decide) ys hw (s:=s) (by omega);rw[AI a1,AI a2];dsimp only;rw[AC (by simp),Zd (by decide) a3,AI rfl,Yh (by decide) a3,AI rfl];dsimp only;rw[XW (by decide) a3,AI rfl,AC rfl,Po];rfl
end Go.Proofs.YtjfnokmpfekniaaGreatDoor
namespace Go.Proofs.YtjfnokmpfekniaaGreatDoor.lawKvLoads
open Go
set_option linter.unusedVariables false
theorem okC {c:Ae}(h:Ul c=true):OkC c:=by
 unfold Ul at h;simp only[Aej,AeI,Aed] at h;refine⟨HO h.2,λx hx=>?_⟩;have:=h.1.2.1 x hx;unfold Y9 at this;simp only[Aej] at this;exact⟨this.1.1.2,(HO this.2).2⟩
theorem law:Law:=λl s h1 _=>⟨300000,Uu (λm hm d hd=>by
 simp only[Aej,AeI,Aed] at h1;exact okC ((h1.1 m hm).1 d hd))⟩
end Go.Proofs.YtjfnokmpfekniaaGreatDoor.lawKvLoads
