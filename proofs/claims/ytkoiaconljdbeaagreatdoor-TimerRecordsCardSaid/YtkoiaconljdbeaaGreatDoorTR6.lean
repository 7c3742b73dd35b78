/-
  Texts of the proof, put together: LdH, LdI, LdJ, LdK, LtA, LrB, LtB, LtD, PO, LmA, LmB, LmS, LmC, LmD, LmF, LwTimerRecords.
-/
import Derived.Test.YtkoiaconljdbeaaGreatDoorTR5
namespace Go.Proofs.YtkoiaconljdbeaaGreatDoor
open Go
set_option linter.unusedVariables false
set_option linter.unusedSimpArgs false
theorem Oo (b:Bool):∀(n:Nat) (s t u:Ah),s.length=n→Cw b s=some (t,u)→∃p,s=p++34::u:=by
 intro n
 induction n using Nat.strongRecOn with
 | ind n ih=>
  intro s t u hn h
  cases s with
  | nil=>cases h
  | cons c r=>
   simp only[AaM] at hn;rw[Dq] at h
   cases h1:decide (c=34) with
   | true=>
    rw[h1] at h;cases h;simp only[AaL] at h1;exact⟨[],by rw[h1];rfl⟩
   | false=>
    rw[h1] at h;simp only[AaN] at h
    cases h2:(b&&!JN c) with
    | true=>rw[h2] at h;cases h
    | false=>
     rw[h2] at h;simp only[AaN] at h
     cases h3:decide (c=92) with
     | true=>
      rw[h3] at h
      cases r with
      | nil=>cases h
      | cons d r'=>
       simp only[AaQ] at h
       cases h4:(decide (d=34)||decide (d=92)) with
       | false=>rw[h4] at h;cases h
       | true=>
        rw[h4] at h;simp only[AaQ] at h
        cases h5:Cw b r' with
        | none=>rw[h5] at h;cases h
        | some q=>
         obtain⟨t',u'⟩:=q;rw[h5] at h;cases h;simp only[AaM] at hn;obtain⟨p,e⟩:=ih r'.length (by omega) r' t' u rfl h5;exact⟨c::d::p,by rw[e];rfl⟩
     | false=>
      rw[h3] at h;simp only[AaN] at h
      cases h5:Cw b r with
      | none=>rw[h5] at h;cases h
      | some q=>
       obtain⟨t',u'⟩:=q;rw[h5] at h;cases h;obtain⟨p,e⟩:=ih r.length (by omega) r t' u rfl h5;exact⟨c::p,by rw[e];rfl⟩
theorem QM {b m:Bool}{last key:Option Ah}{s u:Ah}(h:D3 b m last s=some (key,u)):∃p,s=p++u:=by
 unfold D3 at h
 cases m with
 | false=>cases h;exact⟨[],rfl⟩
 | true=>
  simp only[AaQ] at h
  cases s with
  | nil=>cases h
  | cons c r=>
   simp only at h
   cases h1:decide (c=34) with
   | false=>rw[h1] at h;cases h
   | true=>
    rw[h1] at h;simp only[AaQ] at h
    cases h2:Cw b r with
    | none=>rw[h2] at h;cases h
    | some q=>
     obtain⟨k,w⟩:=q;obtain⟨p,e⟩:=Oo b _ r k w rfl h2;rw[h2] at h;simp only at h
     cases h3:(b&&!B4 true last (some k)) with
     | true=>rw[h3] at h;cases h
     | false=>
      rw[h3] at h;simp only[AaN] at h
      cases w with
      | nil=>cases h
      | cons d w'=>
       simp only at h
       cases h4:decide (d=58) with
       | false=>rw[h4] at h;cases h
       | true=>
        rw[h4] at h;cases h;exact⟨c::(p++[34,d]),by rw[e];simp⟩
theorem Qu (b:Bool):∀F:Nat,(∀s f u,ER b F s=some (f,u)→∃p c,s=p++c::u∧c≠44)∧(∀m last s g u,Di b F m last s=some (g,u)→∃p,s=p++Bh m::u)
 | 0=>⟨(λs f u h=>by rw[ER.eq_def] at h;cases h),(λm last s g u h=>by rw[Di.eq_def] at h;cases h)⟩
 | F+1=>by
  obtain⟨ih1,ih2⟩:=Qu b F;have hcl:∀m,Bh m≠44:=λm=>by cases m<;>decide
  constructor
  ·intro s f u h;rw[Du] at h
   cases h1:pre [110,117,108,108] s with
   | some r=>rw[h1] at h;cases h;exact⟨[110,117,108],108,by have e:=CY h1;exact e,by decide⟩
   | none=>
   rw[h1] at h;simp only at h
   cases h2:pre [116,114,117,101] s with
   | some r=>rw[h2] at h;cases h;exact⟨[116,114,117],101,by have e:=CY h2;exact e,by decide⟩
   | none=>
   rw[h2] at h;simp only at h
   cases h3:pre [102,97,108,115,101] s with
   | some r=>rw[h3] at h;cases h;exact⟨[102,97,108,115],101,by have e:=CY h3;exact e,by decide⟩
   | none=>
   rw[h3] at h;simp only at h
   cases s with
   | nil=>cases h
   | cons c r=>
   simp only at h
   cases h4:decide (c=34) with
   | true=>
    rw[h4] at h;simp only[AaQ] at h
    cases h5:Cw b r with
    | none=>rw[h5] at h;cases h
    | some q=>
     obtain⟨t,w⟩:=q;rw[h5] at h;cases h;obtain⟨p,e⟩:=Oo b _ r t u rfl h5;exact⟨c::p,34,by rw[e];rfl,by decide⟩
   | false=>
   rw[h4] at h;simp only[AaN] at h
   cases h5:(decide (c=91)||decide (c=123)) with
   | false=>
    rw[h5] at h;simp only[AaN] at h;unfold Hl at h;simp only at h;have hsr:∃p,c::r=p++(bif decide ((c::r).head? =some 45) then(c::r).tail else c::r):=by
     cases decide ((c::r).head? =some 45) with
     | true=>exact⟨[c],rfl⟩
     | false=>exact⟨[],rfl⟩
    generalize(bif decide ((c::r).head? =some 45) then(c::r).tail else c::r)=r2 at h hsr
    cases hc:DB (decide ((c::r).head? =some 45)) (BH r2).1 with
    | false=>rw[hc] at h;cases h
    | true=>
     rw[hc] at h;simp only[AaQ,Option.some.injEq,Prod.mk.injEq] at h;obtain⟨_,h⟩:=h;obtain⟨p,e⟩:=hsr;have hne:(BH r2).1≠[]:=by
      intro e';rw[e'] at hc
      cases decide ((c::r).head? =some 45)<;>cases hc
     have hd:=I9 r2;have hl:=List.dropLast_concat_getLast hne;have hlast:BR ((BH r2).1.getLast hne)=true:=List.all_eq_true.1 hd _ (List.getLast_mem hne);refine⟨p++(BH r2).1.dropLast,(BH r2).1.getLast hne,?_,λe'=>by rw[e'] at hlast;cases hlast⟩;rw[e,← h]
     conv=>lhs;rw[HU r2,← hl]
     simp
   | true=>
   rw[h5] at h;simp only[AaQ] at h
   cases r with
   | nil=>cases h
   | cons d r'=>
   simp only at h
   cases h6:decide (d=Bh (decide (c=123))) with
   | true=>
    rw[h6] at h;cases h;simp only[AaL] at h6;exact⟨[c],d,rfl,by rw[h6];exact hcl _⟩
   | false=>
   rw[h6] at h;simp only[AaN] at h
   cases h7:Di b F (decide (c=123)) none (d::r') with
   | none=>rw[h7] at h;cases h
   | some q=>
    obtain⟨g,w⟩:=q;rw[h7] at h;cases h;obtain⟨p,e⟩:=ih2 _ _ _ _ _ h7;exact⟨c::p,_,by rw[e];rfl,hcl _⟩
  ·intro m last s g u h;rw[De] at h
   cases h1:D3 b m last s with
   | none=>rw[h1] at h;cases h
   | some q=>
   obtain⟨key,s1⟩:=q;obtain⟨p1,e1⟩:=QM h1;rw[h1] at h;simp only at h
   cases h2:ER b F s1 with
   | none=>rw[h2] at h;cases h
   | some q=>
   obtain⟨f,s2⟩:=q;obtain⟨p2,c2,e2,_⟩:=ih1 _ _ _ h2;rw[h2] at h;simp only at h
   cases s2 with
   | nil=>cases h
   | cons c s3=>
   simp only at h
   cases h3:decide (c=Bh m) with
   | true=>
    rw[h3] at h;cases h;simp only[AaL] at h3;exact⟨p1++p2++[c2],by rw[e1,e2,h3];simp⟩
   | false=>
   rw[h3] at h;simp only[AaN] at h
   cases h4:decide (c=44) with
   | false=>rw[h4] at h;cases h
   | true=>
   rw[h4] at h;simp only[AaQ] at h
   cases h5:Di b F m key s3 with
   | none=>rw[h5] at h;cases h
   | some q=>
    obtain⟨g',w⟩:=q;rw[h5] at h;cases h;obtain⟨p3,e3⟩:=ih2 _ _ _ _ _ h5;exact⟨p1++p2++[c2,c]++p3,by rw[e1,e2,e3];simp⟩
def Z2 (cl:Ah)(F:Nat)(s:Ah)(hh:Ah→Int→Option ((List Aa)×Int))(hg:(List Aa))(hb:Int)(ha:Aa):Option (Stp ((List Aa)×Int×Aa) (Out ((List Aa)×Int) ((List Aa)×Int×Aa))):=
 AX ((Bn s hb cl).isSome)<|AX (imp (!(!(ov (Bn s hb cl)))) (imp (decide (0<ha.fN)) (Bw .i64 (hb-1))))<|AX (imp (!(!(ov (Bn s hb cl)))) (imp (decide (0<ha.fN)) (CH (hb-1) (s.length:Int))))<|Bj (((!(ov (Bn s hb cl)))||((decide (0<ha.fN))&&(decide ((AT s (hb-1))=44))))) (Bj (decide (ha.fKind=6)) (Bx (Dc F s hb) λhd=>AX (imp (!(decide (hd.2<0))) ((Bn s hd.2 ([58]:Ah)).isSome))<|Bj (((decide (hd.2<0))||(!(ov (Bn s hd.2 ([58]:Ah)))))) (some (.out (.ret (([]:List Aa),(-1))))) (AX (DC 40 (hg.length+([(Aa.mk 4 0 hd.1 0)]:List Aa).length))<|AX (Bw .i64 (hd.2+1))<|Bx (hh s (hd.2+1)) λhe=>Bj (decide (he.2<0)) (some (.out (.ret (([]:List Aa),(-1))))) (AX (DC 40 ((hg++([(Aa.mk 4 0 hd.1 0)]:List Aa)).length+he.1.length))<|AX (Bw .i64 (ha.fN+1))<|Bx (Bn s he.2 ([44]:Ah)) λhi=>Bj (hi) (AX (Bw .i64 (he.2+1))<|some (.next ((hg++([(Aa.mk 4 0 hd.1 0)]:List Aa))++he.1,he.2+1,(Aa.mk ha.fKind ha.fInt ha.fStr (ha.fN+1))))) (Bx (Bn s he.2 cl) λhj=>Bj (!hj) (some (.out (.ret (([]:List Aa),(-1))))) (some (.next ((hg++([(Aa.mk 4 0 hd.1 0)]:List Aa))++he.1,he.2,(Aa.mk ha.fKind ha.fInt ha.fStr (ha.fN+1))))))))) (Bx (hh s hb) λhf=>Bj (decide (hf.2<0)) (some (.out (.ret (([]:List Aa),(-1))))) (AX (DC 40 (hg.length+hf.1.length))<|AX (Bw .i64 (ha.fN+1))<|Bx (Bn s hf.2 ([44]:Ah)) λhk=>Bj (hk) (AX (Bw .i64 (hf.2+1))<|some (.next (hg++hf.1,hf.2+1,(Aa.mk ha.fKind ha.fInt ha.fStr (ha.fN+1))))) (Bx (Bn s hf.2 cl) λhl=>Bj (!hl) (some (.out (.ret (([]:List Aa),(-1))))) (some (.next (hg++hf.1,hf.2,(Aa.mk ha.fKind ha.fInt ha.fStr (ha.fN+1))))))))) (some (.out (.go (hg,hb,ha))))
def Zw (F P:Nat)(S u:Ah):Prop:=
 (∃f w,ER false P u=some (f,w)∧DP w S∧GW F S ((S.length:Int)-u.length)=some (f.flat,(S.length:Int)-w.length))∨(ER false P u=none∧∃v,GW F S ((S.length:Int)-u.length)=some (v,-1))
abbrev YA (m:Bool)(F:Nat)(S:Ah)(G:Nat):List Aa×Int×Aa→Option (Stp (List Aa×Int×Aa) (Out (List Aa×Int) (List Aa×Int×Aa))):=λσ=>Z2 [Bh m] F S (GW G) σ.1 σ.2.1 σ.2.2
def hd (m:Bool)(N:Int):Aa:=⟨bif m then 6 else 5,0,[],N⟩
theorem Yd (m:Bool)(N:Int):decide ((hd m N).fKind=6)=m:=by cases m<;>rfl
theorem TD {m:Bool}{F G P:Nat}{S u:Ah}{out:List Aa}{N:Int}(hS:S.length≤100000)(hs:DP u S)(hF:S.length<F)(hN0:0≤N)(hN:N≤200000)(ho:out.length+u.length≤S.length)(hA:(pre [Bh m] u).isSome=false∨(0<N∧DP (44::u) S))
  (hR:∀w,DP w S→w.length≤u.length→Zw G P S w) :
  (∃v,YA m F S G (out,(S.length:Int)-u.length,hd m N)=some (.out (.ret (v,-1)))∧(D3 false m none u=none∨∃key s1,D3 false m none u=some (key,s1)∧(ER false P s1=none∨∃f s2,ER false P s1=some (f,s2)∧∀c s3,s2=c::s3→decide (c=Bh m)=false∧decide (c=44)=false)))∨
  ∃key s1 f s2,D3 false m none u=some (key,s1)∧ER false P s1=some (f,s2)∧DP s2 S∧((∃s3,s2=Bh m::s3∧YA m F S G (out,(S.length:Int)-u.length,hd m N)=some (.next (out++(Bu key++f.flat),(S.length:Int)-s2.length,hd m (N+1))))∨(∃s3,s2=44::s3∧YA m F S G (out,(S.length:Int)-u.length,hd m N)=some (.next (out++(Bu key++f.flat),(S.length:Int)-s3.length,hd m (N+1))))):=by
 have hsl:=hs.len;have hb0:YA m F S G (out,(S.length:Int)-u.length,hd m N)=Z2 [Bh m] F S (GW G) out ((S.length:Int)-u.length) (hd m N):=rfl;have hst:=CO (w:=[Bh m]) hS (by simp) hs;have htest:Z2 [Bh m] F S (GW G) out ((S.length:Int)-u.length) (hd m N)=Bj m (Bx (Dc F S ((S.length:Int)-u.length)) λha=>AX (imp (!(decide (ha.2<0))) ((Bn S ha.2 ([58]:Ah)).isSome))<|Bj (((decide (ha.2<0))||(!(ov (Bn S ha.2 ([58]:Ah)))))) (some (.out (.ret (([]:List Aa),(-1))))) (AX (DC 40 (out.length+([(Aa.mk 4 0 ha.1 0)]:List Aa).length))<|AX (Bw .i64 (ha.2+1))<|Bx (GW G S (ha.2+1)) λhb=>Bj (decide (hb.2<0)) (some (.out (.ret (([]:List Aa),(-1))))) (AX (DC 40 ((out++([(Aa.mk 4 0 ha.1 0)]:List Aa)).length+hb.1.length))<|AX (Bw .i64 (N+1))<|Bx (Bn S hb.2 ([44]:Ah)) λhi=>Bj (hi) (AX (Bw .i64 (hb.2+1))<|some (.next ((out++([(Aa.mk 4 0 ha.1 0)]:List Aa))++hb.1,hb.2+1,hd m (N+1)))) (Bx (Bn S hb.2 [Bh m]) λhj=>Bj (!hj) (some (.out (.ret (([]:List Aa),(-1))))) (some (.next ((out++([(Aa.mk 4 0 ha.1 0)]:List Aa))++hb.1,hb.2,hd m (N+1)))))))) (Bx (GW G S ((S.length:Int)-u.length)) λhe=>Bj (decide (he.2<0)) (some (.out (.ret (([]:List Aa),(-1))))) (AX (DC 40 (out.length+he.1.length))<|AX (Bw .i64 (N+1))<|Bx (Bn S he.2 ([44]:Ah)) λhk=>Bj (hk) (AX (Bw .i64 (he.2+1))<|some (.next (out++he.1,he.2+1,hd m (N+1)))) (Bx (Bn S he.2 [Bh m]) λhl=>Bj (!hl) (some (.out (.ret (([]:List Aa),(-1))))) (some (.next (out++he.1,he.2,hd m (N+1))))))):=by
  unfold Z2;rw[hst,BB (p:=(some (pre [Bh m] u).isSome).isSome) rfl,GF,Yd];rcases hA with h0 | ⟨hp,hc⟩
  ·rw[h0,BB (p:=imp (!(!false)) _) rfl,BB (p:=imp (!(!false)) _) rfl,AP (p:=!false||_) rfl];rfl
  ·have hcl:=hc.len;simp only[AaM] at hcl;have hm:AT S ((S.length:Int)-u.length-1)=44:=by
    have:=Dl hc.get;rw[AaM] at this;rw[show(S.length:Int)-u.length-1=(S.length:Int)-((u.length+1:Nat):Int) from by omega];exact this
   have hN':decide (0<(hd m N).fN)=true:=AaU hp;rw[hN',hm,HK (by omega) (by omega),Lq (by omega) (by omega),BB (p:=imp _ (imp true true)) (by cases(pre [Bh m] u).isSome<;>rfl),BB (p:=imp _ (imp true true)) (by cases(pre [Bh m] u).isSome<;>rfl),AP (p:=_||(true&&decide ((44:Int)=44))) (by cases(pre [Bh m] u).isSome<;>rfl)];rfl
 rw[hb0,htest];have hh:∀s2:Ah,(pre [44] s2).isSome=match s2 with | []=>false | c::_=>decide (c=44):=λs2=>by
  rw[IH]
  cases s2 with
  | nil=>rfl
  | cons c s3=>simp only;cases decide (c=44)<;>rfl
 have pcl:∀s2:Ah,(pre [Bh m] s2).isSome=match s2 with | []=>false | c::_=>decide (c=Bh m):=λs2=>by
  rw[IH]
  cases s2 with
  | nil=>rfl
  | cons c s3=>simp only;cases decide (c=Bh m)<;>rfl
 have hcl44:decide (Bh m=44)=false:=by cases m<;>rfl
 cases m with
 | false=>
  rw[A8 rfl];have hkp:D3 false false none u=some (none,u):=rfl;rcases hR u hs (Abp _) with⟨f,s2,q1,q2,q3⟩ | ⟨q1,v,q2⟩
  ·have hfl:=(Em false P).1 _ _ _ q1;have h2l:=q2.len;rw[q3,AS rfl,A8 (AaR (by simp only;omega)),JU (by simp only;omega),AI (by omega) (by omega),CO hS (by simp) q2,AS rfl,hh]
   cases s2 with
   | nil=>
    rw[A8 rfl,CO hS (by simp) q2,AS rfl,pcl];exact .inl ⟨[],rfl,.inr ⟨none,u,hkp,.inr ⟨f,[],q1,λc s3 e=>by cases e⟩⟩⟩
   | cons c s3=>
    simp only
    cases hf:decide (c=44) with
    | true=>
     simp only[AaL] at hf;subst hf;simp only[AaM] at h2l;rw[AP rfl,AI (by simp only[AaM];omega) (by simp only[AaM];omega)];refine .inr ⟨none,u,f,_,hkp,q1,q2,.inr ⟨s3,rfl,?_⟩⟩;simp only[AaM,Bu,AbA]
     congr 4
     omega
    | false=>
     rw[A8 rfl,CO hS (by simp) q2,AS rfl,pcl];simp only
     cases hcc:decide (c=Bh false) with
     | true=>
      simp only[AaL] at hcc;subst hcc;exact .inr ⟨none,u,f,_,hkp,q1,q2,.inl ⟨s3,rfl,rfl⟩⟩
     | false=>exact .inl ⟨[],rfl,.inr ⟨none,u,hkp,.inr ⟨f,_,q1,λc' s3' e=>by cases e;exact⟨hcc,hf⟩⟩⟩⟩
  ·rw[q2,AS rfl];exact .inl ⟨[],rfl,.inr ⟨none,u,hkp,.inl q1⟩⟩
 | true=>
  rw[AP rfl];rcases Jm hS hs hF with⟨r,t,w,e1,e2,e3,e4⟩ | ⟨e1,e2⟩
  ·have hwl:=e3.len;have hwl2:=Iu false _ r t w rfl e2;subst e1;have hul:(34::r).length=r.length+1:=rfl;rw[e4,AS rfl];have hkc:D3 false true none (34::r)=Yp t w:=by rw[Lo,e2];rfl
   have hlt:decide ((S.length:Int)-w.length<0)=false:=AaR (by omega);simp only;rw[hlt,CO hS (by simp) e3,BB (p:=imp (!false) (some (pre [58] w).isSome).isSome) rfl,GF,IH]
   cases w with
   | nil=>exact .inl ⟨[],rfl,.inl (by rw[hkc];rfl)⟩
   | cons d s1=>
    simp only
    cases hg:decide (d=58) with
    | false=>
     refine .inl ⟨[],rfl,.inl ?_⟩;rw[hkc];show(bif decide (d=58) then _ else none)=none;rw[hg];rfl
    | true=>
     simp only[AaL] at hg;subst hg;have hkp:D3 false true none (34::r)=some (some t,s1):=hkc;simp only[AaM] at hwl hwl2;have hpos:(S.length:Int)-(58::s1).length+1=S.length-s1.length:=by rw[AaM];omega
     simp only[AaQ];rw[A8 (p:=false||!(some s1).isSome) rfl,JU (by rw[Abs];omega),hpos,AI (by omega) (by omega)];rcases hR s1 e3.tail (by omega) with⟨f,s2,q1,q2,q3⟩ | ⟨q1,v,q2⟩
     ·have hfl:=(Em false P).1 _ _ _ q1;have h2l:=q2.len;rw[q3,AS rfl,A8 (AaR (by simp only;omega)),JU (by simp only[AaS,Abs];omega),AI (by omega) (by omega),CO hS (by simp) q2,AS rfl,hh]
      cases s2 with
      | nil=>
       rw[A8 rfl,CO hS (by simp) q2,AS rfl,pcl];exact .inl ⟨[],rfl,.inr ⟨some t,s1,hkp,.inr ⟨f,[],q1,λc s3 e=>by cases e⟩⟩⟩
      | cons c s3=>
       simp only
       cases hf:decide (c=44) with
       | true=>
        simp only[AaL] at hf;subst hf;simp only[AaM] at h2l;rw[AP rfl,AI (by simp only[AaM];omega) (by simp only[AaM];omega)];refine .inr ⟨some t,s1,f,_,hkp,q1,q2,.inr ⟨s3,rfl,?_⟩⟩;simp only[AaM,Bu,Abq]
        congr 4
        omega
       | false=>
        rw[A8 rfl,CO hS (by simp) q2,AS rfl,pcl];simp only
        cases hcc:decide (c=Bh true) with
        | true=>
         simp only[AaL] at hcc;subst hcc;exact .inr ⟨some t,s1,f,_,hkp,q1,q2,.inl ⟨s3,rfl,by rw[Abq];rfl⟩⟩
        | false=>exact .inl ⟨[],rfl,.inr ⟨some t,s1,hkp,.inr ⟨f,_,q1,λc' s3' e=>by cases e;exact⟨hcc,hf⟩⟩⟩⟩
     ·rw[q2,AS rfl];exact .inl ⟨[],rfl,.inr ⟨some t,s1,hkp,.inl q1⟩⟩
  ·rw[e2,AS rfl];refine .inl ⟨[],?_,.inl (SQ _ _ e1)⟩;rfl
theorem Uj (m:Bool)(last:Option Ah)(s:Ah):D3 false m last s=D3 false m none s:=by
 cases m with
 | false=>rfl
 | true=>
  cases s with
  | nil=>rfl
  | cons c r=>
   by_cases hc:c=34
   ·subst hc;rw[Lo,Lo]
    cases Cw false r with
    | none=>rfl
    | some q=>rfl
   ·show(bif decide (c=34) then _ else none)=(bif decide (c=34) then _ else none);rw[AaR hc];rfl
theorem Ow {m:Bool}{F G:Nat}{S w:Ah}{out:List Aa}{N:Int}(hS:S.length≤100000)(hs:DP (Bh m::w) S)(hN0:0≤N)(h:N=0∨∃c,c≠44∧DP (c::Bh m::w) S) :
  YA m F S G (out,(S.length:Int)-(Bh m::w).length,hd m N)=some (.out (.go (out,(S.length:Int)-(Bh m::w).length,hd m N))):=by
 have hb0:YA m F S G (out,(S.length:Int)-(Bh m::w).length,hd m N)=Z2 [Bh m] F S (GW G) out ((S.length:Int)-(Bh m::w).length) (hd m N):=rfl;rw[hb0];have hsl:=hs.len;have hp:pre [Bh m] (Bh m::w)=some w:=by rw[IH];simp
 unfold Z2;rw[CO hS (by simp) hs,hp,BB (p:=(some (some w).isSome).isSome) rfl,GF];rcases h with h0 | ⟨c,hc,hcs⟩
 ·subst h0;have e:decide (0<(hd m 0).fN)=false:=rfl;rw[e];rfl
 ·have hcl:=hcs.len;simp only[AaM] at hcl hsl;have hbt:AT S ((S.length:Int)-(Bh m::w).length-1)=c.toNat:=by
   have:=Dl hcs.get;rw[AaM] at this;rw[show(S.length:Int)-(Bh m::w).length-1=(S.length:Int)-(((Bh m::w).length+1:Nat):Int) from by omega];exact this
  have ha:decide ((c.toNat:Int)=44)=false:=AaR (λe=>hc (by rw[← AbE];show c.toNat=44;omega));have i1:Bw .i64 ((S.length:Int)-(Bh m::w).length-1)=true:=HK (by simp only[AaM];omega) (by simp only[AaM];omega);have i2:CH ((S.length:Int)-(Bh m::w).length-1) (S.length:Int)=true:=Lq (by simp only[AaM];omega) (by omega);rw[i1,i2,hbt,ha]
  cases decide (0<(hd m N).fN)<;>rfl
def RLk (P:Nat)(m:Bool)(last:Option Ah)(S u:Ah)(out:List Aa)(N:Int)(o:Out (List Aa×Int) (List Aa×Int×Aa)):Prop:=
 (∃G w,Di false P m last u=some (G,w)∧DP (Bh m::w) S∧o = .go (out++G.flat,(S.length:Int)-(Bh m::w).length,hd m (N+(G.cnt:Int))))∨(Di false P m last u=none∧∃v,o = .ret (v,-1))
theorem ZD {S:Ah}(hS:S.length≤100000):∀n:Nat,
  (∀(F P:Nat) (u:Ah),u.length=n→DP u S→S.length+2*n+5<F→2*n+2≤P→Zw F P S u)∧
  (∀(m:Bool) (F G P L:Nat) (u:Ah) (last:Option Ah) (out:List Aa) (N:Int),u.length=n→DP u S→S.length<F→S.length+2*n+5<G→2*n+3≤P→n+1<L→out.length+n≤S.length→0≤N→N+n≤S.length+1→((pre [Bh m] u).isSome=false∨(0<N∧DP (44::u) S))→
   ∃o,Cg (YA m F S G) L (out,(S.length:Int)-u.length,hd m N)=some o∧RLk P m last S u out N o):=by
 intro n
 induction n using Nat.strongRecOn with
 | ind n ih=>
 have hV:∀(F P:Nat) (u:Ah),u.length=n→DP u S→S.length+2*n+5<F→2*n+2≤P→Zw F P S u:=by
  intro F P u hn hs hF hP;obtain⟨F,rfl⟩:∃K,F=K+1:=⟨F-1,by omega⟩
  obtain⟨P,rfl⟩:∃K,P=K+1:=⟨P-1,by omega⟩
  have hsl:=hs.len;unfold Zw;rw[GW];unfold Pb;rw[Du];have word:∀(w:Ah) (k:Nat) (r:Ah),pre w u=some r→w.length=k→DP r S∧(S.length:Int)-u.length+k=S.length-r.length:=λw k r hp hk=>by
   have e:=CY hp;have hl:u.length=w.length+r.length:=by rw[e];simp
   refine⟨?_,by omega⟩;rw[e] at hs;exact hs.app
  by_cases hu:u=[]
  ·subst hu;rw[AP (AaU (by simp))];exact .inr ⟨rfl,[],rfl⟩
  have hne:0<u.length:=List.length_pos_iff.2 hu;rw[A8 (AaR (by omega)),CO hS (by decide) hs,AS rfl]
  cases h1:pre [110,117,108,108] u with
  | some r=>
   obtain⟨hr,hp⟩:=word _ 4 r h1 rfl;have hp:(S.length:Int)-u.length+4=S.length-r.length:=hp;rw[AP (p:=(some r).isSome) rfl,hp];refine .inl ⟨_,r,rfl,hr,?_⟩;show(Bx (Qj) λr9=>AX (Bw .i64 ((S.length:Int)-r.length))<|some (r9,(S.length:Int)-r.length))=_;unfold Qj;rw[AS rfl,AI (by omega) (by omega)];rfl
  | none=>
  rw[A8 (p:=(none:Option Ah).isSome) rfl,CO hS (by decide) hs,AS rfl];simp only
  cases h2:pre [116,114,117,101] u with
  | some r=>
   obtain⟨hr,hp⟩:=word _ 4 r h2 rfl;have hp:(S.length:Int)-u.length+4=S.length-r.length:=hp;rw[AP (p:=(some r).isSome) rfl,hp];refine .inl ⟨_,r,rfl,hr,?_⟩;show(Bx (Mj true) λr9=>AX (Bw .i64 ((S.length:Int)-r.length))<|some (r9,(S.length:Int)-r.length))=_;rw[show Mj true=some [⟨2,1,[],0⟩] from rfl,AS rfl,AI (by omega) (by omega)];rfl
  | none=>
  rw[A8 (p:=(none:Option Ah).isSome) rfl,CO hS (by decide) hs,AS rfl];simp only
  cases h3:pre [102,97,108,115,101] u with
  | some r=>
   obtain⟨hr,hp⟩:=word _ 5 r h3 rfl;have hp:(S.length:Int)-u.length+5=S.length-r.length:=hp;rw[AP (p:=(some r).isSome) rfl,hp];refine .inl ⟨_,r,rfl,hr,?_⟩;show(Bx (Mj false) λr9=>AX (Bw .i64 ((S.length:Int)-r.length))<|some (r9,(S.length:Int)-r.length))=_;rw[show Mj false=some [⟨2,0,[],0⟩] from rfl,AS rfl,AI (by omega) (by omega)];rfl
  | none=>
  rw[A8 (p:=(none:Option Ah).isSome) rfl];simp only
  cases u with
  | nil=>exact absurd rfl hu
  | cons c r=>
  have hbt:AT S ((S.length:Int)-(c::r).length)=c.toNat:=Dl hs.get;have hpos:(S.length:Int)-(c::r).length+1=S.length-r.length:=by rw[AaM];omega
  simp only[AaM] at hn hsl;have hlt:(S.length:Int)-(c::r).length<S.length:=by rw[AaM];omega
  have h0:0≤(S.length:Int)-(c::r).length:=by rw[AaM];omega
  rw[Bl h0 hlt,hbt,OE];simp only
  cases he:decide (c=34) with
  | true=>
   rw[AP rfl];simp only[AaL] at he;subst he;simp only[AaQ];rcases Jm hS hs (F:=F) (by omega) with⟨r',t,w,e1,e2,e3,e4⟩ | ⟨e1,e2⟩
   ·cases e1
    rw[e4,e2,AS rfl];exact .inl ⟨_,w,rfl,e3,rfl⟩
   ·rw[e2,e1 r rfl,AS rfl];exact .inr ⟨rfl,_,rfl⟩
  | false=>
  rw[A8 rfl];simp only[AaN];have hi:decide ((c.toNat:Int)=91)=decide (c=91):=by
   rw[Abj,decide_eq_true_iff,decide_eq_true_iff,← AbE];show _↔c.toNat=91;omega
  have hh:decide ((c.toNat:Int)=123)=decide (c=123):=by
   rw[Abj,decide_eq_true_iff,decide_eq_true_iff,← AbE];show _↔c.toNat=123;omega
  rw[hi,hh]
  cases hb:(decide (c=91)||decide (c=123)) with
  | false=>
   rw[A8 rfl];simp only[AaN];rcases Qh (F:=F) hS hs (by omega) with⟨f,w,e1,e2,e3⟩ | ⟨e1,e2⟩
   ·rw[e3,AS rfl];exact .inl ⟨f,w,e1,e2,rfl⟩
   ·rw[e2,AS rfl];exact .inr ⟨e1,_,rfl⟩
  | true=>
  rw[AP rfl];simp only[AaQ];obtain⟨F,rfl⟩:∃K,F=K+1:=⟨F-1,by omega⟩
  have hmany:∀m:Bool,decide (c=123)=m→(∃f w,NM false P m r=some (f,w)∧DP w S∧D6 (F+1) S ((S.length:Int)-(c::r).length)=some (f.flat,(S.length:Int)-w.length))∨(NM false P m r=none∧∃v,D6 (F+1) S ((S.length:Int)-(c::r).length)=some (v,-1)):=λm hm=>by
   have hrun:D6 (F+1) S ((S.length:Int)-(c::r).length)=Bx (Cg (YA m F S F) F ([],(S.length:Int)-r.length,hd m 0)) (BL λν=>(AX (DC 40 (([ν.2.2]:List Aa).length+ν.1.length))<|AX (Bw .i64 (ν.2.1+1))<|some (([ν.2.2]:List Aa)++ν.1,ν.2.1+1))):=by
    rw[D6];unfold IE;rw[Bl h0 hlt,hbt,hh,hm,hpos]
    cases m with
    | true=>rw[AP rfl,AI (by omega) (by omega)];rfl
    | false=>rw[A8 rfl,AI (by omega) (by omega)];rfl
   have hend:∀(g:Fo) (w:Ah) (o:Out (List Aa×Int) (List Aa×Int×Aa)),DP (Bh m::w) S→g.flat.length≤200000→o = .go ([]++g.flat,(S.length:Int)-(Bh m::w).length,hd m (0+(g.cnt:Int)))→BL (λν:List Aa×Int×Aa=>(AX (DC 40 (([ν.2.2]:List Aa).length+ν.1.length))<|AX (Bw .i64 (ν.2.1+1))<|some (([ν.2.2]:List Aa)++ν.1,ν.2.1+1))) o=some ((nd m g).flat,(S.length:Int)-w.length):=λg w o hsw hgl ho=>by
    have hwl:=hsw.len;simp only[AaM] at hwl;rw[ho,DU,IJ _ _ HV,AbA];simp only;rw[JU (by rw[Abs];omega),show(S.length:Int)-(Bh m::w).length+1=S.length-w.length from by rw[AaM];omega,AI (by omega) (by omega),Int.zero_add];rfl
   rw[hrun]
   by_cases hcl:∃w,r=Bh m::w
   ·obtain⟨w,rfl⟩:=hcl;obtain⟨F',rfl⟩:∃K,F=K+1:=⟨F-1,by omega⟩
    have hg:=Ow (F:=F'+1) (G:=F'+1) (out:=[]) (N:=0) hS hs.tail (Abr 0) (.inl rfl);rw[AS (CU hg)];refine .inl ⟨nd m .nil,w,?_,hs.tail.tail,?_⟩
    ·rw[H4,AaU rfl];rfl
    ·exact hend .nil w _ hs.tail (Aby _) rfl
   ·have hA:(pre [Bh m] r).isSome=false:=by
     rw[IH]
     cases r with
     | nil=>rfl
     | cons d r'=>
      simp only
      by_cases hd':d=Bh m
      ·exact absurd ⟨r',by rw[hd']⟩ hcl
      ·rw[AaR hd'];rfl
    obtain⟨o,ho1,ho2⟩:=(ih r.length (by omega)).2 m F F P F r none [] 0 rfl hs.tail (by omega) (by omega) (by omega) (by omega) (by simp;omega) (Abr 0) (by omega) (.inl hA);rw[AS ho1];have hbk:NM false P m r=match Di false P m none r with
      | none=>none
      | some (g,u)=>some (nd m g,u):=by
     cases r with
     | nil=>
      have:Di false P m none []=none:=by
       cases hp:Di false P m none [] with
       | none=>rfl
       | some q=>obtain⟨g,u⟩:=q;exact absurd ((DM false P).2 _ _ _ _ _ hp).1 (by simp)
      rw[this];rfl
     | cons d r'=>
      rw[H4]
      by_cases hd':d=Bh m
      ·exact absurd ⟨r',by rw[hd']⟩ hcl
      ·rw[AaR hd'];rfl
    rw[hbk];rcases ho2 with⟨g,w,q1,q2,q3⟩ | ⟨q1,v,q2⟩
    ·rw[q1];have hgl:=(Em false P).2 _ _ _ _ _ q1;exact .inl ⟨_,w,rfl,q2.tail,hend g w o q2 (by omega) q3⟩
    ·rw[q1,q2];exact .inr ⟨rfl,v,rfl⟩
  have hgoal:(∃f w,NM false P (decide (c=123)) r=some (f,w)∧DP w S∧(Bx (D6 (F+1) S ((S.length:Int)-(c::r).length)) λha=>some (ha.1,ha.2))=some (f.flat,(S.length:Int)-w.length))∨(NM false P (decide (c=123)) r=none∧∃v,(Bx (D6 (F+1) S ((S.length:Int)-(c::r).length)) λha=>some (ha.1,ha.2))=some (v,-1)):=by
   rcases hmany (decide (c=123)) rfl with⟨f,w,q1,q2,q3⟩ | ⟨q1,v,q2⟩
   ·rw[q3,AS rfl];exact .inl ⟨f,w,q1,q2,rfl⟩
   ·rw[q2,AS rfl];exact .inr ⟨q1,v,rfl⟩
  cases r with
  | nil=>exact hgoal
  | cons d r'=>exact hgoal
 refine⟨hV,?_⟩;intro m F G P L u last out N hn hs hF hG hP hL hb hN0 hN hA;obtain⟨P,rfl⟩:∃K,P=K+1:=⟨P-1,by omega⟩
 obtain⟨L,rfl⟩:∃K,L=K+1:=⟨L-1,by omega⟩
 have hsl:=hs.len;have hR:∀w,DP w S→w.length≤u.length→Zw G P S w:=λw hw hwl=>by
  rcases Nat.lt_or_eq_of_le hwl with h | h
  ·exact(ih w.length (by omega)).1 G P w rfl hw (by omega) (by omega)
  ·exact hV G P w (by omega) hw (by omega) (by omega)
 unfold RLk;rw[De,Uj];rcases TD (P:=P) (N:=N) (out:=out) hS hs hF hN0 (by omega) (by omega) hA hR with⟨v,hb1,hf⟩ | ⟨key,s1,f,s2,k1,k2,k3,h⟩
 ·refine⟨_,CU hb1,.inr ⟨?_,v,rfl⟩⟩;rcases hf with hf | ⟨key,s1,hk,hf | ⟨f,s2,hf,hno⟩⟩
  ·rw[hf]
  ·rw[hk];simp only[hf]
  ·rw[hk];simp only[hf]
   cases s2 with
   | nil=>rfl
   | cons c s3=>
    obtain⟨a,b⟩:=hno c s3 rfl;simp only[a,b,AaN]
 ·obtain⟨l1,ho⟩:=(DM false P).1 _ _ _ k2;have l2:=(Em false P).1 _ _ _ k2;have l3:=OA k1;rw[k1];simp only[k2];rcases h with⟨s3,e,hb1⟩ | ⟨s3,e,hb1⟩
  ·subst e;obtain⟨L,rfl⟩:∃K,L=K+1:=⟨L-1,by omega⟩
   obtain⟨pp,c,e,hc⟩:=(Qu false P).1 _ _ _ k2;obtain⟨p1,e1⟩:=QM k1;have hcs:DP (c::Bh m::s3) S:=by
    obtain⟨q,e2⟩:=hs;exact⟨q++p1++pp,by rw[e2,e1,e];simp⟩
   have hg:=Ow (F:=F) (G:=G) (out:=out++(Bu key++f.flat)) (N:=N+1) hS k3 (by omega) (.inr ⟨c,hc,hcs⟩);refine⟨_,G1 hb1 (CU hg),.inl ⟨f.put key .nil,s3,?_,k3,?_⟩⟩
   ·simp only[decide_true,AaQ]
   ·rw[El ho,MG ho];simp only[Fo.flat,Fo.cnt,Ab1]
    congr 4
  ·subst e;have hj:decide ((44:UInt8)=Bh m)=false:=by cases m<;>rfl
   simp only[AaM] at l1 l2;obtain⟨o,ho1,ho2⟩:=(ih s3.length (by omega)).2 m F G P L s3 key (out++(Bu key++f.flat)) (N+1) rfl k3.tail hF (by omega) (by omega) (by omega) (by rw[AaS,AaS];omega) (by omega) (by omega) (.inr ⟨by omega,k3⟩);refine⟨o,G1 hb1 ho1,?_⟩;simp only[hj,AaN,decide_true,AaQ];rcases ho2 with⟨g,w,q1,q2,q3⟩ | ⟨q1,v,q2⟩
   ·rw[q1];refine .inl ⟨f.put key g,w,rfl,q2,?_⟩;rw[q3,El ho,MG ho];simp only[Abq]
    congr 4
    omega
   ·rw[q1];exact .inr ⟨rfl,v,q2⟩
theorem Vt {S:Ah}(hS:S.length≤100000){F P:Nat}(hF:3*S.length+6≤F)(hP:2*S.length+2≤P):Zw F P S S:=
 (ZD hS S.length).1 F P S rfl ⟨[],rfl⟩ (by omega) hP
theorem PY:∀(n:Nat) (s:Ah),s.length=n→Cw true s=match Cw false s with
  | none=>none
  | some (t,u)=>bif t.all JN then some (t,u) else none:=by
 intro n
 induction n using Nat.strongRecOn with
 | ind n ih=>
  intro s hn
  cases s with
  | nil=>rfl
  | cons c r=>
   simp only[AaM] at hn;rw[Dq,Dq]
   cases h1:decide (c=34) with
   | true=>rfl
   | false=>
    simp only[AaN,AaW,Abc]
    cases h3:decide (c=92) with
    | true=>
     have hc:JN c=true:=by simp only[AaL] at h3;subst h3;rfl
     rw[hc]
     cases r with
     | nil=>rfl
     | cons d r'=>
      simp only[AaV,AaN,AaQ];simp only[AaM] at hn
      cases h4:(decide (d=34)||decide (d=92)) with
      | false=>rfl
      | true=>
       have hd:JN d=true:=by
        simp only[Abt,AaL] at h4;rcases h4 with e | e<;>subst e<;>rfl
       simp only[AaQ];rw[ih r'.length (by omega) r' rfl]
       cases Cw false r' with
       | none=>rfl
       | some q=>
        obtain⟨t,u⟩:=q;simp only[Ab5,hd,AaW]
        cases t.all JN<;>rfl
    | false=>
     simp only[AaN];rw[ih r.length (by omega) r rfl]
     cases hc:JN c with
     | false=>
      simp only[Abd,AaQ]
      cases Cw false r with
      | none=>rfl
      | some q=>obtain⟨t,u⟩:=q;simp[hc]
     | true=>
      simp only[AaV,AaN]
      cases Cw false r with
      | none=>rfl
      | some q=>
       obtain⟨t,u⟩:=q;simp only[Ab5,hc,AaW]
       cases t.all JN<;>rfl
theorem Wi (m:Bool)(last:Option Ah)(s:Ah):D3 true m last s=match D3 false m none s with
  | none=>none
  | some (k,u)=>bif B4 m last k then some (k,u) else none:=by
 cases m with
 | false=>rfl
 | true=>
  cases s with
  | nil=>rfl
  | cons c r=>
   unfold D3;simp only[AaQ,AaW,Abc,AaN]
   cases hc:decide (c=34) with
   | false=>rfl
   | true=>
    simp only[AaQ];rw[PY _ r rfl]
    cases Cw false r with
    | none=>rfl
    | some q=>
     obtain⟨t,u⟩:=q;simp only
     cases ht:t.all JN with
     | false=>
      have hk:B4 true last (some t)=false:=by simp[B4,ht]
      simp only[AaN]
      cases u with
      | nil=>rfl
      | cons d u'=>
       simp only
       cases decide (d=58) with
       | false=>rfl
       | true=>simp only[AaQ,hk];rfl
     | true=>
      simp only[AaQ]
      cases u with
      | nil=>cases B4 true last (some t)<;>rfl
      | cons d u'=>
       simp only
       cases decide (d=58) with
       | false=>cases B4 true last (some t)<;>rfl
       | true=>cases hk:B4 true last (some t)<;>simp[hk]
def plr (c:Aa):Bool:=bif decide (c.fKind=4) then decide (c.fInt=0)&&decide (c.fN=0) else pl c
def Fo.rw:Bool→Fo→Bool
 | _,.nil=>true
 | m,.cell k c r=>(k.isSome ==m)&&plr c&&!decide (0<c.fN)&&r.rw m
 | m,.node k c kids r=>(k.isSome ==m)&&plr c&&decide (0<c.fN)&&decide (c.fN=kids.cnt)&&kids.rw (decide (c.fKind=6))&&r.rw m
theorem SA {m:Bool}{last k:Option Ah}{r:List Aa}(h:(k.isSome ==m)=true):I3 m last (Bu k++r)=bif B4 m last k then some (k,r) else none:=by
 cases hk:B4 m last k with
 | true=>exact Pj hk
 | false=>
  cases k with
  | none=>
   have hm:m=false:=by cases m<;>simp_all
   subst hm
   cases hk
  | some s=>
   have hm:m=true:=by cases m<;>simp_all
   subst hm;show(bif pl ⟨4,0,s,0⟩&&decide ((4:Int)=4)&&B4 true last (some s) then _ else none)=_;rw[hk,Abe];rfl
theorem MI:∀(f:Fo) (m:Bool) (last:Option Ah) (ys:List Aa),f.rw m=true→My m last f.cnt (f.flat++ys)=bif f.wf m last then some (f,ys) else none
 | .nil,_,_,_,_=>rfl
 | .cell k c r,m,last,ys,hw=>by
  simp only[Fo.rw,AaO,Abi] at hw;obtain⟨⟨⟨w1,w2⟩,w3⟩,w4⟩:=hw;simp only[Fo.cnt,Fo.flat,Abq,Ab2];rw[Ge,SA w1];simp only[Fo.wf,w3,Abd,Abf]
  cases B4 m last k with
  | false=>rfl
  | true=>
   simp only[AaQ,G7,w3,AaN,AaW]
   cases hp:pl c with
   | false=>rfl
   | true=>
    simp only[AaV,AaN,MI r m k ys w4,AaW]
    cases r.wf m k<;>rfl
 | .node k c kids r,m,last,ys,hw=>by
  simp only[Fo.rw,AaO,AaL] at hw;obtain⟨⟨⟨⟨⟨w1,w2⟩,w3⟩,w5⟩,w6⟩,w4⟩:=hw;simp only[Fo.cnt,Fo.flat,Abq,Ab2];rw[Ge,SA w1];have e:c.fN.toNat=kids.cnt:=by omega
  have w5':decide (c.fN=kids.cnt)=true:=AaU w5;simp only[Fo.wf,AaU w3,w5',Abf]
  cases B4 m last k with
  | false=>rfl
  | true=>
   simp only[AaQ,G7,AaU w3,AaW]
   cases hp:pl c with
   | false=>rfl
   | true=>
    simp only[AaV,AaN,e,MI kids _ none (r.flat++ys) w6,AaW]
    cases kids.wf (decide (c.fKind=6)) none with
    | false=>rfl
    | true=>
     simp only[AaQ,MI r m k ys w4,AaW]
     cases r.wf m k<;>rfl
theorem Vy {f:Fo}(h:f.one=true)(m:Bool)(last key:Option Ah)(r:Fo):(f.put key r).wf m last=(B4 m last key&&f.wf false none&&r.wf m key):=by
 cases f with
 | nil=>cases h
 | cell k c r'=>
  cases k with
  | some _=>cases h
  | none=>cases r' with
   | nil=>simp[Fo.put,Fo.wf,B4,Bool.and_assoc]
   | cell _ _ _=>cases h
   | node _ _ _ _=>cases h
 | node k c kids r'=>
  cases k with
  | some _=>cases h
  | none=>cases r' with
   | nil=>simp[Fo.put,Fo.wf,B4,Bool.and_assoc]
   | cell _ _ _=>cases h
   | node _ _ _ _=>cases h
theorem Vz {f:Fo}(h:f.one=true)(m:Bool)(key:Option Ah)(r:Fo):(f.put key r).rw m=((key.isSome ==m)&&f.rw false&&r.rw m):=by
 cases f with
 | nil=>cases h
 | cell k c r'=>
  cases k with
  | some _=>cases h
  | none=>cases r' with
   | nil=>simp[Fo.put,Fo.rw,Bool.and_assoc]
   | cell _ _ _=>cases h
   | node _ _ _ _=>cases h
 | node k c kids r'=>
  cases k with
  | some _=>cases h
  | none=>cases r' with
   | nil=>simp[Fo.put,Fo.rw,Bool.and_assoc]
   | cell _ _ _=>cases h
   | node _ _ _ _=>cases h
theorem SI (m:Bool)(g:Fo):(nd m g).wf false none=g.wf m none∧(nd m g).rw false=g.rw m:=by
 unfold nd
 cases hd:decide (g.cnt=0) with
 | true=>
  simp only[AaL] at hd;rw[HV hd]
  cases m<;>exact⟨rfl,rfl⟩
 | false=>
  simp only[AaK] at hd;have h1:decide ((0:Int)<(g.cnt:Int))=true:=AaU (by omega);have h2:decide ((0:Int)≤(g.cnt:Int))=true:=AaU (by omega)
  cases m<;>simp[Fo.wf,Fo.rw,B4,pl,plr]<;>omega
theorem Ui {m:Bool}{last k:Option Ah}{s u:Ah}{b:Bool}(h:D3 b m last s=some (k,u)):(k.isSome ==m)=true:=by
 unfold D3 at h
 cases m with
 | false=>cases h;rfl
 | true=>
  simp only[AaQ] at h
  cases s with
  | nil=>cases h
  | cons c r=>
   simp only at h
   cases h1:decide (c=34) with
   | false=>rw[h1] at h;cases h
   | true=>
    rw[h1] at h;simp only[AaQ] at h
    cases h2:Cw b r with
    | none=>rw[h2] at h;cases h
    | some q=>
     obtain⟨t,w⟩:=q;rw[h2] at h;simp only at h
     cases h3:(b&&!B4 true last (some t)) with
     | true=>rw[h3] at h;cases h
     | false=>
      rw[h3] at h;simp only[AaN] at h
      cases w with
      | nil=>cases h
      | cons d w'=>
       simp only at h
       cases h4:decide (d=58) with
       | false=>rw[h4] at h;cases h
       | true=>rw[h4] at h;cases h;rfl
theorem ML:∀F:Nat,(∀s,ER true F s=(match ER false F s with
   | none=>none
   | some (f,u)=>bif f.wf false none then some (f,u) else none)∧∀f u,ER false F s=some (f,u)→f.rw false=true)∧
  (∀m last last' s,Di true F m last s=(match Di false F m last' s with
   | none=>none
   | some (g,u)=>bif g.wf m last then some (g,u) else none)∧∀g u,Di false F m last' s=some (g,u)→g.rw m=true)
 | 0=>⟨λs=>⟨by rw[ER.eq_def,ER.eq_def],(λf u h=>by rw[ER.eq_def] at h;cases h)⟩,λm last last' s=>⟨by rw[Di.eq_def,Di.eq_def],(λg u h=>by rw[Di.eq_def] at h;cases h)⟩⟩
 | F+1=>by
  obtain⟨ih1,ih2⟩:=ML F;have lfw:∀k i t,pl ⟨k,i,t,0⟩=true→(lf k i t).wf false none=true:=λk i t h=>by simp[lf,Fo.wf,B4,h]
  have lfr:∀k i t,plr ⟨k,i,t,0⟩=true→(lf k i t).rw false=true:=λk i t h=>by simp[lf,Fo.rw,h]
  constructor
  ·intro s;rw[Du,Du]
   cases h1:pre [110,117,108,108] s with
   | some r=>exact⟨rfl,λf u h=>by cases h;rfl⟩
   | none=>
   simp only
   cases h2:pre [116,114,117,101] s with
   | some r=>exact⟨rfl,λf u h=>by cases h;rfl⟩
   | none=>
   simp only
   cases h3:pre [102,97,108,115,101] s with
   | some r=>exact⟨rfl,λf u h=>by cases h;rfl⟩
   | none=>
   simp only
   cases s with
   | nil=>exact⟨rfl,λf u h=>by cases h⟩
   | cons c r=>
   simp only
   cases h4:decide (c=34) with
   | true=>
    simp only[AaQ];rw[PY _ r rfl]
    cases hq:Cw false r with
    | none=>exact⟨rfl,λf u h=>by cases h⟩
    | some q=>
     obtain⟨t,u⟩:=q;simp only;have e:(lf 4 0 t).wf false none=t.all JN:=by simp[lf,Fo.wf,B4,pl]
     rw[e];refine⟨by cases t.all JN<;>rfl,λf u' h=>by cases h;exact lfr 4 0 t rfl⟩
   | false=>
   simp only[AaN]
   cases h5:(decide (c=91)||decide (c=123)) with
   | false=>
    simp only[AaN]
    cases hi:Hl (c::r) with
    | none=>exact⟨rfl,λf u h=>by cases h⟩
    | some q=>
     obtain⟨f,u⟩:=q;have hf:f.wf false none=true∧f.rw false=true:=by
      unfold Hl at hi;simp only at hi
      cases hc:DB (decide ((c::r).head? =some 45)) (BH (bif decide ((c::r).head? =some 45) then(c::r).tail else c::r)).1 with
      | false=>rw[hc] at hi;cases hi
      | true=>rw[hc] at hi;cases hi;exact⟨rfl,rfl⟩
     refine⟨by simp only[hf.1];rfl,λf' u' h=>by cases h;exact hf.2⟩
   | true=>
   simp only[AaQ]
   cases r with
   | nil=>exact⟨rfl,λf u h=>by cases h⟩
   | cons d r'=>
   simp only
   cases h6:decide (d=Bh (decide (c=123))) with
   | true=>
    simp only[AaQ,(SI _ _).1,Fo.wf];exact⟨trivial,λf u h=>by cases h;rw[(SI _ _).2];rfl⟩
   | false=>
   simp only[AaN];obtain⟨e1,e2⟩:=ih2 (decide (c=123)) none none (d::r');rw[e1]
   cases hq:Di false F (decide (c=123)) none (d::r') with
   | none=>exact⟨rfl,λf u h=>by cases h⟩
   | some q=>
    obtain⟨g,u⟩:=q;simp only[(SI _ _).1];refine⟨by cases g.wf (decide (c=123)) none<;>rfl,λf u' h=>by cases h;rw[(SI _ _).2];exact e2 g u hq⟩
  ·intro m last last' s;rw[De,De,Wi m last s];have hkl:D3 false m last' s=D3 false m none s:=by
    cases m with
    | false=>rfl
    | true=>unfold D3;simp only[Abc]
   rw[hkl]
   cases hk:D3 false m none s with
   | none=>exact⟨rfl,λf u h=>by cases h⟩
   | some q=>
   obtain⟨key,s1⟩:=q;have hks:=Ui hk;simp only;obtain⟨e1,e2⟩:=ih1 s1
   cases hf:ER false F s1 with
   | none=>
    rw[hf] at e1;refine⟨?_,λf u h=>by cases h⟩
    cases B4 m last key with
    | false=>rfl
    | true=>simp only[AaQ,e1]
   | some q=>
   obtain⟨f,s2⟩:=q;have ho:=((DM false F).1 _ _ _ hf).2;have hfr:=e2 f s2 hf;rw[hf] at e1;simp only at e1;simp only
   cases s2 with
   | nil=>
    refine⟨?_,λf u h=>by cases h⟩
    cases B4 m last key with
    | false=>rfl
    | true=>simp only[AaQ,e1];cases f.wf false none<;>rfl
   | cons c s3=>
   simp only
   cases h3:decide (c=Bh m) with
   | true=>
    simp only[AaQ,Vy ho,Fo.wf,Abf];refine⟨?_,λg u h=>by cases h;rw[Vz ho,hks,hfr];rfl⟩
    cases B4 m last key with
    | false=>rfl
    | true=>simp only[AaQ,e1,AaW];cases f.wf false none<;>simp[h3]
   | false=>
   simp only[AaN]
   cases h4:decide (c=44) with
   | false=>
    refine⟨?_,λg u h=>by cases h⟩
    cases B4 m last key with
    | false=>rfl
    | true=>simp only[AaQ,e1];cases f.wf false none<;>simp[h3,h4]
   | true=>
   simp only[AaQ];obtain⟨e3,e4⟩:=ih2 m key key s3
   cases hq:Di false F m key s3 with
   | none=>
    rw[hq] at e3;refine⟨?_,λg u h=>by cases h⟩
    cases B4 m last key with
    | false=>rfl
    | true=>simp only[AaQ,e1];cases f.wf false none<;>simp[h3,h4,e3]
   | some q=>
    obtain⟨g,u⟩:=q;rw[hq] at e3;simp only at e3;simp only[Vy ho];refine⟨?_,λg' u' h=>by cases h;rw[Vz ho,hks,hfr,e4 g u hq];rfl⟩
    cases B4 m last key with
    | false=>rfl
    | true=>
     simp only[AaQ,e1,AaW]
     cases f.wf false none with
     | false=>rfl
     | true=>
      simp only[AaQ,h3,h4,AaN,e3,AaW]
      cases g.wf m key<;>rfl
def Jx (K:Nat)(c:Aa):Prop:=c.fStr.length≤K∧Bw .i64 c.fInt=true∧c.fN≤(K:Int)
theorem Jx.mono {K K':Nat}{c:Aa}(h:Jx K c)(hk:K≤K'):Jx K' c:=⟨by have:=h.1;omega,h.2.1,by have:=h.2.2;omega⟩
theorem On (b:Bool):∀(n:Nat) (s t u:Ah),s.length=n→Cw b s=some (t,u)→t.length≤s.length:=by
 intro n
 induction n using Nat.strongRecOn with
 | ind n ih=>
  intro s t u hn h
  cases s with
  | nil=>cases h
  | cons c r=>
   simp only[AaM] at hn ⊢;rw[Dq] at h
   cases h1:decide (c=34) with
   | true=>rw[h1] at h;cases h;simp
   | false=>
    rw[h1] at h;simp only[AaN] at h
    cases h2:(b&&!JN c) with
    | true=>rw[h2] at h;cases h
    | false=>
     rw[h2] at h;simp only[AaN] at h
     cases h3:decide (c=92) with
     | true=>
      rw[h3] at h
      cases r with
      | nil=>cases h
      | cons d r'=>
       simp only[AaQ] at h
       cases h4:(decide (d=34)||decide (d=92)) with
       | false=>rw[h4] at h;cases h
       | true=>
        rw[h4] at h;simp only[AaQ] at h
        cases h5:Cw b r' with
        | none=>rw[h5] at h;cases h
        | some q=>
         obtain⟨t',u'⟩:=q;rw[h5] at h;cases h;simp only[AaM] at hn ⊢;have:=ih r'.length (by omega) r' t' u rfl h5;omega
     | false=>
      rw[h3] at h;simp only[AaN] at h
      cases h5:Cw b r with
      | none=>rw[h5] at h;cases h
      | some q=>
       obtain⟨t',u'⟩:=q;rw[h5] at h;cases h;have:=ih r.length (by omega) r t' u rfl h5;simp only[AaM];omega
theorem Uh {b m:Bool}{last:Option Ah}{s u:Ah}{t:Ah}(h:D3 b m last s=some (some t,u)):t.length≤s.length:=by
 unfold D3 at h
 cases m with
 | false=>cases h
 | true=>
  simp only[AaQ] at h
  cases s with
  | nil=>cases h
  | cons c r=>
   simp only at h
   cases h1:decide (c=34) with
   | false=>rw[h1] at h;cases h
   | true=>
    rw[h1] at h;simp only[AaQ] at h
    cases h2:Cw b r with
    | none=>rw[h2] at h;cases h
    | some q=>
     obtain⟨k,w⟩:=q;have:=On b _ r k w rfl h2;rw[h2] at h;simp only at h
     cases h3:(b&&!B4 true last (some k)) with
     | true=>rw[h3] at h;cases h
     | false=>
      rw[h3] at h;simp only[AaN] at h
      cases w with
      | nil=>cases h
      | cons d w'=>
       simp only at h
       cases h4:decide (d=58) with
       | false=>rw[h4] at h;cases h
       | true=>rw[h4] at h;cases h;simp only[AaM];omega
theorem Wn (neg:Bool){d:Ah}(hd:d.all BR=true):Bw .i64 (Jb neg d)=true:=by
 unfold Jb
 cases ha:decide (18<d.length) with
 | true=>
  cases neg with
  | true=>exact(by decide:Bw .i64 (-2000000000000)=true)
  | false=>exact(by decide:Bw .i64 2000000000000=true)
 | false=>
  simp only[AaK] at ha;have hb:=Pp hd (by omega)
  cases neg with
  | true=>exact HK (by simp only[AaN,AaQ];omega) (by simp only[AaN,AaQ];omega)
  | false=>exact HK (by simp only[AaN];omega) (by simp only[AaN];omega)
theorem VQ {m:Bool}{g:Fo}{K:Nat}(hg:∀c∈g.flat,Jx K c)(hl:g.flat.length≤K):∀c∈(nd m g).flat,Jx K c:=λc hc=>by
 rw[IJ _ _ HV] at hc;have hcf:=Ch g;rcases List.mem_cons.1 hc with rfl | hc
 ·exact⟨Aby _,(by decide:Bw .i64 0=true),by show(g.cnt:Int)≤K;omega⟩
 ·exact hg c hc
theorem S7 {f r:Fo}{K:Nat}{key:Option Ah}(ho:f.one=true)(hf:∀c∈f.flat,Jx K c)(hr:∀c∈r.flat,Jx K c)(hk:∀t,key=some t→t.length≤K):∀c∈(f.put key r).flat,Jx K c:=λc hc=>by
 rw[El ho] at hc;rcases List.mem_append.1 hc with h | h
 ·cases key with
  | none=>cases h
  | some t=>
   have:c=⟨4,0,t,0⟩:=by simpa[Bu] using h
   subst this;exact⟨hk t rfl,(by decide:Bw .i64 0=true),by show(0:Int)≤K;omega⟩
 ·rcases List.mem_append.1 h with h | h
  ·exact hf c h
  ·exact hr c h
theorem JM (b:Bool)(K:Nat):∀F:Nat,(∀s f u,s.length≤K→ER b F s=some (f,u)→∀c∈f.flat,Jx K c)∧(∀m last s g u,s.length≤K→Di b F m last s=some (g,u)→∀c∈g.flat,Jx K c)
 | 0=>⟨(λs f u _ h=>by rw[ER.eq_def] at h;cases h),(λm last s g u _ h=>by rw[Di.eq_def] at h;cases h)⟩
 | F+1=>by
  obtain⟨ih1,ih2⟩:=JM b K F;have lfc:∀k i t,t.length≤K→Bw .i64 i=true→∀c∈(lf k i t).flat,Jx K c:=λk i t ht hi c hc=>by
   have:c=⟨k,i,t,0⟩:=by simpa[lf,Fo.flat,Bu] using hc
   subst this;exact⟨ht,hi,by show(0:Int)≤K;omega⟩
  constructor
  ·intro s f u hs h;rw[Du] at h
   cases h1:pre [110,117,108,108] s with
   | some r=>rw[h1] at h;cases h;exact lfc _ _ _ (Aby _) (by decide)
   | none=>
   rw[h1] at h;simp only at h
   cases h2:pre [116,114,117,101] s with
   | some r=>rw[h2] at h;cases h;exact lfc _ _ _ (Aby _) (by decide)
   | none=>
   rw[h2] at h;simp only at h
   cases h3:pre [102,97,108,115,101] s with
   | some r=>rw[h3] at h;cases h;exact lfc _ _ _ (Aby _) (by decide)
   | none=>
   rw[h3] at h;simp only at h
   cases s with
   | nil=>cases h
   | cons c r=>
   simp only[AaM] at hs;simp only at h
   cases h4:decide (c=34) with
   | true=>
    rw[h4] at h;simp only[AaQ] at h
    cases h5:Cw b r with
    | none=>rw[h5] at h;cases h
    | some q=>
     obtain⟨t,w⟩:=q;rw[h5] at h;cases h;have:=On b _ r t u rfl h5;exact lfc _ _ _ (by omega) (by decide)
   | false=>
   rw[h4] at h;simp only[AaN] at h
   cases h5:(decide (c=91)||decide (c=123)) with
   | false=>
    rw[h5] at h;simp only[AaN] at h;unfold Hl at h;simp only at h
    cases hc:DB (decide ((c::r).head? =some 45)) (BH (bif decide ((c::r).head? =some 45) then(c::r).tail else c::r)).1 with
    | false=>rw[hc] at h;cases h
    | true=>
     rw[hc] at h;cases h;exact lfc 3 _ [] (Aby _) (Wn _ (I9 _))
   | true=>
   rw[h5] at h;simp only[AaQ] at h
   cases r with
   | nil=>cases h
   | cons d r'=>
   simp only at h
   cases h6:decide (d=Bh (decide (c=123))) with
   | true=>rw[h6] at h;cases h;exact VQ (λc hc=>by cases hc) (Aby _)
   | false=>
   rw[h6] at h;simp only[AaN] at h
   cases h7:Di b F (decide (c=123)) none (d::r') with
   | none=>rw[h7] at h;cases h
   | some q=>
    obtain⟨g,w⟩:=q;rw[h7] at h;cases h;have:=(Em b F).2 _ _ _ _ _ h7;exact VQ (ih2 _ _ _ _ _ (by omega) h7) (by omega)
  ·intro m last s g u hs h;rw[De] at h
   cases h1:D3 b m last s with
   | none=>rw[h1] at h;cases h
   | some q=>
   obtain⟨key,s1⟩:=q;have l1:=QL h1;have hkt:∀t,key=some t→t.length≤K:=λt e=>by subst e;have:=Uh h1;omega
   rw[h1] at h;simp only at h
   cases h2:ER b F s1 with
   | none=>rw[h2] at h;cases h
   | some q=>
   obtain⟨f,s2⟩:=q;obtain⟨l2,o2⟩:=(DM b F).1 _ _ _ h2;have hf:=ih1 _ _ _ (by omega) h2;rw[h2] at h;simp only at h
   cases s2 with
   | nil=>cases h
   | cons c s3=>
   simp only[AaM] at l2;simp only at h
   cases h3:decide (c=Bh m) with
   | true=>rw[h3] at h;cases h;exact S7 o2 hf (λc hc=>by cases hc) hkt
   | false=>
   rw[h3] at h;simp only[AaN] at h
   cases h4:decide (c=44) with
   | false=>rw[h4] at h;cases h
   | true=>
   rw[h4] at h;simp only[AaQ] at h
   cases h5:Di b F m key s3 with
   | none=>rw[h5] at h;cases h
   | some q=>
    obtain⟨g',w⟩:=q;rw[h5] at h;cases h;exact S7 o2 hf (ih2 _ _ _ _ _ (by omega) h5) hkt
theorem W3:∀l:List Aa,l.any BX=false→l.map CK=l
 | [],_=>rfl
 | c::l,h=>by
  simp only[List.any_cons,Abn] at h;simp only[Ab6,W3 l h.2,CK,h.1,AaN]
def Ka (s:Ah):Option (List Aa×Int):=
 bif decide (4000<s.length) then some ([],3) else match ER true 10000 s with
  | some (f,[])=>some (bif decide (EU f=0) then(f.flat,0) else([],EU f))
  | _=>some ([],1)
theorem NY (s:Ah):A1.mk s 0 [] false=D8 s s [] false:=by simp[D8]
theorem W6 {f:Fo}(h:f.flat.any BX=true):EU f=2:=by unfold EU;rw[h];rfl
theorem PV {F:Nat}(hF:20000≤F){s:Ah}:KH F s=Ka s:=by
 unfold KH Ka;have a1:decide ((4000:Int)<(s.length:Int))=decide (4000<s.length):=by rw[Abj];simp;omega
 rw[a1]
 cases h4:decide (4000<s.length) with
 | true=>rfl
 | false=>
  simp only[AaK] at h4;rw[A8 rfl,NY];simp only[AaN];rcases Rv (S:=s) (by omega) (F:=F) (P:=10000) (by omega) (by omega) with⟨f,w,q1,q2,q3⟩ | ⟨q1,q',q2⟩
  ·rw[q3,q1,AS rfl,A8 (p:=!true) rfl];obtain⟨_,hone⟩:=(DM true 10000).1 _ _ _ q1;have hwl:=q2.len;have hcells:=(JM true 4000 10000).1 _ _ _ (by omega) q1;have hfl:=(Em true 10000).1 _ _ _ q1;unfold G6;have hat:(true,D8 s w ([]++f.flat.map CK) (false||f.flat.any BX)).2.fAt=(s.length:Int)-w.length:=rfl;rw[hat]
   cases w with
   | cons c w'=>
    have hd:decide ((s.length:Int)-(c::w').length=(s.length:Int))=false:=AaR (by simp only[AaM];omega);rw[hd];rfl
   | nil=>
    have hd:decide ((s.length:Int)-([]:Ah).length=(s.length:Int))=true:=AaU (by simp);rw[hd,A8 (p:=!true) rfl]
    change _=some (bif decide (EU f=0) then(f.flat,0) else([],EU f))
    have hgr:(true,D8 s [] ([]++f.flat.map CK) (false||f.flat.any BX)).2.fGreat=f.flat.any BX:=rfl;have hce:(true,D8 s [] ([]++f.flat.map CK) (false||f.flat.any BX)).2.fCells=f.flat.map CK:=rfl;rw[hgr,hce]
    cases ho:f.flat.any BX with
    | true=>rw[W6 ho];rfl
    | false=>
     rw[A8 rfl,W3 _ ho];have hA:Il 4000 f.flat:=⟨by decide,by omega,λc hc=>by obtain⟨c1,c2,c3⟩:=hcells c hc;exact⟨c1,c2,by omega⟩⟩
     have hwf:f.wf false none=true:=by
      have:=((ML 10000).1 s).1;rw[q1] at this
      cases hp:ER false 10000 s with
      | none=>rw[hp] at this;cases this
      | some q=>
       obtain⟨f',u'⟩:=q;rw[hp] at this;simp only at this
       cases hw:f'.wf false none with
       | false=>rw[hw] at this;cases this
       | true=>rw[hw] at this;cases this;exact hw
     have hev:IM f.flat=EU f:=by unfold IM;rw[KA hone hwf]
     unfold KJ;rw[L4 hA (by decide) (by omega),AS rfl,hev]
     cases decide (EU f=0)<;>rfl
  ·rw[q2,q1];rfl
theorem Qn {F:Nat}(hF:20000≤F){s:Ah}:KW F s=Ka s:=by
 unfold KW Ka;have a1:decide ((4000:Int)<(s.length:Int))=decide (4000<s.length):=by rw[Abj];simp;omega
 rw[a1]
 cases h4:decide (4000<s.length) with
 | true=>rfl
 | false=>
  simp only[AaK] at h4;rw[A8 rfl];simp only[AaN];obtain⟨e1,e2⟩:=(ML 10000).1 s;have hr:=Vt (S:=s) (by omega) (F:=F) (P:=10000) (by omega) (by omega);unfold Zw at hr;rw[Int.sub_self] at hr;rcases hr with⟨f,w,q1,q2,q3⟩ | ⟨q1,v,q2⟩
  ·rw[q1] at e1;simp only at e1;obtain⟨_,hone⟩:=(DM false 10000).1 _ _ _ q1;have hwl:=q2.len;have hcells:=(JM false 4000 10000).1 _ _ _ (by omega) q1;have hfl:=(Em false 10000).1 _ _ _ q1;rw[q3,AS rfl,e1]
   cases w with
   | cons c w'=>
    have hd:decide ((s.length:Int)-(c::w').length=(s.length:Int))=false:=AaR (by simp only[AaM];omega);simp only;rw[hd]
    cases f.wf false none<;>rfl
   | nil=>
    have hd:decide ((s.length:Int)-([]:Ah).length=(s.length:Int))=true:=AaU (by simp);simp only;rw[hd,A8 (p:=!true) rfl];have hA:Il 4000 f.flat:=⟨by decide,by omega,λc hc=>by obtain⟨c1,c2,c3⟩:=hcells c hc;exact⟨c1,c2,by omega⟩⟩
    unfold KX;rw[LC hA (by decide) (by omega),AS rfl]
    cases hwf:f.wf false none with
    | true=>
     have hev:IM f.flat=EU f:=by unfold IM;rw[KA hone hwf]
     rw[hev];simp only[AaQ]
     cases decide (EU f=0)<;>rfl
    | false=>
     have hwh:whole f.flat=none:=by
      have h1:=MI f false none [] (e2 f [] q1);rw[hwf,Le hone,Ab1] at h1;have h2:Ie f.flat=none:=h1;unfold whole;rw[h2]
     have hev:IM f.flat=1:=by unfold IM;rw[hwh]
     rw[hev];rfl
  ·rw[q1] at e1;simp only at e1;rw[q2,AS rfl,e1];simp only;rw[AP (p:=!decide ((-1:Int)=(s.length:Int))) (by rw[AaR (by omega)];rfl)]
theorem JO {x:Nat}(h:x<10):(UInt8.ofNat (48+x)).toNat=48+x:=by simp;omega
theorem OD {x:Nat}(h:x<10):BR (UInt8.ofNat (48+x))=true:=by
 unfold BR;rw[JO h];simp;omega
theorem O2 (d:Ah)(c:UInt8)(a:Nat):C7 a (d++[c])=10*C7 a d+(c.toNat-48):=by simp[C7]
theorem Pz {u:Nat}(h:u<10):Lib.decDigits u=[UInt8.ofNat (48+u)]:=by rw[Lib.decDigits,dif_pos h]
theorem WE {u:Nat}(h : ¬ u<10):Lib.decDigits u=Lib.decDigits (u/10)++[UInt8.ofNat (48+u % 10)]:=by
 rw[Lib.decDigits,dif_neg h]
theorem OK:∀u:Nat,(Lib.decDigits u).all BR=true∧Lib.decDigits u≠[]∧C7 0 (Lib.decDigits u)=u∧((Lib.decDigits u).head? =some 48→u=0):=by
 intro u
 induction u using Nat.strongRecOn with
 | ind u ih=>
  by_cases h:u<10
  ·rw[Pz h];refine⟨by simp only[Ab5,List.all_nil,OD h,Bool.and_self],by simp,?_,?_⟩
   ·show 10*0+((UInt8.ofNat (48+u)).toNat-48)=u;rw[JO h];omega
   ·intro e;simp only[List.head?_cons,Option.some.injEq] at e;have:=congrArg UInt8.toNat e;rw[JO h] at this;have ha:(48:UInt8).toNat=48:=rfl;omega
  ·obtain⟨a,b,c,d⟩:=ih (u/10) (by omega);rw[WE h];refine⟨by simp only[List.all_append,a,Ab5,List.all_nil,OD (show u % 10<10 by omega),Bool.and_self],by simp,?_,?_⟩
   ·rw[O2,c,JO (by omega)];omega
   ·intro e
    cases hd:Lib.decDigits (u/10) with
    | nil=>exact absurd hd b
    | cons x r=>
     rw[hd] at e;have:=d (by rw[hd];simpa using e);omega
theorem NJ:∀(n:Nat) (d:Ah),d.length=n→d.all BR=true→d≠[]→(d.head? =some 48→d.length=1)→Lib.decDigits (C7 0 d)=d:=by
 intro n
 induction n with
 | zero=>intro d hn _ hne;exact absurd (Abu hn) hne
 | succ n ih=>
  intro d hn ha hne hh;obtain⟨d',c,rfl⟩:∃d' c,d=d'++[c]:=⟨d.dropLast,d.getLast hne,(List.dropLast_concat_getLast hne).symm⟩
  rw[List.all_append] at ha;simp only[Ab5,List.all_nil,Abf,AaO] at ha;have hc:48≤c.toNat∧c.toNat≤57:=by have:=ha.2;simp[BR] at this;omega
  have ec:UInt8.ofNat (48+(c.toNat-48))=c:=by rw[show 48+(c.toNat-48)=c.toNat from by omega];simp
  rw[O2]
  cases hd:d' with
  | nil=>
   show Lib.decDigits (10*0+(c.toNat-48))=[c];rw[Pz (by omega),show 48+(10*0+(c.toNat-48))=48+(c.toNat-48) from by omega,ec]
  | cons x r=>
   rw[← hd];have hne':d'≠[]:=by rw[hd];simp
   have h1:d'.head?≠some 48:=λe=>by
    have:=hh (by rw[hd] at e ⊢;simpa using e);rw[hd] at this;simp at this
   have ih':=ih d' (by simp at hn;omega) ha.1 hne' (λe=>absurd e h1);have hpos:1≤C7 0 d':=by
    rw[hd];show 1≤C7 (10*0+(x.toNat-48)) r;have hx:48≤x.toNat∧x.toNat≤57:=by have:=ha.1;rw[hd] at this;simp[BR] at this;omega
    have hx2:x.toNat≠48:=λe=>h1 (by rw[hd];simp;rw[← AbE];exact e);exact Nat.le_trans (by omega) (I5 r _)
   rw[WE (by omega),show(10*C7 0 d'+(c.toNat-48))/10=C7 0 d' from by omega,show(10*C7 0 d'+(c.toNat-48)) % 10=c.toNat-48 from by omega,ih',ec]
theorem NI:∀(d w:Ah),d.all BR=true→(∀c r,w=c::r→BR c=false)→BH (d++w)=(d,w)
 | [],w,_,hw=>by
  cases w with
  | nil=>rfl
  | cons c r=>simp[BH,hw c r rfl]
 | c::d,w,ha,hw=>by
  simp only[Ab5,AaO] at ha;simp[BH,ha.1,NI d w ha.2 hw]
theorem Ul {n:Int}{w:Ah}(h0 : -1000000000000≤n)(h1:n≤1000000000000)(hw:∀c r,w=c::r→BR c=false):Hl (Lib.itoa n++w)=some (.cell none ⟨3,n,[],0⟩ .nil,w):=by
 have key:∀(u:Nat) (neg:Bool),u≤1000000000000→(neg=true→1≤u)→Hl (Hd neg (Lib.decDigits u)++w)=some (.cell none ⟨3,bif neg then -(u:Int) else u,[],0⟩ .nil,w):=λu neg hu hneg=>by
  obtain⟨a,b,c,d⟩:=OK u;have hl:(Lib.decDigits u).length≤18:=by
   cases hdd:Lib.decDigits u with
   | nil=>simp
   | cons x r=>
    by_cases ha:(x::r).length≤18
    ·exact ha
    ·exfalso;have hx:48≤x.toNat∧x.toNat≤57:=by rw[hdd] at a;simp[BR] at a;omega
     have hr:18≤r.length:=by simp only[AaM] at ha;omega
     by_cases hb:x=48
     ·have:=d (by rw[hdd,hb];rfl);subst this;have e0:Lib.decDigits 0=[UInt8.ofNat 48]:=Pz (by omega);rw[e0] at hdd;cases hdd;simp at hr
     ·have hx2:x.toNat≠48:=λe=>hb (by rw[← AbE];exact e);rw[hdd] at c;have c':C7 (10*0+(x.toNat-48)) r=u:=c;have:=QA r (10*0+(x.toNat-48)) (by omega);have h2:10 ^ 18≤10 ^ r.length:=Nat.pow_le_pow_right (by omega) hr;omega
  have hhead:∀(x:UInt8) (r:Ah),Lib.decDigits u=x::r→x≠45:=λx r e=>by
   rw[e] at a;intro e2;subst e2;simp[BR] at a
  have hcan:DB neg (Lib.decDigits u)=true:=by
   unfold DB;have e1:decide (Lib.decDigits u=[])=false:=AaR b;rw[e1]
   by_cases hh:(Lib.decDigits u).head? =some 48
   ·have hu0:=d hh;subst hu0;have:neg=false:=by cases neg with
     | false=>rfl
     | true=>have:=hneg rfl;omega
    subst this;rw[Pz (by omega)];rfl
   ·rw[AaR hh];rfl
  have hv:Jb neg (Lib.decDigits u)=bif neg then -(u:Int) else u:=by
   have hn:Hj (Lib.decDigits u)=(u:Int):=by
    have:=I4 (Lib.decDigits u) 0 a;rw[c] at this;exact this
   unfold Jb;rw[AaR (by omega),hn];rfl
  unfold Hl Hd
  cases neg with
  | true=>
   have e1:decide ((45::(Lib.decDigits u++w)).head? =some 45)=true:=rfl;simp only[AaQ,Ab2,e1,List.tail_cons,NI _ _ a hw,hcan,hv]
  | false=>
   have e1:decide ((((bif false then 45::Lib.decDigits u else Lib.decDigits u)++w).head?)=some 45)=false:=by
    cases hdd:Lib.decDigits u with
    | nil=>exact absurd hdd b
    | cons x r=>simp[hhead x r hdd]
   simp only[AaN] at e1;simp only[AaN,e1,NI _ _ a hw,hcan,hv,AaQ]
 by_cases hneg:n<0
 ·have e:Lib.itoa n=Hd true (Lib.decDigits n.natAbs):=by
   have:=Lib.itoa_neg n.natAbs (by omega);rw[show -(n.natAbs:Int)=n from by omega] at this;rw[this];rfl
  have:=key n.natAbs true (by omega) (λ_=>by omega);rw[e,this];show some (Fo.cell none ⟨3,-(n.natAbs:Int),[],0⟩ .nil,w)=_;rw[show -(n.natAbs:Int)=n from by omega]
 ·have e:Lib.itoa n=Hd false (Lib.decDigits n.natAbs):=by
   have:=Lib.itoa_nonneg n.natAbs;rw[show(n.natAbs:Int)=n from by omega] at this;rw[this];rfl
  have:=key n.natAbs false (by omega) (λh=>by cases h);rw[e,this];show some (Fo.cell none ⟨3,(n.natAbs:Int),[],0⟩ .nil,w)=_;rw[show(n.natAbs:Int)=n from by omega]
theorem Um {s u:Ah}{f:Fo}(h:Hl s=some (f,u)):∃n,f = .cell none ⟨3,n,[],0⟩ .nil∧(BX ⟨3,n,[],0⟩=false→s=Lib.itoa n++u):=by
 unfold Hl at h;simp only at h;have key:∀(neg:Bool) (r:Ah),s=(bif neg then 45::r else r)→DB neg (BH r).1=true→BX ⟨3,Jb neg (BH r).1,[],0⟩=false→s=Lib.itoa (Jb neg (BH r).1)++(BH r).2:=λneg r es hcan hout=>by
  have hd:=I9 r;have he:=HU r;generalize(BH r).1=d at *;generalize(BH r).2=w at *;unfold DB at hcan;simp only[AaO,Abi,AaK] at hcan;obtain⟨hne,hz⟩:=hcan;have hl:d.length≤18:=by
   by_cases ha:d.length≤18
   ·exact ha
   ·exfalso;unfold Jb at hout;rw[AaU (by omega)] at hout
    cases neg<;>simp[BX] at hout
  have hn:Jb neg d=bif neg then -(C7 0 d:Int) else(C7 0 d:Int):=by
   have:=I4 d 0 hd;unfold Jb;rw[AaR (by omega)];show(bif neg then -(Hj d) else Hj d)=_;rw[show Hj d=(C7 0 d:Int) from this]
  have hback:=NJ d.length d rfl hd hne (λe=>by
   cases h1:decide (1<d.length) with
   | true=>rw[AaU e,h1] at hz;simp at hz
   | false=>
    simp only[AaK] at h1
    cases d with
    | nil=>exact absurd rfl hne
    | cons x y=>simp only[AaM] at h1 ⊢;omega)
  rw[hn]
  cases neg with
  | true=>
   have hpos:1≤C7 0 d:=by
    cases d with
    | nil=>exact absurd rfl hne
    | cons x y=>
     have hx:48≤x.toNat∧x.toNat≤57:=by simp[BR] at hd;omega
     have hx2:x.toNat≠48:=λe=>by
      have:x=48:=by rw[← AbE];exact e
      rw[this] at hz;simp at hz
     show 1≤C7 (10*0+(x.toNat-48)) y;exact Nat.le_trans (by omega) (I5 y _)
   have:=Lib.itoa_neg (C7 0 d) hpos;simp only[AaQ] at es ⊢;rw[this,hback,es,Ab2,← he]
  | false=>
   have:=Lib.itoa_nonneg (C7 0 d);simp only[AaN] at es ⊢;rw[this,hback,es,← he]
 cases hneg:decide (s.head? =some 45) with
 | true=>
  rw[hneg] at h;simp only[AaQ] at h
  cases hcan:DB true (BH s.tail).1 with
  | false=>rw[hcan] at h;cases h
  | true=>
   rw[hcan] at h;simp only[AaQ,Option.some.injEq,Prod.mk.injEq] at h;obtain⟨rfl,rfl⟩:=h;refine⟨_,rfl,λhout=>key true s.tail ?_ hcan hout⟩
   cases s with
   | nil=>simp at hneg
   | cons c r=>
    simp at hneg;subst hneg;rfl
 | false=>
  rw[hneg] at h;simp only[AaN] at h
  cases hcan:DB false (BH s).1 with
  | false=>rw[hcan] at h;cases h
  | true=>
   rw[hcan] at h;simp only[AaQ,Option.some.injEq,Prod.mk.injEq] at h;obtain⟨rfl,rfl⟩:=h;exact⟨_,rfl,λhout=>key false s rfl hcan hout⟩
theorem Nm:∀(s w:Ah),s.all JN=true→Cw true (Eu s++34::w)=some (s,w)
 | [],w,_=>by
  show Cw true (34::w)=_;rw[Dq];rfl
 | c::s,w,ha=>by
  simp only[Ab5,AaO] at ha;have ih:=Nm s w ha.2;have e:Eu (c::s)=(bif (decide (c=34)||decide (c=92)) then[92,c] else[c])++Eu s:=by simp[Eu]
  rw[e]
  cases hq:(decide (c=34)||decide (c=92)) with
  | true=>
   simp only[AaQ,Ab2,AbA];rw[Dq,show decide ((92:UInt8)=34)=false from by decide,show(true&&!JN 92)=false from by decide,show decide ((92:UInt8)=92)=true from by decide];simp only[AaN,AaQ,hq,ih]
  | false=>
   simp only[AaN,Ab2,AbA];simp only[Abn] at hq;rw[Dq,hq.1,ha.1,hq.2];simp only[AaV,Abe,AaN,ih]
theorem Oq:∀(n:Nat) (s t u:Ah),s.length=n→Cw true s=some (t,u)→s=Eu t++34::u:=by
 intro n
 induction n using Nat.strongRecOn with
 | ind n ih=>
  intro s t u hn h
  cases s with
  | nil=>cases h
  | cons c r=>
   simp only[AaM] at hn;rw[Dq] at h
   cases h1:decide (c=34) with
   | true=>
    rw[h1] at h;cases h;rw[Abo h1];rfl
   | false=>
    rw[h1] at h;simp only[AaN] at h
    cases h2:(true&&!JN c) with
    | true=>rw[h2] at h;cases h
    | false=>
     rw[h2] at h;simp only[AaN] at h
     cases h3:decide (c=92) with
     | true=>
      rw[h3] at h
      cases r with
      | nil=>cases h
      | cons d r'=>
       simp only[AaQ] at h
       cases h4:(decide (d=34)||decide (d=92)) with
       | false=>rw[h4] at h;cases h
       | true=>
        rw[h4] at h;simp only[AaQ] at h
        cases h5:Cw true r' with
        | none=>rw[h5] at h;cases h
        | some q=>
         obtain⟨t',u'⟩:=q;rw[h5] at h;cases h;simp only[AaM] at hn;have:=ih r'.length (by omega) r' t' u rfl h5;rw[Abo h3,this];simp[Eu,h4]
     | false=>
      rw[h3] at h;simp only[AaN] at h
      cases h5:Cw true r with
      | none=>rw[h5] at h;cases h
      | some q=>
       obtain⟨t',u'⟩:=q;rw[h5] at h;cases h;have:=ih r.length (by omega) r t' u rfl h5;rw[this];simp only[AaK] at h1 h3;simp[Eu,h1,h3]
theorem Qt {s:Ah}(h:B6 s=0):Lib.itoa (Bt s)=s:=by
 unfold B6 at h;unfold Bt
 cases hd:EI s with
 | false=>rw[hd] at h;simp at h
 | true=>
  simp only[hd,Ab4] at h ⊢;have hdec:=hd;simp only[EI,AaO,Abi,Abn,AaK] at hdec;obtain⟨⟨hne,hz⟩,hall⟩:=hdec;rw[LW] at hall
  cases hs:s with
  | nil=>subst hs;exact absurd (show Dp []=[] by simp[Dp,Gp]) hne
  | cons c r=>
   subst hs
   by_cases hc:c=45
   ·subst hc;have hdg:Dp (45::r)=r:=by simp[Dp,Gp,AT]
    rw[hdg] at hne hall hz;have he:AT r 0≠48:=by
     intro e;rw[e] at hz;simp at hz
    rw[Lib.atoiAll_minus] at h ⊢;have hpm:Lib.parseMag r=Lib.parseUint10 0 r:=by unfold Lib.parseMag;rw[Abw hne]
    rw[hpm] at h ⊢;have hpos:1≤C7 0 r:=by
     cases r with
     | nil=>exact absurd rfl hne
     | cons x y=>
      have hx:48≤x.toNat∧x.toNat≤57:=by simp[BR] at hall;omega
      have hx2:x.toNat≠48:=λe=>he (by show((x.toNat:Nat):Int)=48;omega);show 1≤C7 (10*0+(x.toNat-48)) y;exact Nat.le_trans (by omega) (I5 y _)
    rcases Pm r 0 hall with e | ⟨e,_⟩
    ·rw[e] at h ⊢;simp only[Lib.signed] at h ⊢
     by_cases hbig:9223372036854775808<C7 0 r
     ·rw[AbD hbig] at h;simp at h
     ·rw[Abw hbig] at h ⊢;simp only at h ⊢
      cases hv:Df (-(C7 0 r:Int)) with
      | false=>rw[hv] at h;simp at h
      | true=>
       rw[AbD rfl,Lib.itoa_neg _ hpos,NJ r.length r rfl hall hne (λha=>?_)]
       cases r with
       | nil=>exact absurd rfl hne
       | cons x y=>
        simp only[List.head?_cons,Option.some.injEq] at ha;subst ha;exact absurd rfl he
    ·rw[e] at h;simp[Lib.signed] at h
   ·have hb : ¬ AT (c::r) 0=45:=by
     intro e;exact hc (UInt8.toNat_inj.1 (by have:((c.toNat:Nat):Int)=45:=e;simp;omega))
    have hdg:Dp (c::r)=c::r:=by simp[Dp,Gp,hb]
    rw[hdg] at hne hall hz;have hf:48≤c.toNat:=by simp[BR] at hall;omega
    rw[Lib.atoiAll_plain c r (by omega) (by omega)] at h ⊢;have hpm:Lib.parseMag (c::r)=Lib.parseUint10 0 (c::r):=by unfold Lib.parseMag;rw[Abw hne]
    rw[hpm] at h ⊢;rcases Pm (c::r) 0 hall with e | ⟨e,_⟩
    ·rw[e] at h ⊢;simp only[Lib.signless] at h ⊢
     by_cases hbig:9223372036854775808≤C7 0 (c::r)
     ·rw[AbD hbig] at h;simp at h
     ·rw[Abw hbig] at h ⊢;simp only at h ⊢
      cases hv:Df (C7 0 (c::r):Int) with
      | false=>rw[hv] at h;simp at h
      | true=>
       rw[AbD rfl,Lib.itoa_nonneg];refine NJ (c::r).length (c::r) rfl hall hne (λha=>?_);simp only[List.head?_cons,Option.some.injEq] at ha;subst ha;have:AT (48::r) 0=48:=rfl;rw[this] at hz;simp only[decide_true,AaW,AbB,AaL] at hz;rw[hz];rfl
    ·rw[e] at h;simp[Lib.signless] at h
theorem JJ {f:Fo}(h:f.one=true)(key:Option Ah)(r:Fo)(b:Bool):(f.put key r).txt b=CE b++(G2 key++(f.txt true++r.txt false)):=by
 cases f with
 | nil=>cases h
 | cell k c s=>cases k with
  | some _=>cases h
  | none=>cases s with
   | nil=>simp[Fo.put,Fo.txt,CE,G2]
   | _=>cases h
 | node k c kids s=>cases k with
  | some _=>cases h
  | none=>cases s with
   | nil=>simp[Fo.put,Fo.txt,CE,G2]
   | _=>cases h
theorem Pi {f:Fo}(h:f.one=true)(key:Option Ah)(r:Fo):(f.put key r).flat.any BX=(f.flat.any BX||r.flat.any BX):=by
 rw[El h,List.any_append,List.any_append,NB,AaZ]
theorem Sd {m:Bool}{last:Option Ah}{g:Fo}(hw:g.wf m last=true):g = .nil∨∃ (k:Option Ah) (f r:Fo),g=f.put k r∧f.one=true∧f.wf false none=true∧B4 m last k=true∧r.wf m k=true:=by
 cases g with
 | nil=>exact .inl rfl
 | cell k c r=>
  simp only[Fo.wf,AaO,Abi] at hw;obtain⟨⟨⟨w1,w2⟩,w3⟩,w4⟩:=hw;exact .inr ⟨k,.cell none c .nil,r,rfl,rfl,M8 w2 w3,w1,w4⟩
 | node k c kids r=>
  simp only[Fo.wf,AaO,AaL] at hw;obtain⟨⟨⟨⟨⟨w1,w2⟩,w3⟩,w5⟩,w6⟩,w4⟩:=hw;exact .inr ⟨k,.node none c kids .nil,r,rfl,rfl,M7 w2 w3 w5 w6,w1,w4⟩
theorem US {m:Bool}{last:Option Ah}{g:Fo}(hw:g.wf m last=true)(hn:g≠.nil):g.txt false=44::g.txt true:=by
 rcases Sd hw with h | ⟨k,f,r,rfl,h1,_⟩
 ·exact absurd h hn
 ·rw[JJ h1,JJ h1];rfl
theorem Wj {m:Bool}{last k:Option Ah}{w:Ah}(h:B4 m last k=true):D3 true m last (G2 k++w)=some (k,w):=by
 cases k with
 | none=>
  have:m=false:=by simpa[B4] using h
  subst this;rfl
 | some s=>
  have h':=h;simp only[B4,AaO] at h;obtain⟨⟨h1,h2⟩,h3⟩:=h;subst h1;have e:G2 (some s)++w=34::(Eu s++34::(58::w)):=by simp[G2,Ek]
  rw[e];unfold D3;simp only[AaQ,decide_true,Nm s (58::w) h2,h',AaV,Abe,AaN]
theorem OB {m:Bool}{last k:Option Ah}{s w:Ah}(h:D3 true m last s=some (k,w)):s=G2 k++w:=by
 unfold D3 at h
 cases m with
 | false=>cases h;rfl
 | true=>
  simp only[AaQ] at h
  cases s with
  | nil=>cases h
  | cons c r=>
   simp only at h
   cases h1:decide (c=34) with
   | false=>rw[h1] at h;cases h
   | true=>
    rw[h1] at h;simp only[AaQ] at h
    cases h2:Cw true r with
    | none=>rw[h2] at h;cases h
    | some q=>
     obtain⟨t,u⟩:=q;have:=Oq _ r t u rfl h2;rw[h2] at h;simp only at h
     cases h3:(true&&!B4 true last (some t)) with
     | true=>rw[h3] at h;cases h
     | false=>
      rw[h3] at h;simp only[AaN] at h
      cases u with
      | nil=>cases h
      | cons d u'=>
       simp only at h
       cases h4:decide (d=58) with
       | false=>rw[h4] at h;cases h
       | true=>
        rw[h4] at h;cases h;rw[Abo h1,this,Abo h4];simp[G2,Ek]
def Z3 (c:UInt8):Prop:=c=110∨c=116∨c=102∨c=34∨c=91∨c=123∨c=45∨BR c=true
theorem O0 {c:UInt8}(h:Z3 c)(m:Bool):decide (c=Bh m)=false:=by
 refine AaR λe=>?_;subst e
 cases m<;>revert h<;>unfold Z3 BR Bh<;>decide
theorem OC (n:Int):∃c r,Lib.itoa n=c::r∧(c=45∨BR c=true):=by
 obtain⟨a,b,_,_⟩:=OK n.natAbs
 by_cases hneg:n<0
 ·have:=Lib.itoa_neg n.natAbs (by omega);rw[show -(n.natAbs:Int)=n from by omega] at this;exact⟨45,_,this,.inl rfl⟩
 ·have:=Lib.itoa_nonneg n.natAbs;rw[show(n.natAbs:Int)=n from by omega] at this
  cases hd:Lib.decDigits n.natAbs with
  | nil=>exact absurd hd b
  | cons x r=>
   rw[hd] at a;simp only[Ab5,AaO] at a;exact⟨x,r,by rw[this,hd],.inr a.1⟩
theorem RO {c:Aa}:∃x r,D9 c=x::r∧Z3 x:=by
 unfold D9
 cases decide (c.fKind=1) with
 | true=>exact⟨_,_,rfl,.inl rfl⟩
 | false=>
 cases decide (c.fKind=2) with
 | true=>cases decide (c.fInt=1) with
  | true=>exact⟨_,_,rfl,.inr (.inl rfl)⟩
  | false=>exact⟨_,_,rfl,.inr (.inr (.inl rfl))⟩
 | false=>
 cases decide (c.fKind=3) with
 | true=>
  obtain⟨x,r,e,h⟩:=OC c.fInt;exact⟨x,r,e,by unfold Z3;rcases h with h | h<;>simp[h]⟩
 | false=>
 cases decide (c.fKind=4) with
 | true=>exact⟨_,_,rfl,.inr (.inr (.inr (.inl rfl)))⟩
 | false=>cases decide (c.fKind=6) with
  | true=>exact⟨_,_,rfl,.inr (.inr (.inr (.inr (.inr (.inl rfl)))))⟩
  | false=>exact⟨_,_,rfl,.inr (.inr (.inr (.inr (.inl rfl))))⟩
theorem V9 {f:Fo}(h:f.one=true):∃x r,f.txt true=x::r∧Z3 x:=by
 cases f with
 | nil=>cases h
 | cell k c s=>cases k with
  | some _=>cases h
  | none=>cases s with
   | nil=>
    obtain⟨x,r,e,ho⟩:=RO (c:=c);exact⟨x,r,by simp[Fo.txt,CE,G2,e],ho⟩
   | _=>cases h
 | node k c kids s=>cases k with
  | some _=>cases h
  | none=>cases s with
   | nil=>
    simp only[Fo.txt,CE,G2,AaQ,AbA,Ab1];unfold Mr
    cases decide (c.fKind=6) with
    | true=>exact⟨_,_,rfl,.inr (.inr (.inr (.inr (.inr (.inl rfl)))))⟩
    | false=>exact⟨_,_,rfl,.inr (.inr (.inr (.inr (.inl rfl))))⟩
   | _=>cases h
theorem UT {m:Bool}{last:Option Ah}{g:Fo}(hw:g.wf m last=true)(hn:g≠.nil):∃x r,g.txt true=x::r∧Z3 x:=by
 rcases Sd hw with h | ⟨k,f,r,rfl,h1,_⟩
 ·exact absurd h hn
 ·rw[JJ h1]
  cases k with
  | none=>
   obtain⟨x,y,e,ho⟩:=V9 h1;exact⟨x,y++r.txt false,by simp[CE,G2,e],ho⟩
  | some s=>exact⟨34,_,by simp[CE,G2,Ek];rfl,.inr (.inr (.inr (.inl rfl)))⟩
theorem RF {a b:UInt8}{x y:Ah}(h:a≠b):pre (a::x) (b::y)=none:=by
 rw[pre,AaR h];rfl
theorem JL {F:Nat}{c:UInt8}{r:Ah}(h1:c≠110)(h2:c≠116)(h3:c≠102):ER true (F+1) (c::r) =
  bif decide (c=34) then(match Cw true r with
   | none=>none
   | some (t,u)=>some (lf 4 0 t,u)) else
  bif decide (c=91)||decide (c=123) then(match r with
   | []=>none
   | d::r'=>bif decide (d=Bh (decide (c=123))) then some (nd (decide (c=123)) .nil,r') else(match Di true F (decide (c=123)) none (d::r') with
    | none=>none
    | some (g,u)=>some (nd (decide (c=123)) g,u))) else
  Hl (c::r):=by
 rw[Du,RF (Ne.symm h1),RF (Ne.symm h2),RF (Ne.symm h3)];rfl
theorem V8 {F:Nat}{c:Aa}{w:Ah}(hp:pl c=true)(hn:decide (0<c.fN)=false)(ho:BX c=false)(hw:∀x r,w=x::r→BR x=false):ER true (F+1) (D9 c++w)=some (.cell none c .nil,w):=by
 have hN:=V3 hp;have h0:c.fN=0:=by simp only[AaK] at hn;omega
 cases c with
 | mk k n s N=>
 simp only at h0;subst h0;unfold D9
 by_cases k1:k=1
 ·subst k1;simp[pl] at hp;obtain⟨rfl,rfl⟩:=hp;show ER true (F+1) ([110,117,108,108]++w)=_;rw[Du,KZ];rfl
 by_cases k2:k=2
 ·subst k2;simp[pl] at hp;obtain⟨hb,rfl⟩:=hp;rcases hb with rfl | rfl
  ·show ER true (F+1) ([102,97,108,115,101]++w)=_;rw[Du,KZ];rfl
  ·show ER true (F+1) ([116,114,117,101]++w)=_;rw[Du,KZ];rfl
 by_cases k3:k=3
 ·subst k3;simp[pl] at hp;subst hp;show ER true (F+1) (Lib.itoa n++w)=_;obtain⟨x,r,e,hx⟩:=OC n;have hx2:45≤x.toNat∧x.toNat≤57:=by
   rcases hx with rfl | hx
   ·decide
   ·simp[BR] at hx;omega
  have hne:∀y:UInt8,57<y.toNat∨y.toNat<45→x≠y:=λy hy e=>by subst e;omega
  rw[e,Ab2,JL (hne 110 (by decide)) (hne 116 (by decide)) (hne 102 (by decide)),AaR (hne 34 (by decide)),AaR (hne 91 (by decide)),AaR (hne 123 (by decide))];simp only[Bool.or_self,AaN];rw[← Ab2,← e];simp[BX] at ho;exact Ul (by omega) (by omega) hw
 by_cases k4:k=4
 ·subst k4;simp[pl] at hp;obtain⟨rfl,hs⟩:=hp;have e:(bif decide ((4:Int)=1) then([110,117,108,108]:Ah) else bif decide ((4:Int)=2) then(bif decide ((0:Int)=1) then[116,114,117,101] else[102,97,108,115,101]) else bif decide ((4:Int)=3) then Lib.itoa 0 else bif decide ((4:Int)=4) then Ek s else bif decide ((4:Int)=6) then[123,125] else[91,93])=Ek s:=rfl;show ER true (F+1) (Ek s++w)=_;have e2:Ek s++w=34::(Eu s++34::w):=by simp[Ek]
  rw[e2,JL (by decide) (by decide) (by decide),AaU rfl];simp only[AaQ];rw[Nm s w (by rw[Ab3];exact hs)];rfl
 by_cases k5:k=5
 ·subst k5;simp[pl] at hp;obtain⟨rfl,rfl⟩:=hp;show ER true (F+1) (91::93::w)=_;rw[JL (by decide) (by decide) (by decide)];rfl
 by_cases k6:k=6
 ·subst k6;simp[pl] at hp;obtain⟨rfl,rfl⟩:=hp;show ER true (F+1) (123::125::w)=_;rw[JL (by decide) (by decide) (by decide)];rfl
 exfalso;simp[pl,k1,k2,k3,k4,k5,k6] at hp
theorem U2 (m:Bool):BR (Bh m)=false:=by cases m<;>decide
theorem Xv:∀n:Nat,(∀f:Fo,f.flat.length=n→f.one=true→f.wf false none=true→f.flat.any BX=false→∀(F:Nat) (w:Ah),2*n≤F→(∀x r,w=x::r→BR x=false)→ER true F (f.txt true++w)=some (f,w))∧
  (∀(g:Fo) (m:Bool) (last:Option Ah),g.flat.length=n→g≠.nil→g.wf m last=true→g.flat.any BX=false→∀(F:Nat) (w:Ah),2*n+1≤F→Di true F m last (g.txt true++Bh m::w)=some (g,w)):=by
 intro n
 induction n using Nat.strongRecOn with
 | ind n ih=>
  have hP:∀f:Fo,f.flat.length=n→f.one=true→f.wf false none=true→f.flat.any BX=false→∀(F:Nat) (w:Ah),2*n≤F→(∀x r,w=x::r→BR x=false)→ER true F (f.txt true++w)=some (f,w):=by
   intro f hn h1 hw ho F w hF hd;have hl:=Ld h1;obtain⟨F,rfl⟩:∃K,F=K+1:=⟨F-1,by omega⟩
   cases f with
   | nil=>cases h1
   | cell k c s=>cases k with
    | some _=>cases h1
    | none=>cases s with
     | nil=>
      simp only[Fo.wf,AaO,Abi] at hw;simp[Fo.flat,Bu] at ho;have e:(Fo.cell none c .nil).txt true=D9 c:=by simp[Fo.txt,CE,G2]
      rw[e];exact V8 hw.1.1.2 hw.1.2 ho hd
     | _=>cases h1
   | node k c kids s=>cases k with
    | some _=>cases h1
    | none=>cases s with
     | nil=>
      simp only[Fo.wf,AaO,AaL] at hw;obtain⟨⟨⟨⟨⟨w1,w2⟩,w3⟩,w5⟩,w6⟩,w4⟩:=hw;have hfl:(Fo.node none c kids .nil).flat=c::kids.flat:=by simp[Fo.flat,Bu]
      rw[hfl] at hn ho;simp only[AaM] at hn;simp only[List.any_cons,Abn] at ho;have hne:kids≠.nil:=λe=>by subst e;simp[Fo.cnt] at w5;omega
      obtain⟨x,r,ex,hx⟩:=UT w6 hne;obtain⟨ha,hi,hs⟩:=HS w2 w3;have e:(Fo.node none c kids .nil).txt true=Mr c (kids.txt true):=by simp[Fo.txt,CE,G2]
      have ih2:=(ih kids.flat.length (by omega)).2 kids (decide (c.fKind=6)) none rfl hne w6 ho.2 F w (by omega);have hnd:nd (decide (c.fKind=6)) kids = .node none c kids .nil:=by
       unfold nd;rw[AaR (by omega)]
       cases c with
       | mk a1 a2 a3 a4=>
        simp only at ha hi hs w5 ⊢;subst hi;subst hs;subst w5;rcases ha with rfl | rfl<;>rfl
      rw[e];unfold Mr
      cases hm:decide (c.fKind=6) with
      | true=>
       rw[hm] at ih2 hnd;have e3:(bif true then 123::(kids.txt true++[125]) else 91::(kids.txt true++[93]))++w=(bif true then(123:UInt8) else 91)::(x::(r++125::w)):=by simp[ex]
       have ih3:Di true F true none (x::(r++125::w))=some (kids,w):=by rw[ex] at ih2;exact ih2
       rw[e3,RG,H4,O0 hx true,AaN,ih3];show some (nd true kids,w)=_;rw[hnd]
      | false=>
       rw[hm] at ih2 hnd;have e3:(bif false then 123::(kids.txt true++[125]) else 91::(kids.txt true++[93]))++w=(bif false then(123:UInt8) else 91)::(x::(r++93::w)):=by simp[ex]
       have ih3:Di true F false none (x::(r++93::w))=some (kids,w):=by rw[ex] at ih2;exact ih2
       rw[e3,RG,H4,O0 hx false,AaN,ih3];show some (nd false kids,w)=_;rw[hnd]
     | _=>cases h1
  refine⟨hP,?_⟩;intro g m last hn hne hw ho F w hF;rcases Sd hw with h | ⟨k,f,r,rfl,h1,h2,h3,h4⟩
  ·exact absurd h hne
  obtain⟨F,rfl⟩:∃K,F=K+1:=⟨F-1,by omega⟩
  have hl:=Ld h1;rw[El h1,AaS,AaS] at hn;rw[Pi h1,Abn] at ho;rw[JJ h1,De];have e:(CE true++(G2 k++(f.txt true++r.txt false)))++Bh m::w=G2 k++(f.txt true++(r.txt false++Bh m::w)):=by simp[CE]
  rw[e,Wj h3];simp only;have hpar:∀v:Ah,(∀x y,v=x::y→BR x=false)→ER true F (f.txt true++v)=some (f,v):=λv hv=>by
   rcases Nat.lt_or_ge f.flat.length n with hlt | hge
   ·exact(ih f.flat.length hlt).1 f rfl h1 h2 ho.1 F v (by omega) hv
   ·exact hP f (by omega) h1 h2 ho.1 F v (by omega) hv
  by_cases hr:r = .nil
  ·subst hr;rw[hpar _ (λx y e=>by simp[Fo.txt] at e;rw[← e.1];exact U2 m)];simp[Fo.txt]
  ·rw[US h4 hr,Ab2,hpar _ (λx y e=>by cases e;decide)];simp only;have hb:decide ((44:UInt8)=Bh m)=false:=by cases m<;>decide
   have:=(ih r.flat.length (by omega)).2 r m k rfl hr h4 ho.2 F w (by omega);rw[hb,this];rfl
theorem Qv:∀F:Nat,(∀s f u,ER true F s=some (f,u)→f.flat.any BX=false→s=f.txt true++u)∧(∀m last s g u,Di true F m last s=some (g,u)→g.flat.any BX=false→s=g.txt true++Bh m::u)
 | 0=>⟨(λs f u h=>by rw[ER.eq_def] at h;cases h),(λm last s g u h=>by rw[Di.eq_def] at h;cases h)⟩
 | F+1=>by
  obtain⟨ih1,ih2⟩:=Qv F;obtain⟨pl1,pl2⟩:=DM true F;constructor
  ·intro s f u h ho;rw[Du] at h
   cases h1:pre [110,117,108,108] s with
   | some r=>rw[h1] at h;cases h;rw[CY h1];rfl
   | none=>
   rw[h1] at h;simp only at h
   cases h2:pre [116,114,117,101] s with
   | some r=>rw[h2] at h;cases h;rw[CY h2];rfl
   | none=>
   rw[h2] at h;simp only at h
   cases h3:pre [102,97,108,115,101] s with
   | some r=>rw[h3] at h;cases h;rw[CY h3];rfl
   | none=>
   rw[h3] at h;simp only at h
   cases s with
   | nil=>cases h
   | cons c r=>
    simp only at h
    cases h4:decide (c=34) with
    | true=>
     rw[h4] at h;simp only[AaQ] at h
     cases h5:Cw true r with
     | none=>rw[h5] at h;cases h
     | some q=>
      obtain⟨t,u'⟩:=q;rw[h5] at h;cases h;rw[Abo h4,Oq _ r t _ rfl h5];simp[lf,Fo.txt,CE,G2,D9,Ek]
    | false=>
    rw[h4] at h;simp only[AaN] at h
    cases h5:(decide (c=91)||decide (c=123)) with
    | true=>
     rw[h5] at h;simp only[AaQ] at h;have hopen:∀x:Ah,(c::x)=(bif decide (c=123) then(123:UInt8) else 91)::x:=λx=>by
      cases h6:decide (c=123) with
      | true=>rw[Abo h6];rfl
      | false=>rw[h6,Abg] at h5;rw[Abo h5];rfl
     rw[hopen];generalize decide (c=123)=m at *
     cases r with
     | nil=>cases h
     | cons d r'=>
      simp only at h
      cases h6:decide (d=Bh m) with
      | true=>
       rw[h6] at h;cases h;rw[Abo h6]
       cases m<;>simp[nd,Fo.cnt,Fo.txt,CE,G2,D9,Bh]
      | false=>
       rw[h6] at h;simp only[AaN] at h
       cases h7:Di true F m none (d::r') with
       | none=>rw[h7] at h;cases h
       | some q=>
        obtain⟨g,u'⟩:=q;rw[h7] at h;cases h;have hc:=(pl2 _ _ _ _ _ h7).2;rw[IJ _ _ HV,List.any_cons,Abn] at ho;rw[ih2 _ _ _ _ _ h7 ho.2];unfold nd;rw[AaR (by omega)]
        cases m<;>simp[Fo.txt,CE,G2,Mr,Bh]
    | false=>
     rw[h5] at h;simp only[AaN] at h;obtain⟨n,rfl,hb⟩:=Um h;have ho':BX ⟨3,n,[],0⟩=false:=by simpa[Fo.flat,Bu] using ho
     rw[hb ho'];simp[Fo.txt,CE,G2,D9]
  ·intro m last s g u h ho;rw[De] at h
   cases h1:D3 true m last s with
   | none=>rw[h1] at h;cases h
   | some q=>
    obtain⟨key,s1⟩:=q;rw[h1] at h;simp only at h
    cases h2:ER true F s1 with
    | none=>rw[h2] at h;cases h
    | some q=>
     obtain⟨f,s2⟩:=q;have hone:=(pl1 _ _ _ h2).2;rw[h2] at h;simp only at h
     cases s2 with
     | nil=>cases h
     | cons c s3=>
      simp only at h
      cases h3:decide (c=Bh m) with
      | true=>
       rw[h3] at h;cases h;rw[Pi hone,Abn] at ho;rw[OB h1,ih1 _ _ _ h2 ho.1,JJ hone,Abo h3];simp[CE,Fo.txt]
      | false=>
       rw[h3] at h;simp only[AaN] at h
       cases h4:decide (c=44) with
       | false=>rw[h4] at h;cases h
       | true=>
        rw[h4] at h;simp only[AaQ] at h
        cases h5:Di true F m key s3 with
        | none=>rw[h5] at h;cases h
        | some q=>
         obtain⟨g',w⟩:=q;rw[h5] at h;cases h;have hc:=(pl2 _ _ _ _ _ h5).2;rw[Pi hone,Abn] at ho;have e5:=ih2 _ _ _ _ _ h5 ho.2;have e6:g'.txt false=44::g'.txt true:=by
          cases g' with
          | nil=>simp[Fo.cnt] at hc
          | cell k c r=>simp[Fo.txt,CE]
          | node k c kids r=>simp[Fo.txt,CE]
         rw[OB h1,ih1 _ _ _ h2 ho.1,JJ hone,Abo h4,e5,e6];simp[CE]
open Go Go.RowKit
theorem QW {f:Fo}(h:EU f=0):f.flat.any BX=false∧f.flat.any HT=false∧f.flat.length≤200∧f.dep≤8∧(f.txt true).length≤4000:=by
 unfold EU at h
 cases h1:f.flat.any BX with
 | true=>rw[h1] at h;cases h
 | false=>
  rw[h1] at h
  cases h2:(f.flat.any HT||(decide (200<f.flat.length)||(decide (8<f.dep)||decide (4000<(f.txt true).length)))) with
  | true=>rw[h2] at h;cases h
  | false=>
   simp only[Abn,AaK] at h2;exact⟨rfl,h2.1,by omega,by omega,by omega⟩
theorem Yj {f:Fo}(h1:f.one=true)(hw:f.wf false none=true)(he:EU f=0):IM f.flat=0:=by
 unfold IM;rw[KA h1 hw];exact he
theorem YV {F:Nat}{s u:Ah}{f:Fo}(h:ER true F s=some (f,u)):f.wf false none=true:=by
 have:=((ML F).1 s).1;rw[h] at this
 cases h2:ER false F s with
 | none=>rw[h2] at this;cases this
 | some q=>
  obtain⟨g,w⟩:=q;rw[h2] at this;simp only at this
  cases hw:g.wf false none with
  | true=>rw[hw] at this;cases this;exact hw
  | false=>rw[hw] at this;cases this
theorem Yk {v:List Aa}(h:(JZ v).2=0):Ka (JZ v).1=some (v,0):=by
 unfold JZ at h ⊢
 cases hw:whole v with
 | none=>rw[hw] at h;cases h
 | some f=>
  rw[hw] at h;simp only at h
  cases he:decide (EU f=0) with
  | false=>rw[he] at h;exact absurd h (of_decide_eq_false he)
  | true=>
   obtain⟨x1,x2,x3⟩:=ID hw;obtain⟨h1,h2,h3,h4,h5⟩:=QW (Abo he);have hp:=(Xv f.flat.length).1 f rfl x3 x2 h1 10000 [] (by omega) (λx r e=>by cases e);rw[Ab1] at hp;simp only[he];show Ka (f.txt true)=_;unfold Ka;rw[AaR (by omega),AaN,hp];simp only;rw[he,x1];rfl
theorem Td {s:Ah}{r:List Aa×Int}(h:Ka s=some r)(h0:r.2=0):Il 4000 r.1∧JZ r.1=(s,0)∧IM r.1=0:=by
 unfold Ka at h
 cases h4:decide (4000<s.length) with
 | true=>rw[h4] at h;cases h;cases h0
 | false=>
  rw[h4] at h;simp only[AaK] at h4;simp only[AaN] at h
  cases hp:ER true 10000 s with
  | none=>rw[hp] at h;cases h;cases h0
  | some q=>
   obtain⟨f,w⟩:=q;rw[hp] at h
   cases w with
   | cons _ _=>cases h;cases h0
   | nil=>
    simp only[Option.some.injEq] at h;subst h
    cases he:decide (EU f=0) with
    | false=>rw[he] at h0;exact absurd h0 (of_decide_eq_false he)
    | true=>
     have hf:=Abo he;have hw:=YV hp;have hone:=((DM true 10000).1 _ _ _ hp).2;have hcells:=(JM true 4000 10000).1 _ _ _ (by omega) hp;have hfl:=(Em true 10000).1 _ _ _ hp;obtain⟨h1,h2,h3,_⟩:=QW hf;have hb:=(Qv 10000).1 _ _ _ hp h1;rw[Ab1] at hb;refine⟨⟨by decide,by show f.flat.length≤4000;omega,λc hc=>?_⟩,?_,Yj hone hw hf⟩
     ·obtain⟨a,b,c'⟩:=hcells c hc;exact⟨a,b,by omega⟩
     ·show JZ f.flat=_;unfold JZ;rw[KA hone hw];simp only;rw[he,hb];rfl
theorem JT (s:Ah):∃r,Ka s=some r:=by
 unfold Ka
 cases decide (4000<s.length) with
 | true=>exact⟨_,rfl⟩
 | false=>
  simp only[AaN]
  split<;>exact⟨_,rfl⟩
section
variable {M : Nat} {v : List Aa}
theorem R9 (hA:Il M v)(hM:M≤1000000){F:Nat}(hF:4*M+8<F):KV F v=some (JZ v):=by
 have hvM:=hA.hv;unfold KV JZ;rw[LC hA hM (by omega),AS rfl];unfold IM
 cases hwh:whole v with
 | none=>rfl
 | some f=>
  change Bj (!decide (EU f=0)) _ _=some (bif decide (EU f=0) then(f.txt true,0) else([],EU f))
  cases he:decide (EU f=0) with
  | false=>rw[AP (p:=!false) rfl];rfl
  | true=>
   obtain⟨h1,h2,h3⟩:=ID hwh;have hl:v.length=f.flat.length:=by rw[h1]
   have hc:∀c∈f.flat,c.fStr.length≤M∧Bw .i64 c.fInt=true∧c.fN≤9223372036854775807:=λc hc=>hA.hc c (by rw[h1];exact hc);have hb:=JV hM h2 (by omega) hc;have htl:((f.txt true).length:Int)=f.byt:=by rw[HQ f false none true h2,Le h3];simp
   have hd0:v.drop (0:Int).toNat=f.flat++[]:=by rw[Ab1];exact h1
   rw[A8 (p:=!true) rfl,Qe hA (Abr 0) h3 h2 hd0 (by omega) (by omega),AS rfl];rfl
end
section
variable {T : Type}
end
theorem Qz {R V:Type}(K:V→Option R)(v:V):BL K (.go v)=K v:=rfl
theorem RI {R V:Type}(K:V→Option R)(r:R):BL K (.ret r)=some r:=rfl
theorem N2 {α:Type}[Inhabited α](a:α):ov (some a)=a:=rfl
theorem Lj {α R U:Type}[Inhabited α](l:List α)(P:α→Prop)(B:R→Prop)(u:U)(body:Int→Option (Stp Int (Out R U)))
  (h1:∀(x:Int) (c:α),0≤x→x<(l.length:Int)→c∈l→Ay l x=c→(body x=some (.next (x+1))∧P c)∨∃q,body x=some (.out (.ret q))∧B q)
  (h2:body (l.length:Int)=some (.out (.go u))) {F:Nat} (hF:l.length<F) :
  ∃o,Cg body F 0=some o∧((∃q,o = .ret q∧B q)∨(o = .go u∧∀c∈l,P c)):=by
 refine Hk (λx=>0≤x∧x≤(l.length:Int)∧∀c∈l.take x.toNat,P c) (λx=>l.length-x.toNat) _ (λx ⟨h0,hl,ha⟩=>?_) F 0 ⟨Abr 0,by omega,by simp⟩ (by show l.length-0<F;omega)
 by_cases hx:x<(l.length:Int)
 ·obtain⟨c,hc⟩:∃c,l[x.toNat]? =some c:=⟨l[x.toNat]'(by omega),AaY (by omega)⟩
  have hat:Ay l x=c:=by simp[Ay,hc]
  rcases h1 x c h0 hx (Abh hc) hat with⟨hb,hp⟩ | ⟨q,hb,hq⟩
  ·refine .inl ⟨x+1,hb,⟨by omega,by omega,λd hd=>?_⟩,by omega⟩;rw[show(x+1).toNat=x.toNat+1 from by omega,List.take_add_one,hc] at hd;simp only[Option.toList_some,List.mem_append,AbH,List.not_mem_nil,or_false] at hd;rcases hd with hd | rfl
   ·exact ha d hd
   ·exact hp
  ·exact .inr ⟨.ret q,hb,.inl ⟨q,rfl,hq⟩⟩
 ·have e:x=(l.length:Int):=by omega
  subst e;refine .inr ⟨.go u,h2,.inr ⟨rfl,λc hc=>ha c ?_⟩⟩;rw[show((l.length:Int)).toNat=l.length from by omega,AbK];exact hc
abbrev ZO (x y:Ae):Bool:=DV x.fAt y.fAt x.fID y.fID
abbrev Mm (x y:Ai):Bool:=ZO x.fTimer y.fTimer
theorem ZM:Z6 Mm:=Wa (λx:Ai=>x.fTimer.fAt) (λx=>x.fTimer.fID)
structure SmT (t:Ae):Prop where
 body:Il 5000 t.fBody
 id:t.fID.length≤300
 ten:t.fTenant.length≤300
 src:t.fSource.length≤300
 len:t.fBody.length≤300
structure TI (ts:List Ai):Prop where
 srt:ts.Pairwise λa b=>Mm a b=true
 ids:ts.Pairwise λa b=>a.fTimer.fID≠b.fTimer.fID
 len:ts.length≤256
 sm:∀x∈ts,SmT x.fTimer
structure Rn (m:List (Ah×Ai)) (ts:List Ai):Prop where
 ms:Ms m
 pm:m.Perm (ts.map λx=>(x.fTimer.fID,x))
 ti:TI ts
def I7 (t:Ae):Int:=bif !(Rl t.fID) then 4 else bif !(decide (0≤t.fAt)&&decide (t.fAt≤1073741824)) then 2 else bif (!(CT t.fTenant)||!(CT t.fSource)) then 4 else IM t.fBody
def Aa6 (x:Ai)(now:Int):Ai:=⟨x.fTimer,x.fTold||decide (x.fTimer.fAt≤now)⟩
def Yt (ts:List Ai)(id:Ah):Bool:=ts.any λx=>decide (x.fTimer.fID=id)
def Y9 (ts:List Ai)(id:Ah):Bool:=ts.any λx=>decide (x.fTimer.fID=id)&&x.fTold
def Aab (ts:List Ai)(id:Ah):List Ai:=ts.filter λx=>!decide (x.fTimer.fID=id)
def Th (ts:List Ai):List Ae:=ts.map (·.fTimer)
theorem TI.nil:TI []:=⟨List.Pairwise.nil,List.Pairwise.nil,by decide,λ_ h=>by cases h⟩
theorem Rn.nil:Rn [] []:=⟨Ms.nil,AaP _,TI.nil⟩
theorem Rn.len {m:List (Ah×Ai)}{ts:List Ai}(h:Rn m ts):m.length=ts.length:=by rw[h.pm.length_eq,Abk]
theorem Rn.mem {m:List (Ah×Ai)}{ts:List Ai}(h:Rn m ts){p:Ah×Ai}(hp:p∈m):p.2∈ts∧p.1=p.2.fTimer.fID:=by
 obtain⟨x,hx,rfl⟩:=List.mem_map.1 (h.pm.subset hp);exact⟨hx,rfl⟩
theorem Rn.get {m:List (Ah×Ai)}{ts:List Ai}(h:Rn m ts)(id:Ah):(CG m id=none∧Yt ts id=false∧Y9 ts id=false)∨∃x,CG m id=some x∧x∈ts∧x.fTimer.fID=id∧Yt ts id=true∧Y9 ts id=x.fTold:=by
 cases hg:CG m id with
 | none=>
  have hn:∀x∈ts,¬ x.fTimer.fID=id:=λx hx=>IK.1 hg _ (h.pm.symm.subset (List.mem_map.2 ⟨x,hx,rfl⟩));refine .inl ⟨rfl,List.any_eq_false.2 λx hx=>by simp[hn x hx],List.any_eq_false.2 λx hx=>by simp[hn x hx]⟩
 | some x=>
  obtain⟨hx,hid⟩:=h.mem (If hg);simp only at hx hid;refine .inr ⟨x,rfl,hx,hid.symm,List.any_eq_true.2 ⟨x,hx,by simp[hid]⟩,?_⟩
  cases ht:x.fTold with
  | true=>exact List.any_eq_true.2 ⟨x,hx,by simp[hid,ht]⟩
  | false=>
   refine List.any_eq_false.2 λy hy=>?_
   by_cases e:y.fTimer.fID=id
   ·have:y=x:=by
     have h1:CG m id=some y:=N7 h.ms.nodup (h.pm.symm.subset (List.mem_map.2 ⟨y,hy,by rw[e]⟩));rw[hg] at h1;exact(Option.some.inj h1).symm
    subst this;simp[ht]
   ·simp[e]
theorem TI.del {ts:List Ai}(h:TI ts)(id:Ah):TI (Aab ts id):=⟨h.srt.sublist (List.filter_sublist ..),h.ids.sublist (List.filter_sublist ..),Nat.le_trans (List.length_filter_le ..) h.len,λx hx=>h.sm x (List.mem_filter.1 hx).1⟩
theorem Rn.del {m:List (Ah×Ai)}{ts:List Ai}(h:Rn m ts)(id:Ah):Rn (mdel m id) (Aab ts id):=by
 refine⟨h.ms.mdel id,?_,h.ti.del id⟩;have:=h.pm.filter λp=>!decide (p.1=id);rw[List.filter_map] at this;exact this
theorem TI.ins {ts:List Ai}(h:TI ts){t:Ae}(ht:SmT t)(hn:Yt ts t.fID=false)(hl:ts.length<256)(b:Bool):TI (OV Mm ⟨t,b⟩ ts):=by
 have hp:=Iw Mm ⟨t,b⟩ ts;have hne:∀x∈ts,¬ x.fTimer.fID=t.fID:=λx hx e=>by
  have:=List.any_eq_false.1 hn x hx;simp[e] at this
 have hids:(OV Mm ⟨t,b⟩ ts).Pairwise λa b=>a.fTimer.fID≠b.fTimer.fID:=
  (hp.pairwise_iff (fun {x y} h e=>h e.symm)).2 (List.pairwise_cons.2 ⟨λx hx e=>hne x hx e.symm,h.ids⟩)
 have hs:=Jk ZM ⟨t,b⟩ (h.srt.imp λh=>ZM.asym _ _ h);refine⟨?_,hids,by rw[hp.length_eq];exact hl,λx hx=>?_⟩
 ·refine(hs.and hids).imp fun {x y} h=>?_
  cases h1:Mm x y with
  | true=>rfl
  | false=>exact absurd (QJ h1 h.1).2 h.2
 ·rcases List.mem_cons.1 (hp.subset hx) with e | h1
  ·rw[e];exact ht
  ·exact h.sm x h1
theorem Rn.ins {m:List (Ah×Ai)}{ts:List Ai}(h:Rn m ts){t:Ae}(ht:SmT t)(hn:Yt ts t.fID=false)(hl:ts.length<256):Rn (mset m t.fID ⟨t,false⟩) (OV Mm ⟨t,false⟩ ts):=by
 have hg:CG m t.fID=none:=by
  rcases h.get t.fID with h1 | ⟨x,_,_,_,h1,_⟩
  ·exact h1.1
  ·rw[hn] at h1;cases h1
 refine⟨h.ms.mset _ _,?_,h.ti.ins ht hn hl false⟩;have e:mset m t.fID ⟨t,false⟩=mins t.fID ⟨t,false⟩ m:=by
  unfold mset GQ;rw[hg];rfl
 rw[e];refine(LH _ _ m).trans ((h.pm.cons _).trans ?_);exact((Iw Mm ⟨t,false⟩ ts).map λx=>(x.fTimer.fID,x)).symm
theorem Rn.keysOk {m:List (Ah×Ai)}{ts:List Ai}(h:Rn m ts):keysOk m=true:=by
 unfold Go.Proofs.YtkoiaconljdbeaaGreatDoor.keysOk;simp only[AaO,AaL,Ab3];have hl:=h.len;have h2:=h.ti.len;refine⟨by omega,λp hp=>?_⟩;obtain⟨h3,h4⟩:=h.mem hp;rw[h4];have:=(h.ti.sm _ h3).id;unfold VD;simp;omega
def OkB (v:List Aa):Prop:=∀c∈v,Bw .i64 c.fInt=true∧c.fN≤9223372036854775807
theorem Vq {F:Nat}(hF:5000<F){t:Ae}(ho:OkB t.fBody):∃b,HH F t=some b∧(b=true→SmT t):=by
 unfold HH
 cases hA:((decide (300<(t.fID.length:Int)))||((decide (300<(t.fTenant.length:Int)))||((decide (300<(t.fSource.length:Int)))||(decide (300<(t.fBody.length:Int)))))) with
 | true=>exact⟨false,AP rfl,λh=>by cases h⟩
 | false=>
  simp only[Abn,AaK] at hA;obtain⟨a1,a2,a3,a4⟩:=hA;rw[A8 rfl];obtain⟨o,h1,h2⟩:=Lj t.fBody (λc=>c.fStr.length≤5000) (λq=>q=false) () (λσ=>E0 t σ) (λx c h0 hx hc hat=>by
   have e:E0 t x=Bj (decide (5000<(c.fStr.length:Int))) (some (.out (.ret false))) (some (.next (x+1))):=by
    unfold E0;rw[AP (AaU hx),Bl h0 hx,hat,AI (by omega) (by omega)]
   cases hL:decide (5000<(c.fStr.length:Int)) with
   | false=>exact .inl ⟨e.trans (A8 hL),by simp at hL;omega⟩
   | true=>exact .inr ⟨false,e.trans (AP hL),rfl⟩) (by
   show E0 t _=_;unfold E0;rw[A8 (AaR (by omega))]) (F:=F) (by omega)
  rw[AS h1];rcases h2 with⟨q,rfl,rfl⟩ | ⟨rfl,h⟩
  ·exact⟨false,RI ..,λh=>by cases h⟩
  ·exact⟨true,by rw[Qz];rfl,λ_=>⟨⟨by decide,by omega,λc hc=>⟨h c hc,ho c hc⟩⟩,by omega,by omega,by omega,by omega⟩⟩
theorem Qg {F:Nat}{t:Ae}(hF:t.fBody.length<F)(hl:t.fBody.length≤100000):Nu F t t=some true:=by
 unfold Nu;rw[A8 (by simp)];obtain⟨o,h1,h2⟩:=Lj t.fBody (λ_=>True) (λ_=>False) () (λσ=>E2 t t σ) (λx c h0 hx hc hat=>.inl ⟨by
  show E2 t t x=_;unfold E2;rw[AP (AaU hx),Bl h0 hx,Bl h0 hx,A8 (by simp),AI (by omega) (by omega)],trivial⟩) (by
  show E2 t t _=_;unfold E2;rw[A8 (AaR (by omega))]) hF
 rw[AS h1];rcases h2 with⟨q,rfl,h⟩ | ⟨rfl,h⟩
 ·exact h.elim
 ·rw[Qz];rfl
theorem Jl {F:Nat}{l:List Ae}(hF:6000<F)(hl:l.length≤300)(hb:∀t∈l,t.fBody.length≤5000):Eg F l l=some true:=by
 unfold Eg;rw[A8 (by simp)];obtain⟨o,h1,h2⟩:=Lj l (λ_=>True) (λ_=>False) () (λσ=>E1 F l l σ) (λx c h0 hx hc hat=>.inl ⟨by
  show E1 F l l x=_;unfold E1;have:=hb c hc;rw[AP (AaU hx),Bl h0 hx,Bl h0 hx,hat,Qg (by omega) (by omega),AS rfl,A8 (by rfl),AI (by omega) (by omega)],trivial⟩) (by
  show E1 F l l _=_;unfold E1;rw[A8 (AaR (by omega))]) (F:=F) (by omega)
 rw[AS h1];rcases h2 with⟨q,rfl,h⟩ | ⟨rfl,h⟩
 ·exact h.elim
 ·rw[Qz];rfl
theorem TI.llen {ts:List Ai}(h:TI ts):(Th ts).length≤256:=by unfold Th;rw[Abk];exact h.len
theorem TI.lbody {ts:List Ai}(h:TI ts):∀t∈Th ts,t.fBody.length≤300:=λt ht=>by
 obtain⟨x,hx,rfl⟩:=List.mem_map.1 ht;exact(h.sm x hx).len
theorem TI.same {F:Nat}(hF:6000<F){ts:List Ai}(h:TI ts){l:List Ae}(hs:l.Sublist (Th ts)):Eg F l l=some true:=
 Jl hF (by have:=hs.length_le;have:=h.llen;omega) λt ht=>Nat.le_trans (h.lbody t (hs.subset ht)) (by decide)
theorem LJ:Ig 40000=some true:=by decide +kernel
theorem YU:∀a b d e f g h i j:Bool,(Bx (some a) λha=>Bj ha (some true) (Bj d (Bj e (some true) (Bx (some b) λhb=>Bj hb (some true) (Bj f (some true) (Bj g (some true) (Bj h (some true) (Bj i (some true) (some j))))))) (Bx (some b) λhd=>Bj hd (some true) (Bj f (some true) (Bj g (some true) (Bj h (some true) (Bj i (some true) (some j))))))))=some (a||b||(d&&e)||f||g||h||i||j):=by decide
theorem Un (c:Int):Pt c=some (Dv c):=YU (decide (97≤c)&&decide (c≤122)) (decide (48≤c)&&decide (c≤57)) (decide (65≤c)) (decide (c≤90)) (decide (c=45)) (decide (c=95)) (decide (c=46)) (decide (c=58)) (decide (c=47))
theorem Mu:∀(s:Ah) (k:Nat),Be LO k s=s.all λu=>Dv u.toNat
 | [],k=>rfl
 | u::r,k=>by rw[Be,Mu r (k+1),Ab5];rfl
theorem Yc {F:Nat}(hF:64<F)(s:Ah):Wq F s=some (Rl s):=by
 unfold Wq Rl;rw[Mu]
 by_cases hl:(s.length:Int)<1∨(64:Int)<(s.length:Int)
 ·rw[AP (by simpa using hl)];have:(decide (1≤s.length)&&decide (s.length≤64))=false:=by
   simp only[Abx,AaK];omega
  rw[Bool.and_assoc,this,Abe]
 ·rw[A8 (by simpa using hl)];have hb:(decide (1≤s.length)&&decide (s.length≤64))=true:=by
   simp only[AaO,AaL];omega
  rw[Bool.and_assoc,hb,Abf];obtain⟨o,h1,h2⟩:=Lj s (λu=>Dv u.toNat=true) (λq=>q=false∧(s.all λu=>Dv u.toNat)=false) () (λσ=>Hq s σ) (λx c h0 hx hc hat=>by
   have hb:AT s x=(c.toNat:Int):=by rw[← hat];rfl
   have e:Hq s x=Bj (!Dv c.toNat) (some (.out (.ret false))) (some (.next (x+1))):=by
    unfold Hq;rw[AP (AaU hx),Bl h0 hx,hb,Un,AS rfl,AI (by omega) (by omega)]
   cases hL:Dv c.toNat with
   | true=>exact .inl ⟨by rw[hL] at e;exact e,rfl⟩
   | false=>exact .inr ⟨false,by rw[hL] at e;exact e,rfl,List.all_eq_false.2 ⟨c,hc,by simp[hL]⟩⟩) (by
   show Hq s _=_;unfold Hq;rw[A8 (AaR (by omega))]) (F:=F) (by omega)
  rw[AS h1];rcases h2 with⟨q,rfl,rfl,ha⟩ | ⟨rfl,h⟩
  ·rw[RI,ha]
  ·rw[Qz,List.all_eq_true.2 h];rfl
theorem QB {k:Nat}(hk:1≤k)(u:UInt8):(!(CA u.toNat)&&(!(DS u.toNat)&&(!decide ((u.toNat:Int)=45)&&!decide ((u.toNat:Int)=95)))) = !CJ k u:=by
 unfold CJ;have:decide (k=0)=false:=by simp;omega
 rw[this]
 cases CA u.toNat<;>cases DS u.toNat<;>simp
theorem OF {F:Nat}(hF:64<F)(s:Ah):Es F s=some (CT s):=by
 unfold Es;rw[BB (by
  by_cases h1:(s.length:Int)<1
  ·simp[imp,h1]
  ·by_cases h2:(24:Int)<s.length
   ·simp[imp,h2]
   ·simp only[imp,CH,h1,h2];simp;try omega),BB (by simp only[Db,Option.isSome_some];simp[imp])]
 have e0:(ov (Db (AT s 0)))=CA (AT s 0):=rfl;rw[e0]
 cases hA:(decide ((s.length:Int)<1)||(decide ((24:Int)<s.length)||!CA (AT s 0))) with
 | true=>rw[AP rfl,VT hA]
 | false=>
  rw[A8 rfl];obtain⟨hl1,hnm⟩:=XO (p:=s) (by rw[hA];rfl);have hl2:(s.length:Int)≤24:=by
   simp only[Abn,AaK] at hA;omega
  rw[hnm];obtain⟨o,h1,h2⟩:=Hk (body:=λσ=>Gh s σ) (λx=>1≤x∧x≤(s.length:Int)∧Be CJ 1 (s.drop 1)=Be CJ x.toNat (s.drop x.toNat)) (λx=>s.length-x.toNat)
   (λo=>(o = .ret false∧Be CJ 1 (s.drop 1)=false)∨(o = .go ()∧Be CJ 1 (s.drop 1)=true)) (λx ⟨h0,hx,ha⟩=>by
    by_cases hlt:x<(s.length:Int)
    ·obtain⟨c,hc⟩:∃c,s[x.toNat]? =some c:=⟨s[x.toNat]'(by omega),AaY (by omega)⟩
     have hb:AT s x=(c.toNat:Int):=by have:=K8 hc;rwa [show((x.toNat:Nat):Int)=x from by omega] at this
     have e:Gh s x=Bj (!CJ x.toNat c) (some (.out (.ret false))) (some (.next (x+1))):=by
      unfold Gh;rw[AP (AaU hlt),Bl (by omega) hlt,hb,BB (by rfl),BB (by simp[imp,E7]),AI (by omega) (by omega)];have e1:ov (Db (c.toNat:Int))=CA c.toNat:=rfl;have e2:ov (E7 (c.toNat:Int))=DS c.toNat:=rfl;rw[e1,e2,QB (k:=x.toNat) (by omega)]
     cases hq:CJ x.toNat c with
     | true=>
      refine .inl ⟨x+1,by rw[hq] at e;exact e,⟨by omega,by omega,?_⟩,by omega⟩;rw[ha,G9 hc,Be,hq,AaW,show(x+1).toNat=x.toNat+1 from by omega]
     | false=>
      refine .inr ⟨.ret false,by rw[hq] at e;exact e,.inl ⟨rfl,?_⟩⟩;rw[ha,G9 hc,Be,hq,Abc]
    ·refine .inr ⟨.go (),by unfold Gh;rw[A8 (AaR hlt)],.inr ⟨rfl,?_⟩⟩;rw[ha,show x.toNat=s.length from by omega,List.drop_length];rfl) F 1 ⟨by decide,by omega,rfl⟩ (by show s.length-1<F;omega)
  rw[AS h1];have hd1:decide (1≤s.length)=true:=AaU hl1;have hd2:decide (s.length≤24)=true:=AaU (by omega);rcases h2 with⟨rfl,ha⟩ | ⟨rfl,ha⟩
  ·rw[RI,ha]
  ·rw[Qz,ha];rfl
def conv(ts:List Ai):List Kh:=ts.map λx=>⟨x.fTimer,x.fTold⟩
theorem in1 {n:Nat}(h:n≤1000000):DC 1 n=true:=AaU (by omega)
theorem X0 {F M:Nat}(hF:5000<F)(hM:M≤5000){t:Ae}(h:Il M t.fBody):L5 F t=some (I7 t):=by
 unfold L5 I7 Jj;rw[AS rfl,L4 h (by omega) (by omega),AS rfl]
 cases Rl t.fID with
 | false=>rfl
 | true=>
  cases(decide (0≤t.fAt)&&decide (t.fAt≤1073741824)) with
  | false=>rfl
  | true=>cases(!CT t.fTenant||!CT t.fSource)<;>rfl
theorem S2 {F M:Nat}(hF:30000<F)(hM:M≤5000){t:Ae}(h:Il M t.fBody):L7 F t=some (I7 t):=by
 unfold L7 I7;rw[Yc (by omega),AS rfl]
 cases Rl t.fID with
 | false=>rfl
 | true=>
  rw[A8 (by rfl)];have hr:(decide (t.fAt<0)||decide ((1073741824:Int)<t.fAt)) = !(decide (0≤t.fAt)&&decide (t.fAt≤1073741824)):=by
   rw[Abj];simp<;>omega
  rw[hr]
  cases hq:(decide (0≤t.fAt)&&decide (t.fAt≤1073741824)) with
  | false=>rfl
  | true=>
   rw[A8 (by rfl),OF (by omega),OF (by omega),BB (by rfl),BB (by simp[imp]),N2,N2]
   cases(!CT t.fTenant||!CT t.fSource) with
   | true=>rfl
   | false=>rw[A8 rfl,LC h (by omega) (by omega),AS rfl];rfl
theorem Ra (v:List Aa):(JZ v).2=IM v:=by
 unfold JZ IM
 cases whole v with
 | none=>rfl
 | some f=>
  simp only
  cases h:decide (EU f=0) with
  | true=>rw[Abo h];rfl
  | false=>rfl
def Ht (t:Ae):List Ah:=[t.fID,Lib.itoa t.fAt,t.fTenant,t.fSource,(JZ t.fBody).1]
def Jc (t:Ae):Ah×Int:=bif decide (I7 t=0) then La (Ht t) else([],I7 t)
theorem NF {t:Ae}(h:I7 t=0):Rl t.fID=true∧0≤t.fAt∧t.fAt≤1073741824∧CT t.fTenant=true∧CT t.fSource=true∧IM t.fBody=0:=by
 unfold I7 at h
 cases h1:Rl t.fID with
 | false=>rw[h1] at h;cases h
 | true=>
  rw[h1] at h
  cases h2:(decide (0≤t.fAt)&&decide (t.fAt≤1073741824)) with
  | false=>rw[h2] at h;cases h
  | true=>
   rw[h2] at h;simp only[AaO,AaL] at h2
   cases h3:CT t.fTenant with
   | false=>rw[h3] at h;cases h
   | true=>
    rw[h3] at h
    cases h4:CT t.fSource with
    | false=>rw[h4] at h;cases h
    | true=>rw[h4] at h;exact⟨rfl,h2.1,h2.2,rfl,rfl,h⟩
theorem Kn {F M:Nat}(hF:30000<F)(hM:M≤5000){t:Ae}(h:Il M t.fBody):GC F t=some (Jc t):=by
 unfold GC Jc;rw[X0 (by omega) hM h,AS rfl]
 cases h0:decide (I7 t=0) with
 | false=>rfl
 | true=>
  obtain⟨_,h1,h2,_,_,h3⟩:=NF (Abo h0);rw[A8 (p:=!true) rfl,Rx h (by omega) (by omega),AS rfl,Ra,h3,A8 (by decide),AI (by omega) (by omega),W5 (by omega),AS rfl];rfl
theorem Qm {F M:Nat}(hF:30000<F)(hM:M≤5000){t:Ae}(h:Il M t.fBody):Jo F t=some (Jc t):=by
 unfold Jo Jc;rw[S2 hF hM h,AS rfl]
 cases h0:decide (I7 t=0) with
 | false=>rfl
 | true=>
  obtain⟨_,h1,h2,_,_,h3⟩:=NF (Abo h0);rw[A8 (p:=!true) rfl,R9 h (by omega) (by omega),AS rfl,AI (by omega) (by omega),TN (by omega),AS rfl];rfl
def zT:Ae:=Ae.mk [] 0 [] [] []
def NS (l:List Ah)(b:List Aa):Ae:=Ae.mk (Ay l 0) (Bt (Ay l 1)) (Ay l 2) (Ay l 3) b
def Ut (l:List Ah)(r:List Aa×Int):Ae×Int:=
 bif !decide (r.2=0) then(zT,13) else bif !decide (I7 (NS l r.1)=0) then(zT,13) else(NS l r.1,0)
def IN (s:Ah):Ae×Int:=
 bif (!decide ((C9 s).2=0)||!decide (((C9 s).1.length:Int)=5)) then(zT,13)
 else bif !decide (B6 (Ay (C9 s).1 1)=0) then(zT,13) else Ut (C9 s).1 (ov (Ka (Ay (C9 s).1 4)))
theorem MR {s:Ah}{r:List Aa×Int}(h:Ka s=some r):Il 4000 r.1:=by
 by_cases h0:r.2=0
 ·exact(Td h h0).1
 ·have:r.1=[]:=by
   unfold Ka at h
   cases h4:decide (4000<s.length) with
   | true=>rw[h4] at h;cases h;rfl
   | false=>
    rw[h4] at h;simp only[AaN] at h
    split at h
    ·rename_i f _
     cases he:decide (EU f=0) with
     | true=>rw[he] at h;cases h;exact absurd rfl h0
     | false=>rw[he] at h;cases h;rfl
    ·cases h;rfl
  rw[this];exact⟨by decide,by simp,λc hc=>by cases hc⟩
theorem WU {l:List Ah}(h:∀f∈l,f.length≤4000)(i:Int):(Ay l i).length≤4000:=by
 unfold Ay
 cases hi:l[i.toNat]? with
 | none=>exact Aby _
 | some f=>exact h f (Abh hi)
theorem Aa0 {l:List Ah}(h:(l.length:Int)=5):∃a b c d e,l=[a,b,c,d,e]:=by
 match l,h with
 | [a,b,c,d,e],_=>exact⟨a,b,c,d,e,rfl⟩
 | [],h=>simp at h
 | [_],h=>simp at h
 | [_,_],h=>simp at h
 | [_,_,_],h=>simp at h
 | [_,_,_,_],h=>simp at h
 | _::_::_::_::_::_::r,h=>simp at h;omega
theorem UV {s:Ah}{r:List Aa×Int}(h1:(C9 s).2=0)(h2:((C9 s).1.length:Int)=5)(h3:B6 (Ay (C9 s).1 1)=0)(hr:Ka (Ay (C9 s).1 4)=some r)(h4:r.2=0)(h5:I7 (NS (C9 s).1 r.1)=0):Jc (NS (C9 s).1 r.1)=(s,0):=by
 obtain⟨k1,k2⟩:=Qx (s:=s) (l:=(C9 s).1) (by rw[← h1]);generalize(C9 s).1=l at *;obtain⟨a,b,c,d,e,rfl⟩:=Aa0 h2;have e1:Ay [a,b,c,d,e] 1=b:=rfl;have e4:Ay [a,b,c,d,e] 4=e:=rfl;rw[e1] at h3;rw[e4] at hr;obtain⟨_,d2,_⟩:=Td hr h4;have hf:Ht (NS [a,b,c,d,e] r.1)=[a,b,c,d,e]:=by
  show[a,Lib.itoa (Bt b),c,d,(JZ r.1).1]=_;rw[Qt h3,d2]
 unfold Jc La;rw[h5,hf,k1,k2];rfl
theorem Nl {F:Nat}(hF:30000<F){s:Ah}(hs:s.length≤1000000):JC F s=some (IN s):=by
 unfold JC IN;rw[RS (by omega) (by omega),AS rfl]
 cases h1:decide ((C9 s).2=0) with
 | false=>rfl
 | true=>
  have hsm:∀f∈(C9 s).1,f.length≤4000:=λf hf=>Ok hf (Abo h1);have hb:=λr=>UV (s:=s) (r:=r);have h1':=Abo h1
  cases h2:decide (((C9 s).1.length:Int)=5) with
  | false=>rfl
  | true=>
   have h5:=Abo h2;have e1:=WU hsm 1;rw[A8 (by rfl),Bl (by omega) (by omega),BB (in1 (by omega)),Bl (by omega) (by omega)];obtain⟨r,hr⟩:=JT (Ay (C9 s).1 4);rw[PV (by omega),hr,AS rfl,GF];simp only[AaV,AaN,Abg]
   cases h3:decide (B6 (Ay (C9 s).1 1)=0) with
   | false=>rfl
   | true=>
    unfold Ut
    cases h4:decide (r.2=0) with
    | false=>rfl
    | true=>
     rw[A8 (by rfl),Bl (by omega) (by omega),Bl (by omega) (by omega),Bl (by omega) (by omega)];have he:=Kn (F:=F) (M:=4000) hF (by decide) (t:=NS (C9 s).1 r.1) (MR hr);unfold NS at he;rw[he,AS rfl];simp only[AaV,AaN];show Bj (!decide ((Jc (NS (C9 s).1 r.1)).2=0)||!decide ((Jc (NS (C9 s).1 r.1)).1=s)) (some (zT,13)) (some (NS (C9 s).1 r.1,0))=_
     cases h6:decide (I7 (NS (C9 s).1 r.1)=0) with
     | true=>
      rw[hb r h1' h5 (Abo h3) hr (Abo h4) (Abo h6),A8 (by simp)];rfl
     | false=>
      have:Jc (NS (C9 s).1 r.1)=([],I7 (NS (C9 s).1 r.1)):=by unfold Jc;rw[h6];rfl
      rw[this,AP (by simp[of_decide_eq_false h6])];rfl
theorem Qp {F:Nat}(hF:30000<F){s:Ah}(hs:s.length≤1000000):Jp F s=some (IN s):=by
 unfold Jp IN;rw[Qq (by omega) (by omega),AS rfl]
 cases h1:decide ((C9 s).2=0) with
 | false=>rfl
 | true=>
  have hsm:∀f∈(C9 s).1,f.length≤4000:=λf hf=>Ok hf (Abo h1)
  cases h2:decide (((C9 s).1.length:Int)=5) with
  | false=>rfl
  | true=>
   have h5:=Abo h2;have e1:=WU hsm 1;rw[A8 (by rfl),Bl (by omega) (by omega),BB (in1 (by omega))];simp only[AaV,AaN,Abg]
   cases h3:decide (B6 (Ay (C9 s).1 1)=0) with
   | false=>rfl
   | true=>
    obtain⟨r,hr⟩:=JT (Ay (C9 s).1 4);rw[A8 (by rfl),Bl (by omega) (by omega),Qn (by omega),hr,AS rfl,GF];unfold Ut
    cases h4:decide (r.2=0) with
    | false=>rfl
    | true=>
     rw[A8 (by rfl),Bl (by omega) (by omega),Bl (by omega) (by omega),Bl (by omega) (by omega)];have he:=S2 (F:=F) (M:=4000) hF (by decide) (t:=NS (C9 s).1 r.1) (MR hr);unfold NS at he;rw[he,AS rfl];simp only[AaV,AaN];show Bj (!decide (I7 (NS (C9 s).1 r.1)=0)) (some (zT,13)) (some (NS (C9 s).1 r.1,0))=_
     cases decide (I7 (NS (C9 s).1 r.1)=0)<;>rfl
theorem TQ {l:List Ah}(h:TR l=true):(Lb l).length≤300000:=by
 unfold TR at h;simp only[AaO,AaL] at h;have key:∀l:List Ah,(l.all λf=>decide (f.length≤4000))=true→(l.flatMap K4).length≤l.length*4002:=by
  intro l
  induction l with
  | nil=>intro _;simp
  | cons f l ih=>
   intro h;simp only[Ab5,AaO,AaL] at h;have:=ih (by simpa using h.2);rw[List.flatMap_cons,AaS,AaM,Nat.succ_mul];simp only[K4,AaM];omega
 have h1:=key l h.2;have h2:l.length*4002≤64*4002:=Nat.mul_le_mul_right _ h.1;unfold Lb;rw[AaM];omega
theorem SY {t:Ae}(h:(Jc t).2=0):I7 t=0∧TR (Ht t)=true∧Jc t=(Lb (Ht t),0):=by
 unfold Jc at h ⊢
 cases h1:decide (I7 t=0) with
 | false=>rw[h1] at h;exact absurd h (of_decide_eq_false h1)
 | true=>
  rw[h1] at h;simp only[AaQ] at h ⊢;unfold La at h ⊢
  cases h2:TR (Ht t) with
  | false=>rw[h2] at h;cases h
  | true=>exact⟨Abo h1,rfl,rfl⟩
theorem T3 {t:Ae}(h:(Jc t).2=0):IN (Jc t).1=(t,0):=by
 obtain⟨h1,h2,h3⟩:=SY h;obtain⟨_,a0,a1,_,_,a2⟩:=NF h1;obtain⟨p1,p2⟩:=Uk a0 (by omega);have hv:Ka (JZ t.fBody).1=some (t.fBody,0):=Yk (by rw[Ra,a2]);rw[h3];unfold IN;rw[UR h2];have e4:Ay (Ht t) 1=Lib.itoa t.fAt:=rfl;have e6:Ay (Ht t) 4=(JZ t.fBody).1:=rfl;have em:NS (Ht t) t.fBody=t:=by
  unfold NS;rw[e4,p2];rfl
 simp only[e4,e6,p1,hv,GF,decide_true,AaV,AaN,AaZ];rw[show decide (((Ht t).length:Int)=5)=true from rfl];simp only[AaV,AaN];unfold Ut;simp only[decide_true,AaV,AaN,em,h1]
theorem WF {s:Ah}(h:(IN s).2=0):Il 4000 (IN s).1.fBody∧Jc (IN s).1=(s,0):=by
 unfold IN at h ⊢
 cases h1:decide ((C9 s).2=0) with
 | false=>rw[h1] at h;cases h
 | true=>
  cases h2:decide (((C9 s).1.length:Int)=5) with
  | false=>rw[h1,h2] at h;cases h
  | true=>
   cases h3:decide (B6 (Ay (C9 s).1 1)=0) with
   | false=>rw[h1,h2,h3] at h;cases h
   | true=>
    obtain⟨r,hr⟩:=JT (Ay (C9 s).1 4);rw[h1,h2,h3,hr,GF] at h;rw[hr,GF];simp only[AaV,AaN,Abg] at h ⊢;unfold Ut at h ⊢
    cases h4:decide (r.2=0) with
    | false=>rw[h4] at h;cases h
    | true=>
     rw[h4] at h
     cases h5:decide (I7 (NS (C9 s).1 r.1)=0) with
     | false=>rw[h5] at h;cases h
     | true=>exact⟨MR hr,UV (Abo h1) (Abo h2) (Abo h3) hr (Abo h4) (Abo h5)⟩
theorem Sh:Il 4000 zT.fBody:=⟨by decide,by decide,λc hc=>by cases hc⟩
theorem Yo (s:Ah):Il 4000 (IN s).1.fBody:=by
 unfold IN Ut
 cases(!decide ((C9 s).2=0)||!decide (((C9 s).1.length:Int)=5)) with
 | true=>exact Sh
 | false=>
  cases(!decide (B6 (Ay (C9 s).1 1)=0)) with
  | true=>exact Sh
  | false=>
   obtain⟨r,hr⟩:=JT (Ay (C9 s).1 4);rw[hr,GF];simp only[AaN]
   cases(!decide (r.2=0)) with
   | true=>exact Sh
   | false=>
    cases(!decide (I7 (NS (C9 s).1 r.1)=0)) with
    | true=>exact Sh
    | false=>exact MR hr
end Go.Proofs.YtkoiaconljdbeaaGreatDoor
namespace Go.Proofs.YtkoiaconljdbeaaGreatDoor
open Go
set_option linter.unusedVariables false
set_option linter.unusedSimpArgs false
theorem Pr {t:Ae}{s:Ah}(ho:OkB t.fBody):Ju 40000 t s=some true:=by
 obtain⟨b,hb,hs⟩:=Vq (F:=40000) (by decide) ho;unfold Ju;rw[hb,BB (by rfl),N2]
 cases h1:(!b||decide ((20000:Int)<s.length)) with
 | true=>rw[AP rfl,LJ,AS rfl]
 | false=>
  simp only[Abn,Bool.not_eq_eq_eq_not,Abd,AaK] at h1;have ht:=hs h1.1;have hl:s.length≤1000000:=by omega
  have hk:=Yo s;have e1:Eg 40000 [(IN s).1] [(IN s).1]=some true:=Jl (by decide) (by simp) (λu hu=>by rw[List.mem_singleton.1 hu];have:=hk.hv;omega);have e2:Eg 40000 [t] [t]=some true:=Jl (by decide) (by simp) (λu hu=>by rw[List.mem_singleton.1 hu];have:=ht.len;omega);rw[A8 rfl,Kn (F:=40000) (by decide) (by decide) ht.body,AS rfl,Qm (F:=40000) (by decide) (by decide) ht.body,AS rfl,Nl (F:=40000) (by decide) hl,AS rfl,Qp (F:=40000) (by decide) hl,AS rfl,e1,BB (by simp[imp]),N2,A8 (by simp)];have back:∀(h:(IN s).2=0),GC 40000 (IN s).1=some (s,0):=λh=>by
   obtain⟨h3,h4⟩:=WF h;rw[Kn (F:=40000) (by decide) (by decide) h3,h4]
  have tail:(Bj (decide ((IN s).2=0)) (Bx (GC 40000 (IN s).1) λha=>Bj ((!decide (ha.2=0))||(!decide (ha.1=s))) (some false) (Bx (Ig 40000) λhd=>some hd)) (Bx (Ig 40000) λhe=>some he))=some true:=by
   cases h5:decide ((IN s).2=0) with
   | false=>rw[A8 rfl,LJ,AS rfl]
   | true=>rw[AP rfl,back (Abo h5),AS rfl,A8 (by simp),LJ,AS rfl]
  cases h6:decide ((Jc t).2=0) with
  | false=>rw[A8 rfl];exact tail
  | true=>
   have h7:=Abo h6;have h8:=SY h7;have hlen:(Jc t).1.length≤1000000:=by rw[h8.2.2];exact Nat.le_trans (TQ h8.2.1) (by decide)
   rw[AP rfl,Nl (F:=40000) (by decide) hlen,T3 h7,AS rfl];dsimp only;rw[e2,BB (by simp[imp]),N2,A8 (by simp)];exact tail
end Go.Proofs.YtkoiaconljdbeaaGreatDoor
namespace Go.Proofs.YtkoiaconljdbeaaGreatDoor.lawTimerRecords
open Go
set_option linter.unusedVariables false
theorem ZF {t:Ae}(h2:VG t=true):OkB t.fBody:=λc hc=>by
 unfold VG at h2;simp only[AaO,Ab3] at h2;have h3:=h2.2.1 c hc;unfold VF at h3;simp only[AaO] at h3;exact⟨h3.1.1.2,(GG h3.2).2⟩
theorem law:Law:=λt s h _=>⟨40000,Pr (ZF h)⟩
end Go.Proofs.YtkoiaconljdbeaaGreatDoor.lawTimerRecords
