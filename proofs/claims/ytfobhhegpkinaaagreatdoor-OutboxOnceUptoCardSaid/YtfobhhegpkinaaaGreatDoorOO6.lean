/-
  Texts of the proof, put together: LdK, LtA, LtB, LtD, LbB, LhA, LhB, LsA, LrA, LsC, LsD, LrB, LbC, LbD, LbE, LbF, PN, PO, PlF, LbG, LbI, LbA, LbH, LbJ, LbK, LwOOnce.
-/
import Derived.Test.YtfobhhegpkinaaaGreatDoorOO5
import Derived.Sort.Walk0
namespace Go.Proofs.YtfobhhegpkinaaaGreatDoor
open Go
set_option linter.unusedVariables false
set_option linter.unusedSimpArgs false
def KX (K:Nat)(c:Ac):Prop:=c.fStr.length≤K∧Ch .i64 c.fInt=true∧c.fN≤(K:Int)
theorem KX.mono {K K':Nat}{c:Ac}(h:KX K c)(hk:K≤K'):KX K' c:=⟨by have:=h.1;omega,h.2.1,by have:=h.2.2;omega⟩
theorem Rk (b:Bool):∀(n:Nat) (s t u:Aj),s.length=n→Ds b s=some (t,u)→t.length≤s.length:=by
 intro n
 induction n using Nat.strongRecOn with
 | ind n ih=>
  intro s t u hn h
  cases s with
  | nil=>cases h
  | cons c r=>
   simp only[Agd] at hn ⊢;rw[Ee] at h
   cases h1:decide (c=34) with
   | true=>rw[h1] at h;cases h;simp
   | false=>
    rw[h1] at h;simp only[Agb] at h
    cases h2:(b&&!LJ c) with
    | true=>rw[h2] at h;cases h
    | false=>
     rw[h2] at h;simp only[Agb] at h
     cases h3:decide (c=92) with
     | true=>
      rw[h3] at h
      cases r with
      | nil=>cases h
      | cons d r'=>
       simp only[Agg] at h
       cases h4:(decide (d=34)||decide (d=92)) with
       | false=>rw[h4] at h;cases h
       | true=>
        rw[h4] at h;simp only[Agg] at h
        cases h5:Ds b r' with
        | none=>rw[h5] at h;cases h
        | some q=>
         obtain⟨t',u'⟩:=q;rw[h5] at h;cases h;simp only[Agd] at hn ⊢;have:=ih r'.length (by omega) r' t' u rfl h5;omega
     | false=>
      rw[h3] at h;simp only[Agb] at h
      cases h5:Ds b r with
      | none=>rw[h5] at h;cases h
      | some q=>
       obtain⟨t',u'⟩:=q;rw[h5] at h;cases h;have:=ih r.length (by omega) r t' u rfl h5;simp only[Agd];omega
theorem Yo {b m:Bool}{last:Option Aj}{s u:Aj}{t:Aj}(h:Gp b m last s=some (some t,u)):t.length≤s.length:=by
 unfold Gp at h
 cases m with
 | false=>cases h
 | true=>
  simp only[Agg] at h
  cases s with
  | nil=>cases h
  | cons c r=>
   simp only at h
   cases h1:decide (c=34) with
   | false=>rw[h1] at h;cases h
   | true=>
    rw[h1] at h;simp only[Agg] at h
    cases h2:Ds b r with
    | none=>rw[h2] at h;cases h
    | some q=>
     obtain⟨k,w⟩:=q;have:=Rk b _ r k w rfl h2;rw[h2] at h;simp only at h
     cases h3:(b&&!BN true last (some k)) with
     | true=>rw[h3] at h;cases h
     | false=>
      rw[h3] at h;simp only[Agb] at h
      cases w with
      | nil=>cases h
      | cons d w'=>
       simp only at h
       cases h4:decide (d=58) with
       | false=>rw[h4] at h;cases h
       | true=>rw[h4] at h;cases h;simp only[Agd];omega
theorem AaN (neg:Bool){d:Aj}(hd:d.all C3=true):Ch .i64 (LK neg d)=true:=by
 unfold LK
 cases ha:decide (18<d.length) with
 | true=>
  cases neg with
  | true=>exact(by decide:Ch .i64 (-2000000000000)=true)
  | false=>exact(by decide:Ch .i64 2000000000000=true)
 | false=>
  simp only[AfZ] at ha;have hb:=Ac2 hd (by omega)
  cases neg with
  | true=>exact J3 (by simp only[Agb,Agg];omega) (by simp only[Agb,Agg];omega)
  | false=>exact J3 (by simp only[Agb];omega) (by simp only[Agb];omega)
theorem Aau {m:Bool}{g:Fo}{K:Nat}(hg:∀c∈g.flat,KX K c)(hl:g.flat.length≤K):∀c∈(nd m g).flat,KX K c:=λc hc=>by
 rw[Ly _ _ Ke] at hc;have hcf:=Dw g;rcases List.mem_cons.1 hc with rfl | hc
 ·exact⟨AgA _,(by decide:Ch .i64 0=true),by show(g.cnt:Int)≤K;omega⟩
 ·exact hg c hc
theorem Wr {f r:Fo}{K:Nat}{key:Option Aj}(ho:f.one=true)(hf:∀c∈f.flat,KX K c)(hr:∀c∈r.flat,KX K c)(hk:∀t,key=some t→t.length≤K):∀c∈(f.put key r).flat,KX K c:=λc hc=>by
 rw[GG ho] at hc;rcases List.mem_append.1 hc with h | h
 ·cases key with
  | none=>cases h
  | some t=>
   have:c=⟨4,0,t,0⟩:=by simpa[BZ] using h
   subst this;exact⟨hk t rfl,(by decide:Ch .i64 0=true),by show(0:Int)≤K;omega⟩
 ·rcases List.mem_append.1 h with h | h
  ·exact hf c h
  ·exact hr c h
theorem N6 (b:Bool)(K:Nat):∀F:Nat,(∀s f u,s.length≤K→GW b F s=some (f,u)→∀c∈f.flat,KX K c)∧(∀m last s g u,s.length≤K→Eb b F m last s=some (g,u)→∀c∈g.flat,KX K c)
 | 0=>⟨(λs f u _ h=>by rw[GW.eq_def] at h;cases h),(λm last s g u _ h=>by rw[Eb.eq_def] at h;cases h)⟩
 | F+1=>by
  obtain⟨ih1,ih2⟩:=N6 b K F;have lfc:∀k i t,t.length≤K→Ch .i64 i=true→∀c∈(lf k i t).flat,KX K c:=λk i t ht hi c hc=>by
   have:c=⟨k,i,t,0⟩:=by simpa[lf,Fo.flat,BZ] using hc
   subst this;exact⟨ht,hi,by show(0:Int)≤K;omega⟩
  constructor
  ·intro s f u hs h;rw[Ea] at h
   cases h1:pre [110,117,108,108] s with
   | some r=>rw[h1] at h;cases h;exact lfc _ _ _ (AgA _) (by decide)
   | none=>
   rw[h1] at h;simp only at h
   cases h2:pre [116,114,117,101] s with
   | some r=>rw[h2] at h;cases h;exact lfc _ _ _ (AgA _) (by decide)
   | none=>
   rw[h2] at h;simp only at h
   cases h3:pre [102,97,108,115,101] s with
   | some r=>rw[h3] at h;cases h;exact lfc _ _ _ (AgA _) (by decide)
   | none=>
   rw[h3] at h;simp only at h
   cases s with
   | nil=>cases h
   | cons c r=>
   simp only[Agd] at hs;simp only at h
   cases h4:decide (c=34) with
   | true=>
    rw[h4] at h;simp only[Agg] at h
    cases h5:Ds b r with
    | none=>rw[h5] at h;cases h
    | some q=>
     obtain⟨t,w⟩:=q;rw[h5] at h;cases h;have:=Rk b _ r t u rfl h5;exact lfc _ _ _ (by omega) (by decide)
   | false=>
   rw[h4] at h;simp only[Agb] at h
   cases h5:(decide (c=91)||decide (c=123)) with
   | false=>
    rw[h5] at h;simp only[Agb] at h;unfold J2 at h;simp only at h
    cases hc:GB (decide ((c::r).head? =some 45)) (Dd (bif decide ((c::r).head? =some 45) then(c::r).tail else c::r)).1 with
    | false=>rw[hc] at h;cases h
    | true=>
     rw[hc] at h;cases h;exact lfc 3 _ [] (AgA _) (AaN _ (Nq _))
   | true=>
   rw[h5] at h;simp only[Agg] at h
   cases r with
   | nil=>cases h
   | cons d r'=>
   simp only at h
   cases h6:decide (d=Cu (decide (c=123))) with
   | true=>rw[h6] at h;cases h;exact Aau (λc hc=>by cases hc) (AgA _)
   | false=>
   rw[h6] at h;simp only[Agb] at h
   cases h7:Eb b F (decide (c=123)) none (d::r') with
   | none=>rw[h7] at h;cases h
   | some q=>
    obtain⟨g,w⟩:=q;rw[h7] at h;cases h;have:=(Jp b F).2 _ _ _ _ _ h7;exact Aau (ih2 _ _ _ _ _ (by omega) h7) (by omega)
  ·intro m last s g u hs h;rw[DI] at h
   cases h1:Gp b m last s with
   | none=>rw[h1] at h;cases h
   | some q=>
   obtain⟨key,s1⟩:=q;have l1:=Um h1;have hkt:∀t,key=some t→t.length≤K:=λt e=>by subst e;have:=Yo h1;omega
   rw[h1] at h;simp only at h
   cases h2:GW b F s1 with
   | none=>rw[h2] at h;cases h
   | some q=>
   obtain⟨f,s2⟩:=q;obtain⟨l2,o2⟩:=(EY b F).1 _ _ _ h2;have hf:=ih1 _ _ _ (by omega) h2;rw[h2] at h;simp only at h
   cases s2 with
   | nil=>cases h
   | cons c s3=>
   simp only[Agd] at l2;simp only at h
   cases h3:decide (c=Cu m) with
   | true=>rw[h3] at h;cases h;exact Wr o2 hf (λc hc=>by cases hc) hkt
   | false=>
   rw[h3] at h;simp only[Agb] at h
   cases h4:decide (c=44) with
   | false=>rw[h4] at h;cases h
   | true=>
   rw[h4] at h;simp only[Agg] at h
   cases h5:Eb b F m key s3 with
   | none=>rw[h5] at h;cases h
   | some q=>
    obtain⟨g',w⟩:=q;rw[h5] at h;cases h;exact Wr o2 hf (ih2 _ _ _ _ _ (by omega) h5) hkt
theorem Abb:∀l:List Ac,l.any CA=false→l.map Dm=l
 | [],_=>rfl
 | c::l,h=>by
  simp only[List.any_cons,Ag7] at h;simp only[AgO,Abb l h.2,Dm,h.1,Agb]
def NL (s:Aj):Option (List Ac×Int):=
 bif decide (4000<s.length) then some ([],3) else match GW true 10000 s with
  | some (f,[])=>some (bif decide (Iy f=0) then(f.flat,0) else([],Iy f))
  | _=>some ([],1)
theorem QE (s:Aj):A2.mk s 0 [] false=DJ s s [] false:=by simp[DJ]
theorem Abh {f:Fo}(h:f.flat.any CA=true):Iy f=2:=by unfold Iy;rw[h];rfl
theorem T2 {F:Nat}(hF:20000≤F){s:Aj}:JI F s=NL s:=by
 unfold JI NL;have a1:decide ((4000:Int)<(s.length:Int))=decide (4000<s.length):=by rw[Agt];simp;omega
 rw[a1]
 cases h4:decide (4000<s.length) with
 | true=>rfl
 | false=>
  simp only[AfZ] at h4;rw[AP rfl,QE];simp only[Agb];rcases Vc (S:=s) (by omega) (F:=F) (P:=10000) (by omega) (by omega) with⟨f,w,q1,q2,q3⟩ | ⟨q1,q',q2⟩
  ·rw[q3,q1,Bw rfl,AP (p:=!true) rfl];obtain⟨_,hone⟩:=(EY true 10000).1 _ _ _ q1;have hwl:=q2.len;have hcells:=(N6 true 4000 10000).1 _ _ _ (by omega) q1;have hfl:=(Jp true 10000).1 _ _ _ q1;unfold GV;have hat:(true,DJ s w ([]++f.flat.map Dm) (false||f.flat.any CA)).2.fAt=(s.length:Int)-w.length:=rfl;rw[hat]
   cases w with
   | cons c w'=>
    have hd:decide ((s.length:Int)-(c::w').length=(s.length:Int))=false:=Aga (by simp only[Agd];omega);rw[hd];rfl
   | nil=>
    have hd:decide ((s.length:Int)-([]:Aj).length=(s.length:Int))=true:=Agc (by simp);rw[hd,AP (p:=!true) rfl]
    change _=some (bif decide (Iy f=0) then(f.flat,0) else([],Iy f))
    have hgr:(true,DJ s [] ([]++f.flat.map Dm) (false||f.flat.any CA)).2.fGreat=f.flat.any CA:=rfl;have hce:(true,DJ s [] ([]++f.flat.map Dm) (false||f.flat.any CA)).2.fCells=f.flat.map Dm:=rfl;rw[hgr,hce]
    cases ho:f.flat.any CA with
    | true=>rw[Abh ho];rfl
    | false=>
     rw[AP rfl,Abb _ ho];have hA:Le 4000 f.flat:=⟨by decide,by omega,λc hc=>by obtain⟨c1,c2,c3⟩:=hcells c hc;exact⟨c1,c2,by omega⟩⟩
     have hwf:f.wf false none=true:=by
      have:=((SC 10000).1 s).1;rw[q1] at this
      cases hp:GW false 10000 s with
      | none=>rw[hp] at this;cases this
      | some q=>
       obtain⟨f',u'⟩:=q;rw[hp] at this;simp only at this
       cases hw:f'.wf false none with
       | false=>rw[hw] at this;cases this
       | true=>rw[hw] at this;cases this;exact hw
     have hev:JA f.flat=Iy f:=by unfold JA;rw[Pm hone hwf]
     unfold MG;rw[Lp hA (by decide) (by omega),Bw rfl,hev]
     cases decide (Iy f=0)<;>rfl
  ·rw[q2,q1];rfl
theorem Lt {x:Nat}(h:x<10):(UInt8.ofNat (48+x)).toNat=48+x:=by simp;omega
theorem RN {x:Nat}(h:x<10):C3 (UInt8.ofNat (48+x))=true:=by
 unfold C3;rw[Lt h];simp;omega
theorem R6 (d:Aj)(c:UInt8)(a:Nat):Dt a (d++[c])=10*Dt a d+(c.toNat-48):=by simp[Dt]
theorem SW {u:Nat}(h:u<10):Lib.decDigits u=[UInt8.ofNat (48+u)]:=by rw[Lib.decDigits,dif_pos h]
theorem Abt {u:Nat}(h : ¬ u<10):Lib.decDigits u=Lib.decDigits (u/10)++[UInt8.ofNat (48+u % 10)]:=by
 rw[Lib.decDigits,dif_neg h]
theorem Sc:∀u:Nat,(Lib.decDigits u).all C3=true∧Lib.decDigits u≠[]∧Dt 0 (Lib.decDigits u)=u∧((Lib.decDigits u).head? =some 48→u=0):=by
 intro u
 induction u using Nat.strongRecOn with
 | ind u ih=>
  by_cases h:u<10
  ·rw[SW h];refine⟨by simp only[AgG,List.all_nil,RN h,Bool.and_self],by simp,?_,?_⟩
   ·show 10*0+((UInt8.ofNat (48+u)).toNat-48)=u;rw[Lt h];omega
   ·intro e;simp only[List.head?_cons,Option.some.injEq] at e;have:=congrArg UInt8.toNat e;rw[Lt h] at this;have ha:(48:UInt8).toNat=48:=rfl;omega
  ·obtain⟨a,b,c,d⟩:=ih (u/10) (by omega);rw[Abt h];refine⟨by simp only[List.all_append,a,AgG,List.all_nil,RN (show u % 10<10 by omega),Bool.and_self],by simp,?_,?_⟩
   ·rw[R6,c,Lt (by omega)];omega
   ·intro e
    cases hd:Lib.decDigits (u/10) with
    | nil=>exact absurd hd b
    | cons x r=>
     rw[hd] at e;have:=d (by rw[hd];simpa using e);omega
theorem Abs:∀(n:Nat) (d:Aj),d.length=n→d.all C3=true→d≠[]→(d.head? =some 48→d.length=1)→Lib.decDigits (Dt 0 d)=d:=by
 intro n
 induction n with
 | zero=>intro d hn _ hne;exact absurd (Ag0 hn) hne
 | succ n ih=>
  intro d hn ha hne hh;obtain⟨d',c,rfl⟩:∃d' c,d=d'++[c]:=⟨d.dropLast,d.getLast hne,(List.dropLast_concat_getLast hne).symm⟩
  rw[List.all_append] at ha;simp only[AgG,List.all_nil,Ag1,Agf] at ha;have hc:48≤c.toNat∧c.toNat≤57:=by have:=ha.2;simp[C3] at this;omega
  have ec:UInt8.ofNat (48+(c.toNat-48))=c:=by rw[show 48+(c.toNat-48)=c.toNat from by omega];simp
  rw[R6]
  cases hd:d' with
  | nil=>
   show Lib.decDigits (10*0+(c.toNat-48))=[c];rw[SW (by omega),show 48+(10*0+(c.toNat-48))=48+(c.toNat-48) from by omega,ec]
  | cons x r=>
   rw[← hd];have hne':d'≠[]:=by rw[hd];simp
   have h1:d'.head?≠some 48:=λe=>by
    have:=hh (by rw[hd] at e ⊢;simpa using e);rw[hd] at this;simp at this
   have ih':=ih d' (by simp at hn;omega) ha.1 hne' (λe=>absurd e h1);have hpos:1≤Dt 0 d':=by
    rw[hd];show 1≤Dt (10*0+(x.toNat-48)) r;have hx:48≤x.toNat∧x.toNat≤57:=by have:=ha.1;rw[hd] at this;simp[C3] at this;omega
    have hx2:x.toNat≠48:=λe=>h1 (by rw[hd];simp;rw[← AgY];exact e);exact Nat.le_trans (by omega) (Lz r _)
   rw[Abt (by omega),show(10*Dt 0 d'+(c.toNat-48))/10=Dt 0 d' from by omega,show(10*Dt 0 d'+(c.toNat-48)) % 10=c.toNat-48 from by omega,ih',ec]
theorem Qs:∀(d w:Aj),d.all C3=true→(∀c r,w=c::r→C3 c=false)→Dd (d++w)=(d,w)
 | [],w,_,hw=>by
  cases w with
  | nil=>rfl
  | cons c r=>simp[Dd,hw c r rfl]
 | c::d,w,ha,hw=>by
  simp only[AgG,Agf] at ha;simp[Dd,ha.1,Qs d w ha.2 hw]
theorem Yt {n:Int}{w:Aj}(h0 : -1000000000000≤n)(h1:n≤1000000000000)(hw:∀c r,w=c::r→C3 c=false):J2 (Lib.itoa n++w)=some (.cell none ⟨3,n,[],0⟩ .nil,w):=by
 have key:∀(u:Nat) (neg:Bool),u≤1000000000000→(neg=true→1≤u)→J2 (HM neg (Lib.decDigits u)++w)=some (.cell none ⟨3,bif neg then -(u:Int) else u,[],0⟩ .nil,w):=λu neg hu hneg=>by
  obtain⟨a,b,c,d⟩:=Sc u;have hl:(Lib.decDigits u).length≤18:=by
   cases hdd:Lib.decDigits u with
   | nil=>simp
   | cons x r=>
    by_cases ha:(x::r).length≤18
    ·exact ha
    ·exfalso;have hx:48≤x.toNat∧x.toNat≤57:=by rw[hdd] at a;simp[C3] at a;omega
     have hr:18≤r.length:=by simp only[Agd] at ha;omega
     by_cases hb:x=48
     ·have:=d (by rw[hdd,hb];rfl);subst this;have e0:Lib.decDigits 0=[UInt8.ofNat 48]:=SW (by omega);rw[e0] at hdd;cases hdd;simp at hr
     ·have hx2:x.toNat≠48:=λe=>hb (by rw[← AgY];exact e);rw[hdd] at c;have c':Dt (10*0+(x.toNat-48)) r=u:=c;have:=Ua r (10*0+(x.toNat-48)) (by omega);have h2:10 ^ 18≤10 ^ r.length:=Nat.pow_le_pow_right (by omega) hr;omega
  have hhead:∀(x:UInt8) (r:Aj),Lib.decDigits u=x::r→x≠45:=λx r e=>by
   rw[e] at a;intro e2;subst e2;simp[C3] at a
  have hcan:GB neg (Lib.decDigits u)=true:=by
   unfold GB;have e1:decide (Lib.decDigits u=[])=false:=Aga b;rw[e1]
   by_cases hh:(Lib.decDigits u).head? =some 48
   ·have hu0:=d hh;subst hu0;have:neg=false:=by cases neg with
     | false=>rfl
     | true=>have:=hneg rfl;omega
    subst this;rw[SW (by omega)];rfl
   ·rw[Aga hh];rfl
  have hv:LK neg (Lib.decDigits u)=bif neg then -(u:Int) else u:=by
   have hn:QN (Lib.decDigits u)=(u:Int):=by
    have:=KJ (Lib.decDigits u) 0 a;rw[c] at this;exact this
   unfold LK;rw[Aga (by omega),hn];rfl
  unfold J2 HM
  cases neg with
  | true=>
   have e1:decide ((45::(Lib.decDigits u++w)).head? =some 45)=true:=rfl;simp only[Agg,AgL,e1,List.tail_cons,Qs _ _ a hw,hcan,hv]
  | false=>
   have e1:decide ((((bif false then 45::Lib.decDigits u else Lib.decDigits u)++w).head?)=some 45)=false:=by
    cases hdd:Lib.decDigits u with
    | nil=>exact absurd hdd b
    | cons x r=>simp[hhead x r hdd]
   simp only[Agb] at e1;simp only[Agb,e1,Qs _ _ a hw,hcan,hv,Agg]
 by_cases hneg:n<0
 ·have e:Lib.itoa n=HM true (Lib.decDigits n.natAbs):=by
   have:=Lib.itoa_neg n.natAbs (by omega);rw[show -(n.natAbs:Int)=n from by omega] at this;rw[this];rfl
  have:=key n.natAbs true (by omega) (λ_=>by omega);rw[e,this];show some (Fo.cell none ⟨3,-(n.natAbs:Int),[],0⟩ .nil,w)=_;rw[show -(n.natAbs:Int)=n from by omega]
 ·have e:Lib.itoa n=HM false (Lib.decDigits n.natAbs):=by
   have:=Lib.itoa_nonneg n.natAbs;rw[show(n.natAbs:Int)=n from by omega] at this;rw[this];rfl
  have:=key n.natAbs false (by omega) (λh=>by cases h);rw[e,this];show some (Fo.cell none ⟨3,(n.natAbs:Int),[],0⟩ .nil,w)=_;rw[show(n.natAbs:Int)=n from by omega]
theorem Yu {s u:Aj}{f:Fo}(h:J2 s=some (f,u)):∃n,f = .cell none ⟨3,n,[],0⟩ .nil∧(CA ⟨3,n,[],0⟩=false→s=Lib.itoa n++u):=by
 unfold J2 at h;simp only at h;have key:∀(neg:Bool) (r:Aj),s=(bif neg then 45::r else r)→GB neg (Dd r).1=true→CA ⟨3,LK neg (Dd r).1,[],0⟩=false→s=Lib.itoa (LK neg (Dd r).1)++(Dd r).2:=λneg r es hcan hout=>by
  have hd:=Nq r;have he:=OW r;generalize(Dd r).1=d at *;generalize(Dd r).2=w at *;unfold GB at hcan;simp only[Agf,Agy,AfZ] at hcan;obtain⟨hne,hz⟩:=hcan;have hl:d.length≤18:=by
   by_cases ha:d.length≤18
   ·exact ha
   ·exfalso;unfold LK at hout;rw[Agc (by omega)] at hout
    cases neg<;>simp[CA] at hout
  have hn:LK neg d=bif neg then -(Dt 0 d:Int) else(Dt 0 d:Int):=by
   have:=KJ d 0 hd;unfold LK;rw[Aga (by omega)];show(bif neg then -(QN d) else QN d)=_;rw[show QN d=(Dt 0 d:Int) from this]
  have hback:=Abs d.length d rfl hd hne (λe=>by
   cases h1:decide (1<d.length) with
   | true=>rw[Agc e,h1] at hz;simp at hz
   | false=>
    simp only[AfZ] at h1
    cases d with
    | nil=>exact absurd rfl hne
    | cons x y=>simp only[Agd] at h1 ⊢;omega)
  rw[hn]
  cases neg with
  | true=>
   have hpos:1≤Dt 0 d:=by
    cases d with
    | nil=>exact absurd rfl hne
    | cons x y=>
     have hx:48≤x.toNat∧x.toNat≤57:=by simp[C3] at hd;omega
     have hx2:x.toNat≠48:=λe=>by
      have:x=48:=by rw[← AgY];exact e
      rw[this] at hz;simp at hz
     show 1≤Dt (10*0+(x.toNat-48)) y;exact Nat.le_trans (by omega) (Lz y _)
   have:=Lib.itoa_neg (Dt 0 d) hpos;simp only[Agg] at es ⊢;rw[this,hback,es,AgL,← he]
  | false=>
   have:=Lib.itoa_nonneg (Dt 0 d);simp only[Agb] at es ⊢;rw[this,hback,es,← he]
 cases hneg:decide (s.head? =some 45) with
 | true=>
  rw[hneg] at h;simp only[Agg] at h
  cases hcan:GB true (Dd s.tail).1 with
  | false=>rw[hcan] at h;cases h
  | true=>
   rw[hcan] at h;simp only[Agg,Option.some.injEq,Prod.mk.injEq] at h;obtain⟨rfl,rfl⟩:=h;refine⟨_,rfl,λhout=>key true s.tail ?_ hcan hout⟩
   cases s with
   | nil=>simp at hneg
   | cons c r=>
    simp at hneg;subst hneg;rfl
 | false=>
  rw[hneg] at h;simp only[Agb] at h
  cases hcan:GB false (Dd s).1 with
  | false=>rw[hcan] at h;cases h
  | true=>
   rw[hcan] at h;simp only[Agg,Option.some.injEq,Prod.mk.injEq] at h;obtain⟨rfl,rfl⟩:=h;exact⟨_,rfl,λhout=>key false s rfl hcan hout⟩
theorem Py:∀(s w:Aj),s.all LJ=true→Ds true (GD s++34::w)=some (s,w)
 | [],w,_=>by
  show Ds true (34::w)=_;rw[Ee];rfl
 | c::s,w,ha=>by
  simp only[AgG,Agf] at ha;have ih:=Py s w ha.2;have e:GD (c::s)=(bif (decide (c=34)||decide (c=92)) then[92,c] else[c])++GD s:=by simp[GD]
  rw[e]
  cases hq:(decide (c=34)||decide (c=92)) with
  | true=>
   simp only[Agg,AgL,AgK];rw[Ee,show decide ((92:UInt8)=34)=false from by decide,show(true&&!LJ 92)=false from by decide,show decide ((92:UInt8)=92)=true from by decide];simp only[Agb,Agg,hq,ih]
  | false=>
   simp only[Agb,AgL,AgK];simp only[Ag7] at hq;rw[Ee,hq.1,ha.1,hq.2];simp only[Agl,Agz,Agb,ih]
theorem Rl:∀(n:Nat) (s t u:Aj),s.length=n→Ds true s=some (t,u)→s=GD t++34::u:=by
 intro n
 induction n using Nat.strongRecOn with
 | ind n ih=>
  intro s t u hn h
  cases s with
  | nil=>cases h
  | cons c r=>
   simp only[Agd] at hn;rw[Ee] at h
   cases h1:decide (c=34) with
   | true=>
    rw[h1] at h;cases h;rw[Agm h1];rfl
   | false=>
    rw[h1] at h;simp only[Agb] at h
    cases h2:(true&&!LJ c) with
    | true=>rw[h2] at h;cases h
    | false=>
     rw[h2] at h;simp only[Agb] at h
     cases h3:decide (c=92) with
     | true=>
      rw[h3] at h
      cases r with
      | nil=>cases h
      | cons d r'=>
       simp only[Agg] at h
       cases h4:(decide (d=34)||decide (d=92)) with
       | false=>rw[h4] at h;cases h
       | true=>
        rw[h4] at h;simp only[Agg] at h
        cases h5:Ds true r' with
        | none=>rw[h5] at h;cases h
        | some q=>
         obtain⟨t',u'⟩:=q;rw[h5] at h;cases h;simp only[Agd] at hn;have:=ih r'.length (by omega) r' t' u rfl h5;rw[Agm h3,this];simp[GD,h4]
     | false=>
      rw[h3] at h;simp only[Agb] at h
      cases h5:Ds true r with
      | none=>rw[h5] at h;cases h
      | some q=>
       obtain⟨t',u'⟩:=q;rw[h5] at h;cases h;have:=ih r.length (by omega) r t' u rfl h5;rw[this];simp only[AfZ] at h1 h3;simp[GD,h1,h3]
theorem Lr {f:Fo}(h:f.one=true)(key:Option Aj)(r:Fo)(b:Bool):(f.put key r).txt b=DZ b++(JG key++(f.txt true++r.txt false)):=by
 cases f with
 | nil=>cases h
 | cell k c s=>cases k with
  | some _=>cases h
  | none=>cases s with
   | nil=>simp[Fo.put,Fo.txt,DZ,JG]
   | _=>cases h
 | node k c kids s=>cases k with
  | some _=>cases h
  | none=>cases s with
   | nil=>simp[Fo.put,Fo.txt,DZ,JG]
   | _=>cases h
theorem S9 {f:Fo}(h:f.one=true)(key:Option Aj)(r:Fo):(f.put key r).flat.any CA=(f.flat.any CA||r.flat.any CA):=by
 rw[GG h,List.any_append,List.any_append,PY,Ags]
theorem VO {m:Bool}{last:Option Aj}{g:Fo}(hw:g.wf m last=true):g = .nil∨∃ (k:Option Aj) (f r:Fo),g=f.put k r∧f.one=true∧f.wf false none=true∧BN m last k=true∧r.wf m k=true:=by
 cases g with
 | nil=>exact .inl rfl
 | cell k c r=>
  simp only[Fo.wf,Agf,Agy] at hw;obtain⟨⟨⟨w1,w2⟩,w3⟩,w4⟩:=hw;exact .inr ⟨k,.cell none c .nil,r,rfl,rfl,Wa w2 w3,w1,w4⟩
 | node k c kids r=>
  simp only[Fo.wf,Agf,AfY] at hw;obtain⟨⟨⟨⟨⟨w1,w2⟩,w3⟩,w5⟩,w6⟩,w4⟩:=hw;exact .inr ⟨k,.node none c kids .nil,r,rfl,rfl,VZ w2 w3 w5 w6,w1,w4⟩
theorem Zy {m:Bool}{last:Option Aj}{g:Fo}(hw:g.wf m last=true)(hn:g≠.nil):g.txt false=44::g.txt true:=by
 rcases VO hw with h | ⟨k,f,r,rfl,h1,_⟩
 ·exact absurd h hn
 ·rw[Lr h1,Lr h1];rfl
theorem AaL {m:Bool}{last k:Option Aj}{w:Aj}(h:BN m last k=true):Gp true m last (JG k++w)=some (k,w):=by
 cases k with
 | none=>
  have:m=false:=by simpa[BN] using h
  subst this;rfl
 | some s=>
  have h':=h;simp only[BN,Agf] at h;obtain⟨⟨h1,h2⟩,h3⟩:=h;subst h1;have e:JG (some s)++w=34::(GD s++34::(58::w)):=by simp[JG,HO]
  rw[e];unfold Gp;simp only[Agg,decide_true,Py s (58::w) h2,h',Agl,Agz,Agb]
theorem RJ {m:Bool}{last k:Option Aj}{s w:Aj}(h:Gp true m last s=some (k,w)):s=JG k++w:=by
 unfold Gp at h
 cases m with
 | false=>cases h;rfl
 | true=>
  simp only[Agg] at h
  cases s with
  | nil=>cases h
  | cons c r=>
   simp only at h
   cases h1:decide (c=34) with
   | false=>rw[h1] at h;cases h
   | true=>
    rw[h1] at h;simp only[Agg] at h
    cases h2:Ds true r with
    | none=>rw[h2] at h;cases h
    | some q=>
     obtain⟨t,u⟩:=q;have:=Rl _ r t u rfl h2;rw[h2] at h;simp only at h
     cases h3:(true&&!BN true last (some t)) with
     | true=>rw[h3] at h;cases h
     | false=>
      rw[h3] at h;simp only[Agb] at h
      cases u with
      | nil=>cases h
      | cons d u'=>
       simp only at h
       cases h4:decide (d=58) with
       | false=>rw[h4] at h;cases h
       | true=>
        rw[h4] at h;cases h;rw[Agm h1,this,Agm h4];simp[JG,HO]
def okH (c:UInt8):Prop:=c=110∨c=116∨c=102∨c=34∨c=91∨c=123∨c=45∨C3 c=true
theorem Rw {c:UInt8}(h:okH c)(m:Bool):decide (c=Cu m)=false:=by
 refine Aga λe=>?_;subst e
 cases m<;>revert h<;>unfold okH C3 Cu<;>decide
theorem RM (n:Int):∃c r,Lib.itoa n=c::r∧(c=45∨C3 c=true):=by
 obtain⟨a,b,_,_⟩:=Sc n.natAbs
 by_cases hneg:n<0
 ·have:=Lib.itoa_neg n.natAbs (by omega);rw[show -(n.natAbs:Int)=n from by omega] at this;exact⟨45,_,this,.inl rfl⟩
 ·have:=Lib.itoa_nonneg n.natAbs;rw[show(n.natAbs:Int)=n from by omega] at this
  cases hd:Lib.decDigits n.natAbs with
  | nil=>exact absurd hd b
  | cons x r=>
   rw[hd] at a;simp only[AgG,Agf] at a;exact⟨x,r,by rw[this,hd],.inr a.1⟩
theorem V5 {c:Ac}:∃x r,EC c=x::r∧okH x:=by
 unfold EC
 cases decide (c.fKind=1) with
 | true=>exact⟨_,_,rfl,.inl rfl⟩
 | false=>
 cases decide (c.fKind=2) with
 | true=>cases decide (c.fInt=1) with
  | true=>exact⟨_,_,rfl,.inr (.inl rfl)⟩
  | false=>exact⟨_,_,rfl,.inr (.inr (.inl rfl))⟩
 | false=>
 cases decide (c.fKind=3) with
 | true=>
  obtain⟨x,r,e,h⟩:=RM c.fInt;exact⟨x,r,e,by unfold okH;rcases h with h | h<;>simp[h]⟩
 | false=>
 cases decide (c.fKind=4) with
 | true=>exact⟨_,_,rfl,.inr (.inr (.inr (.inl rfl)))⟩
 | false=>cases decide (c.fKind=6) with
  | true=>exact⟨_,_,rfl,.inr (.inr (.inr (.inr (.inr (.inl rfl)))))⟩
  | false=>exact⟨_,_,rfl,.inr (.inr (.inr (.inr (.inl rfl))))⟩
theorem Aab {f:Fo}(h:f.one=true):∃x r,f.txt true=x::r∧okH x:=by
 cases f with
 | nil=>cases h
 | cell k c s=>cases k with
  | some _=>cases h
  | none=>cases s with
   | nil=>
    obtain⟨x,r,e,ho⟩:=V5 (c:=c);exact⟨x,r,by simp[Fo.txt,DZ,JG,e],ho⟩
   | _=>cases h
 | node k c kids s=>cases k with
  | some _=>cases h
  | none=>cases s with
   | nil=>
    simp only[Fo.txt,DZ,JG,Agg,AgK,AgP];unfold UH
    cases decide (c.fKind=6) with
    | true=>exact⟨_,_,rfl,.inr (.inr (.inr (.inr (.inr (.inl rfl)))))⟩
    | false=>exact⟨_,_,rfl,.inr (.inr (.inr (.inr (.inl rfl))))⟩
   | _=>cases h
theorem Zz {m:Bool}{last:Option Aj}{g:Fo}(hw:g.wf m last=true)(hn:g≠.nil):∃x r,g.txt true=x::r∧okH x:=by
 rcases VO hw with h | ⟨k,f,r,rfl,h1,_⟩
 ·exact absurd h hn
 ·rw[Lr h1]
  cases k with
  | none=>
   obtain⟨x,y,e,ho⟩:=Aab h1;exact⟨x,y++r.txt false,by simp[DZ,JG,e],ho⟩
  | some s=>exact⟨34,_,by simp[DZ,JG,HO];rfl,.inr (.inr (.inr (.inl rfl)))⟩
theorem Vm {a b:UInt8}{x y:Aj}(h:a≠b):pre (a::x) (b::y)=none:=by
 rw[pre,Aga h];rfl
theorem Ls {F:Nat}{c:UInt8}{r:Aj}(h1:c≠110)(h2:c≠116)(h3:c≠102):GW true (F+1) (c::r) =
  bif decide (c=34) then(match Ds true r with
   | none=>none
   | some (t,u)=>some (lf 4 0 t,u)) else
  bif decide (c=91)||decide (c=123) then(match r with
   | []=>none
   | d::r'=>bif decide (d=Cu (decide (c=123))) then some (nd (decide (c=123)) .nil,r') else(match Eb true F (decide (c=123)) none (d::r') with
    | none=>none
    | some (g,u)=>some (nd (decide (c=123)) g,u))) else
  J2 (c::r):=by
 rw[Ea,Vm (Ne.symm h1),Vm (Ne.symm h2),Vm (Ne.symm h3)];rfl
theorem ZU {F:Nat}{c:Ac}{w:Aj}(hp:pl c=true)(hn:decide (0<c.fN)=false)(ho:CA c=false)(hw:∀x r,w=x::r→C3 x=false):GW true (F+1) (EC c++w)=some (.cell none c .nil,w):=by
 have hN:=ZP hp;have h0:c.fN=0:=by simp only[AfZ] at hn;omega
 cases c with
 | mk k n s N=>
 simp only at h0;subst h0;unfold EC
 by_cases k1:k=1
 ·subst k1;simp[pl] at hp;obtain⟨rfl,rfl⟩:=hp;show GW true (F+1) ([110,117,108,108]++w)=_;rw[Ea,MP];rfl
 by_cases k2:k=2
 ·subst k2;simp[pl] at hp;obtain⟨hb,rfl⟩:=hp;rcases hb with rfl | rfl
  ·show GW true (F+1) ([102,97,108,115,101]++w)=_;rw[Ea,MP];rfl
  ·show GW true (F+1) ([116,114,117,101]++w)=_;rw[Ea,MP];rfl
 by_cases k3:k=3
 ·subst k3;simp[pl] at hp;subst hp;show GW true (F+1) (Lib.itoa n++w)=_;obtain⟨x,r,e,hx⟩:=RM n;have hx2:45≤x.toNat∧x.toNat≤57:=by
   rcases hx with rfl | hx
   ·decide
   ·simp[C3] at hx;omega
  have hne:∀y:UInt8,57<y.toNat∨y.toNat<45→x≠y:=λy hy e=>by subst e;omega
  rw[e,AgL,Ls (hne 110 (by decide)) (hne 116 (by decide)) (hne 102 (by decide)),Aga (hne 34 (by decide)),Aga (hne 91 (by decide)),Aga (hne 123 (by decide))];simp only[Bool.or_self,Agb];rw[← AgL,← e];simp[CA] at ho;exact Yt (by omega) (by omega) hw
 by_cases k4:k=4
 ·subst k4;simp[pl] at hp;obtain⟨rfl,hs⟩:=hp;have e:(bif decide ((4:Int)=1) then([110,117,108,108]:Aj) else bif decide ((4:Int)=2) then(bif decide ((0:Int)=1) then[116,114,117,101] else[102,97,108,115,101]) else bif decide ((4:Int)=3) then Lib.itoa 0 else bif decide ((4:Int)=4) then HO s else bif decide ((4:Int)=6) then[123,125] else[91,93])=HO s:=rfl;show GW true (F+1) (HO s++w)=_;have e2:HO s++w=34::(GD s++34::w):=by simp[HO]
  rw[e2,Ls (by decide) (by decide) (by decide),Agc rfl];simp only[Agg];rw[Py s w (by rw[AgC];exact hs)];rfl
 by_cases k5:k=5
 ·subst k5;simp[pl] at hp;obtain⟨rfl,rfl⟩:=hp;show GW true (F+1) (91::93::w)=_;rw[Ls (by decide) (by decide) (by decide)];rfl
 by_cases k6:k=6
 ·subst k6;simp[pl] at hp;obtain⟨rfl,rfl⟩:=hp;show GW true (F+1) (123::125::w)=_;rw[Ls (by decide) (by decide) (by decide)];rfl
 exfalso;simp[pl,k1,k2,k3,k4,k5,k6] at hp
theorem YE (m:Bool):C3 (Cu m)=false:=by cases m<;>decide
theorem Acb:∀n:Nat,(∀f:Fo,f.flat.length=n→f.one=true→f.wf false none=true→f.flat.any CA=false→∀(F:Nat) (w:Aj),2*n≤F→(∀x r,w=x::r→C3 x=false)→GW true F (f.txt true++w)=some (f,w))∧
  (∀(g:Fo) (m:Bool) (last:Option Aj),g.flat.length=n→g≠.nil→g.wf m last=true→g.flat.any CA=false→∀(F:Nat) (w:Aj),2*n+1≤F→Eb true F m last (g.txt true++Cu m::w)=some (g,w)):=by
 intro n
 induction n using Nat.strongRecOn with
 | ind n ih=>
  have hP:∀f:Fo,f.flat.length=n→f.one=true→f.wf false none=true→f.flat.any CA=false→∀(F:Nat) (w:Aj),2*n≤F→(∀x r,w=x::r→C3 x=false)→GW true F (f.txt true++w)=some (f,w):=by
   intro f hn h1 hw ho F w hF hd;have hl:=MR h1;obtain⟨F,rfl⟩:∃K,F=K+1:=⟨F-1,by omega⟩
   cases f with
   | nil=>cases h1
   | cell k c s=>cases k with
    | some _=>cases h1
    | none=>cases s with
     | nil=>
      simp only[Fo.wf,Agf,Agy] at hw;simp[Fo.flat,BZ] at ho;have e:(Fo.cell none c .nil).txt true=EC c:=by simp[Fo.txt,DZ,JG]
      rw[e];exact ZU hw.1.1.2 hw.1.2 ho hd
     | _=>cases h1
   | node k c kids s=>cases k with
    | some _=>cases h1
    | none=>cases s with
     | nil=>
      simp only[Fo.wf,Agf,AfY] at hw;obtain⟨⟨⟨⟨⟨w1,w2⟩,w3⟩,w5⟩,w6⟩,w4⟩:=hw;have hfl:(Fo.node none c kids .nil).flat=c::kids.flat:=by simp[Fo.flat,BZ]
      rw[hfl] at hn ho;simp only[Agd] at hn;simp only[List.any_cons,Ag7] at ho;have hne:kids≠.nil:=λe=>by subst e;simp[Fo.cnt] at w5;omega
      obtain⟨x,r,ex,hx⟩:=Zz w6 hne;obtain⟨ha,hi,hs⟩:=ON w2 w3;have e:(Fo.node none c kids .nil).txt true=UH c (kids.txt true):=by simp[Fo.txt,DZ,JG]
      have ih2:=(ih kids.flat.length (by omega)).2 kids (decide (c.fKind=6)) none rfl hne w6 ho.2 F w (by omega);have hnd:nd (decide (c.fKind=6)) kids = .node none c kids .nil:=by
       unfold nd;rw[Aga (by omega)]
       cases c with
       | mk a1 a2 a3 a4=>
        simp only at ha hi hs w5 ⊢;subst hi;subst hs;subst w5;rcases ha with rfl | rfl<;>rfl
      rw[e];unfold UH
      cases hm:decide (c.fKind=6) with
      | true=>
       rw[hm] at ih2 hnd;have e3:(bif true then 123::(kids.txt true++[125]) else 91::(kids.txt true++[93]))++w=(bif true then(123:UInt8) else 91)::(x::(r++125::w)):=by simp[ex]
       have ih3:Eb true F true none (x::(r++125::w))=some (kids,w):=by rw[ex] at ih2;exact ih2
       rw[e3,Vo,LD,Rw hx true,Agb,ih3];show some (nd true kids,w)=_;rw[hnd]
      | false=>
       rw[hm] at ih2 hnd;have e3:(bif false then 123::(kids.txt true++[125]) else 91::(kids.txt true++[93]))++w=(bif false then(123:UInt8) else 91)::(x::(r++93::w)):=by simp[ex]
       have ih3:Eb true F false none (x::(r++93::w))=some (kids,w):=by rw[ex] at ih2;exact ih2
       rw[e3,Vo,LD,Rw hx false,Agb,ih3];show some (nd false kids,w)=_;rw[hnd]
     | _=>cases h1
  refine⟨hP,?_⟩;intro g m last hn hne hw ho F w hF;rcases VO hw with h | ⟨k,f,r,rfl,h1,h2,h3,h4⟩
  ·exact absurd h hne
  obtain⟨F,rfl⟩:∃K,F=K+1:=⟨F-1,by omega⟩
  have hl:=MR h1;rw[GG h1,Age,Age] at hn;rw[S9 h1,Ag7] at ho;rw[Lr h1,DI];have e:(DZ true++(JG k++(f.txt true++r.txt false)))++Cu m::w=JG k++(f.txt true++(r.txt false++Cu m::w)):=by simp[DZ]
  rw[e,AaL h3];simp only;have hpar:∀v:Aj,(∀x y,v=x::y→C3 x=false)→GW true F (f.txt true++v)=some (f,v):=λv hv=>by
   rcases Nat.lt_or_ge f.flat.length n with hlt | hge
   ·exact(ih f.flat.length hlt).1 f rfl h1 h2 ho.1 F v (by omega) hv
   ·exact hP f (by omega) h1 h2 ho.1 F v (by omega) hv
  by_cases hr:r = .nil
  ·subst hr;rw[hpar _ (λx y e=>by simp[Fo.txt] at e;rw[← e.1];exact YE m)];simp[Fo.txt]
  ·rw[Zy h4 hr,AgL,hpar _ (λx y e=>by cases e;decide)];simp only;have hb:decide ((44:UInt8)=Cu m)=false:=by cases m<;>decide
   have:=(ih r.flat.length (by omega)).2 r m k rfl hr h4 ho.2 F w (by omega);rw[hb,this];rfl
theorem TI:∀F:Nat,(∀s f u,GW true F s=some (f,u)→f.flat.any CA=false→s=f.txt true++u)∧(∀m last s g u,Eb true F m last s=some (g,u)→g.flat.any CA=false→s=g.txt true++Cu m::u)
 | 0=>⟨(λs f u h=>by rw[GW.eq_def] at h;cases h),(λm last s g u h=>by rw[Eb.eq_def] at h;cases h)⟩
 | F+1=>by
  obtain⟨ih1,ih2⟩:=TI F;obtain⟨pl1,pl2⟩:=EY true F;constructor
  ·intro s f u h ho;rw[Ea] at h
   cases h1:pre [110,117,108,108] s with
   | some r=>rw[h1] at h;cases h;rw[DU h1];rfl
   | none=>
   rw[h1] at h;simp only at h
   cases h2:pre [116,114,117,101] s with
   | some r=>rw[h2] at h;cases h;rw[DU h2];rfl
   | none=>
   rw[h2] at h;simp only at h
   cases h3:pre [102,97,108,115,101] s with
   | some r=>rw[h3] at h;cases h;rw[DU h3];rfl
   | none=>
   rw[h3] at h;simp only at h
   cases s with
   | nil=>cases h
   | cons c r=>
    simp only at h
    cases h4:decide (c=34) with
    | true=>
     rw[h4] at h;simp only[Agg] at h
     cases h5:Ds true r with
     | none=>rw[h5] at h;cases h
     | some q=>
      obtain⟨t,u'⟩:=q;rw[h5] at h;cases h;rw[Agm h4,Rl _ r t _ rfl h5];simp[lf,Fo.txt,DZ,JG,EC,HO]
    | false=>
    rw[h4] at h;simp only[Agb] at h
    cases h5:(decide (c=91)||decide (c=123)) with
    | true=>
     rw[h5] at h;simp only[Agg] at h;have hopen:∀x:Aj,(c::x)=(bif decide (c=123) then(123:UInt8) else 91)::x:=λx=>by
      cases h6:decide (c=123) with
      | true=>rw[Agm h6];rfl
      | false=>rw[h6,Ag3] at h5;rw[Agm h5];rfl
     rw[hopen];generalize decide (c=123)=m at *
     cases r with
     | nil=>cases h
     | cons d r'=>
      simp only at h
      cases h6:decide (d=Cu m) with
      | true=>
       rw[h6] at h;cases h;rw[Agm h6]
       cases m<;>simp[nd,Fo.cnt,Fo.txt,DZ,JG,EC,Cu]
      | false=>
       rw[h6] at h;simp only[Agb] at h
       cases h7:Eb true F m none (d::r') with
       | none=>rw[h7] at h;cases h
       | some q=>
        obtain⟨g,u'⟩:=q;rw[h7] at h;cases h;have hc:=(pl2 _ _ _ _ _ h7).2;rw[Ly _ _ Ke,List.any_cons,Ag7] at ho;rw[ih2 _ _ _ _ _ h7 ho.2];unfold nd;rw[Aga (by omega)]
        cases m<;>simp[Fo.txt,DZ,JG,UH,Cu]
    | false=>
     rw[h5] at h;simp only[Agb] at h;obtain⟨n,rfl,hb⟩:=Yu h;have ho':CA ⟨3,n,[],0⟩=false:=by simpa[Fo.flat,BZ] using ho
     rw[hb ho'];simp[Fo.txt,DZ,JG,EC]
  ·intro m last s g u h ho;rw[DI] at h
   cases h1:Gp true m last s with
   | none=>rw[h1] at h;cases h
   | some q=>
    obtain⟨key,s1⟩:=q;rw[h1] at h;simp only at h
    cases h2:GW true F s1 with
    | none=>rw[h2] at h;cases h
    | some q=>
     obtain⟨f,s2⟩:=q;have hone:=(pl1 _ _ _ h2).2;rw[h2] at h;simp only at h
     cases s2 with
     | nil=>cases h
     | cons c s3=>
      simp only at h
      cases h3:decide (c=Cu m) with
      | true=>
       rw[h3] at h;cases h;rw[S9 hone,Ag7] at ho;rw[RJ h1,ih1 _ _ _ h2 ho.1,Lr hone,Agm h3];simp[DZ,Fo.txt]
      | false=>
       rw[h3] at h;simp only[Agb] at h
       cases h4:decide (c=44) with
       | false=>rw[h4] at h;cases h
       | true=>
        rw[h4] at h;simp only[Agg] at h
        cases h5:Eb true F m key s3 with
        | none=>rw[h5] at h;cases h
        | some q=>
         obtain⟨g',w⟩:=q;rw[h5] at h;cases h;have hc:=(pl2 _ _ _ _ _ h5).2;rw[S9 hone,Ag7] at ho;have e5:=ih2 _ _ _ _ _ h5 ho.2;have e6:g'.txt false=44::g'.txt true:=by
          cases g' with
          | nil=>simp[Fo.cnt] at hc
          | cell k c r=>simp[Fo.txt,DZ]
          | node k c kids r=>simp[Fo.txt,DZ]
         rw[RJ h1,ih1 _ _ _ h2 ho.1,Lr hone,Agm h4,e5,e6];simp[DZ]
open Go Go.RowKit
theorem Qp {f:Fo}(h:Iy f=0):f.flat.any CA=false∧f.flat.any RD=false∧f.flat.length≤200∧f.dep≤8∧(f.txt true).length≤4000:=by
 unfold Iy at h
 cases h1:f.flat.any CA with
 | true=>rw[h1] at h;cases h
 | false=>
  rw[h1] at h
  cases h2:(f.flat.any RD||(decide (200<f.flat.length)||(decide (8<f.dep)||decide (4000<(f.txt true).length)))) with
  | true=>rw[h2] at h;cases h
  | false=>
   simp only[Ag7,AfZ] at h2;exact⟨rfl,h2.1,by omega,by omega,by omega⟩
theorem AcU {f:Fo}(h1:f.one=true)(hw:f.wf false none=true)(he:Iy f=0):JA f.flat=0:=by
 unfold JA;rw[Pm h1 hw];exact he
theorem AdF {F:Nat}{s u:Aj}{f:Fo}(h:GW true F s=some (f,u)):f.wf false none=true:=by
 have:=((SC F).1 s).1;rw[h] at this
 cases h2:GW false F s with
 | none=>rw[h2] at this;cases this
 | some q=>
  obtain⟨g,w⟩:=q;rw[h2] at this;simp only at this
  cases hw:g.wf false none with
  | true=>rw[hw] at this;cases this;exact hw
  | false=>rw[hw] at this;cases this
theorem WT {v:List Ac}(h:(H3 v).2=0):NL (H3 v).1=some (v,0):=by
 unfold H3 at h ⊢
 cases hw:whole v with
 | none=>rw[hw] at h;cases h
 | some f=>
  rw[hw] at h;simp only at h
  cases he:decide (Iy f=0) with
  | false=>rw[he] at h;exact absurd h (AgR he)
  | true=>
   obtain⟨x1,x2,x3⟩:=Mh hw;obtain⟨h1,h2,h3,h4,h5⟩:=Qp (Agm he);have hp:=(Acb f.flat.length).1 f rfl x3 x2 h1 10000 [] (by omega) (λx r e=>by cases e);rw[AgP] at hp;simp only[he];show NL (f.txt true)=_;unfold NL;rw[Aga (by omega),Agb,hp];simp only;rw[he,x1];rfl
theorem AcY {s:Aj}{r:List Ac×Int}(h:NL s=some r)(h0:r.2=0):Le 4000 r.1∧H3 r.1=(s,0)∧JA r.1=0:=by
 unfold NL at h
 cases h4:decide (4000<s.length) with
 | true=>rw[h4] at h;cases h;cases h0
 | false=>
  rw[h4] at h;simp only[AfZ] at h4;simp only[Agb] at h
  cases hp:GW true 10000 s with
  | none=>rw[hp] at h;cases h;cases h0
  | some q=>
   obtain⟨f,w⟩:=q;rw[hp] at h
   cases w with
   | cons _ _=>cases h;cases h0
   | nil=>
    simp only[Option.some.injEq] at h;subst h
    cases he:decide (Iy f=0) with
    | false=>rw[he] at h0;exact absurd h0 (AgR he)
    | true=>
     have hf:=Agm he;have hw:=AdF hp;have hone:=((EY true 10000).1 _ _ _ hp).2;have hcells:=(N6 true 4000 10000).1 _ _ _ (by omega) hp;have hfl:=(Jp true 10000).1 _ _ _ hp;obtain⟨h1,h2,h3,_⟩:=Qp hf;have hb:=(TI 10000).1 _ _ _ hp h1;rw[AgP] at hb;refine⟨⟨by decide,by show f.flat.length≤4000;omega,λc hc=>?_⟩,?_,AcU hone hw hf⟩
     ·obtain⟨a,b,c'⟩:=hcells c hc;exact⟨a,b,by omega⟩
     ·show H3 f.flat=_;unfold H3;rw[Pm hone hw];simp only;rw[he,hb];rfl
theorem YB (s:Aj):∃r,NL s=some r:=by
 unfold NL
 cases decide (4000<s.length) with
 | true=>exact⟨_,rfl⟩
 | false=>
  simp only[Agb]
  split<;>exact⟨_,rfl⟩
section
variable {M : Nat} {v : List Ac}
end
theorem CI {α:Type}[Inhabited α]{l:List α}{i:Nat}(h:i<l.length):Al l (i:Int)=l[i]:=by simp[Al,h]
theorem NO {α:Type}(p:Bool)(a b:α):B0 p (some a) (some b)=some (bif p then a else b):=by cases p<;>rfl
theorem ER {α:Type}(a b:Option α):B0 true a b=a:=rfl
theorem Cq {α:Type}(a b:Option α):B0 false a b=b:=rfl
theorem NP {α:Type}(x:Option α):Bi true x=x:=rfl
theorem NJ (a:Bool):imp a true=true:=by cases a<;>rfl
theorem Bn {α β:Type}(a:α)(k:α→Option β):Bs (some a) k=k a:=rfl
def KR (g:Nat→Int):Nat→Nat→Int
 | _,0=>0
 | i,k+1=>bif decide (g i=0) then KR g (i+1) k else g i
theorem V2 {U:Type}{N:Nat}{g:Nat→Int}{body:Int→Option (Stp Int (Out Int U))}{u:U}(hb:∀i:Nat,i<N→body (i:Int)=B0 (!decide (g i=0)) (some (.out (.ret (g i)))) (some (.next ((i:Int)+1))))(he:body (N:Int)=some (.out (.go u))) :
  ∀(k n i:Nat),i+k=N→k<n→Bs (Cj body n (i:Int)) (BQ λ_=>some 0)=some (KR g i k):=by
 intro k
 induction k with
 | zero=>
  intro n i h hn;obtain⟨n,rfl⟩:∃m,n=m+1:=⟨n-1,by omega⟩
  obtain rfl:i=N:=by omega
  rw[Cj,he];rfl
 | succ k ih=>
  intro n i h hn;obtain⟨n,rfl⟩:∃m,n=m+1:=⟨n-1,by omega⟩
  rw[Cj,hb i (by omega),KR]
  cases hg:decide (g i=0) with
  | true=>
   have:=ih n (i+1) (by omega) (by omega);exact this
  | false=>rfl
theorem RR {g:Nat→Int}:∀{k i:Nat},KR g i k=0→∀j,i≤j→j<i+k→g j=0
 | 0,i,_,j,h1,h2=>by omega
 | k+1,i,h,j,h1,h2=>by
  rw[KR] at h
  cases hg:decide (g i=0) with
  | false=>
   rw[hg] at h;exact absurd h (AgR hg)
  | true=>
   rw[hg] at h;rcases Nat.eq_or_lt_of_le h1 with rfl | h3
   ·exact Agm hg
   ·exact RR (k:=k) (i:=i+1) h j h3 (by omega)
structure EfA (M:Nat) (x:As):Prop where
 v:Le M x.fValue
 k:x.fKey.length≤1000000000
structure VS (M:Nat) (c:AE):Prop where
 r:Le M c.fResult
 es:∀x∈c.fEffects,EfA M x
 ev:c.fEvent.length≤1000000000
 tn:c.fTenant.length≤1000000000
def Nf (n:Int):Bool:=decide (0≤n)&&decide (n≤1073741824)
def KE (k:Int):Bool:=decide (k=3)||(decide (k=4)||decide (k=5))
def AdP (x:As):Bool:=bif decide (x.fKind=3)||decide (x.fKind=4) then Hx x.fKey else Mw x.fKey
def opO (v:List Ac):Bool:=decide (1<(v.length:Int))&&(decide ((Al v 0).fKind=5)&&decide ((Al v 1).fKind=4))
def T5 (event:Aj)(i:Int)(x:As):Int:=
 bif decide (x.fKind=5)&&!opO x.fValue then 7 else
 bif (bif !decide (x.fKind=4) then !decide (x.fDelay=0)||!Nf x.fDelay else !Nf x.fDelay) then 2 else
 bif KE x.fKind then CC event i else 0
def Qn (event:Aj)(i:Int)(x:As):Int:=
 bif decide (x.fKind<1)||decide (5<x.fKind) then 7 else
 bif !AdP x then 4 else
 bif decide (x.fKind=2) then(bif decide (0<(x.fValue.length:Int)) then 7 else T5 event i x) else
 bif !decide (JA x.fValue=0) then JA x.fValue else T5 event i x
theorem On (n:Int):BP n=some (Nf n):=rfl
theorem MT (n:Int):Gz n=some (KE n):=rfl
theorem XS (x:As):SJ x=some (AdP x):=NO _ _ _
theorem QL (v:List Ac):CS v=some (opO v):=by
 unfold CS
 by_cases h:1<(v.length:Int)
 ·rw[QQ (by omega) (by omega),QQ (by omega) (by omega)];simp only[NJ,NP];rfl
 ·unfold opO;rw[Aga h];rfl
theorem Aaq {event:Aj}{i:Int}(x:As)(h1:Dv 1 event.length=true)(h2:Ch .i64 i=true) :
  (Bi (imp (decide (x.fKind=5)) ((CS x.fValue).isSome))<|B0 (((decide (x.fKind=5))&&(!(ov (CS x.fValue))))) (some 7) (Bi (imp (!decide (x.fKind=4)) (imp (!(!decide (x.fDelay=0))) ((BP x.fDelay).isSome)))<|Bi (imp (!(!decide (x.fKind=4))) ((BP x.fDelay).isSome))<|B0 ((bif !decide (x.fKind=4) then((!decide (x.fDelay=0))||(!(ov (BP x.fDelay)))) else !(ov (BP x.fDelay)))) (some 2) (Bs (Gz x.fKind) λha=>B0 (ha) (Bi (Dv 1 event.length)<|Bi (Ch .i64 i)<|some (CC event i)) (some 0))))=some (T5 event i x):=by
 simp only[QL,On,MT,Option.isSome_some,NJ,NP,JQ,Bn,h1,h2,NO];rfl
theorem Vx {M F:Nat}{event:Aj}{i:Int}{x:As}(hA:EfA M x)(hM:M≤2000000)(hF:M<F)(h1:event.length≤1000000000)(h2:Ch .i64 i=true):Lv F event x i=some (Qn event i x):=by
 unfold Lv;simp only[Aaq x (Agc (by omega):Dv 1 event.length=true) h2,XS,Bn,Lp hA.v hM hF,NO];rfl
def KU (c:AE):Int:=
 bif !(Mw c.fEvent)||!(Hx c.fTenant) then 4 else
 bif decide (c.fAttempt<1)||(decide (1073741824<c.fAttempt)||!Nf c.fAt) then 2 else
 bif !decide (JA c.fResult=0) then JA c.fResult else
 bif decide (32<(c.fEffects.length:Int)) then 3 else
 KR (λi=>Qn c.fEvent (i:Int) (Al c.fEffects (i:Int))) 0 c.fEffects.length
theorem R4 {M F:Nat}{c:AE}(hA:VS M c)(hM:M≤2000000)(hF:M<F)(hF0:32<F):NA F c=some (KU c):=by
 unfold NA KU;simp only[On,Option.isSome_some,NJ,NP,JQ,Lp hA.r hM hF,Bn]
 by_cases hl:32<(c.fEffects.length:Int)
 ·rw[Agc hl];simp only[ER,NO];rfl
 ·have:=V2 (N:=c.fEffects.length) (g:=λi=>Qn c.fEvent (i:Int) (Al c.fEffects (i:Int))) (body:=λσ=>G3 F c σ) (u:=()) (λi hi=>by
   unfold G3;rw[Bd (Agc (by omega)),Bp (by omega) (by omega),Vx (hA.es _ (by rw[CI hi];exact List.getElem_mem hi)) hM hF hA.ev (J3 (by omega) (by omega)),Bn,Ba (by omega) (by omega)]) (by unfold G3;rw[AP (Aga (by omega))]) c.fEffects.length F 0 (by omega) (by omega)
  rw[Aga hl];rw[show Bs (Cj (λσ=>G3 F c σ) F 0) (BQ λν=>Jt)=some (KR (λi=>Qn c.fEvent (i:Int) (Al c.fEffects (i:Int))) 0 c.fEffects.length) from this];simp only[Cq,NO]
def sB (b:BitVec 32):BitVec 32:=if b.getLsbD 0=true then(b>>>1)^^^3988292384#32 else b>>>1
def UR:Nat→BitVec 32→BitVec 32
 | 0,b=>b
 | n+1,b=>UR n (sB b)
theorem AdE (a b:BitVec 32):sB (a^^^b)=sB a^^^sB b:=by
 unfold sB;rw[BitVec.getLsbD_xor,BitVec.ushiftRight_xor_distrib]
 cases a.getLsbD 0<;>cases b.getLsbD 0
 ·simp
 ·simp[BitVec.xor_assoc]
 ·simp only[Bool.xor_false,AgU,Agv,AgM];rw[BitVec.xor_assoc,BitVec.xor_assoc,BitVec.xor_comm (b>>>1)]
 ·simp only[Bool.xor_self,Agv,AgM,AgU];rw[BitVec.xor_assoc,BitVec.xor_comm 3988292384#32,BitVec.xor_assoc,BitVec.xor_self,BitVec.xor_zero]
theorem Wm:∀(n:Nat) (a b:BitVec 32),UR n (a^^^b)=UR n a^^^UR n b
 | 0,_,_=>rfl
 | n+1,a,b=>by rw[UR,AdE,Wm n];rfl
theorem Rq:∀(n:Nat) (b:BitVec 32),(∀i,i<n→b.getLsbD i=false)→UR n b=b>>>n
 | 0,b,_=>by simp[UR]
 | n+1,b,h=>by
  have h0:sB b=b>>>1:=by unfold sB;rw[h 0 (by omega)];simp
  rw[UR,h0,Rq n (b>>>1) (λi hi=>by rw[BitVec.getLsbD_ushiftRight];exact h _ (by omega))];rw[← BitVec.shiftRight_add,Nat.add_comm]
theorem X9 (x:BitVec 32):UR 8 x=UR 8 (x&&& 255#32)^^^(x>>>8):=by
 have e:x=(x&&& 255#32)^^^(x&&& 4294967040#32):=by
  apply BitVec.eq_of_getLsbD_eq;intro i hi;rw[BitVec.getLsbD_xor,BitVec.getLsbD_and,BitVec.getLsbD_and];have hh:∀j:_root_.Fin 32,(4294967040#32).getLsbD j = !(255#32).getLsbD j:=by decide
  rw[hh ⟨i,hi⟩]
  cases x.getLsbD i<;>cases(255#32).getLsbD i<;>rfl
 have hz:∀i,i<8→(x&&& 4294967040#32).getLsbD i=false:=λi hi=>by
  rw[BitVec.getLsbD_and];have:(4294967040#32).getLsbD i=false:=by
   have hh:∀i:_root_.Fin 8,(4294967040#32).getLsbD i=false:=by decide
   exact hh ⟨i,hi⟩
  rw[this,Agz]
 have hs:(x&&& 4294967040#32)>>>8=x>>>8:=by
  apply BitVec.eq_of_getLsbD_eq;intro i hi;rw[BitVec.getLsbD_ushiftRight,BitVec.getLsbD_ushiftRight,BitVec.getLsbD_and]
  by_cases h:8+i<32
  ·have hh:∀j:_root_.Fin 24,(4294967040#32).getLsbD (8+j)=true:=by decide
   rw[hh ⟨i,by omega⟩,Ag1]
  ·rw[BitVec.getLsbD_of_ge x _ (by omega)];rfl
 conv=>lhs;rw[e]
 rw[Wm,Rq 8 _ hz,hs]
def bv (x:Int):BitVec 32:=BitVec.ofInt 32 x
def nv (b:BitVec 32):Int:=(b.toNat:Int)
def W32 (x:Int):Prop:=0≤x∧x<4294967296
theorem W32.nv (b:BitVec 32):W32 (nv b):=⟨by unfold Proofs.YtfobhhegpkinaaaGreatDoor.nv;omega,by have:=b.isLt;unfold Proofs.YtfobhhegpkinaaaGreatDoor.nv;omega⟩
theorem Adt {x:Int}(h:W32 x):nv (bv x)=x:=by
 unfold nv bv;have h1:=h.1;have h2:=h.2;rw[BitVec.toNat_ofInt];have:x % ((2 ^ 32:Nat):Int)=x:=Int.emod_eq_of_lt h1 (by simpa using h2);rw[this];omega
theorem UF (b:BitVec 32):bv (nv b)=b:=by
 apply BitVec.eq_of_toNat_eq;have h:=Adt (W32.nv b);unfold nv at h;exact Int.ofNat_inj.1 h
theorem Sm (b:BitVec 32):IntKind.wrap .u32 (b.toNat:Int)=nv b:=by
 have:=b.isLt;unfold nv;simp[IntKind.wrap,IntKind.signed,IntKind.bits];omega
theorem SR (x y:Int):H9 .u32 x y=nv (bv x^^^bv y):=Sm (bv x^^^bv y)
theorem AcN (x y:Int):QS .u32 x y=nv (bv x&&& bv y):=Sm (bv x&&& bv y)
theorem WH {n:Nat}(hn:n≤32)(b:BitVec 32):CL .u32 (nv b) (n:Int)=nv (b>>>n):=by
 unfold CL nv;have e:min (n:Int).toNat (IntKind.bits .u32)=n:=by
  have:IntKind.bits .u32=32:=rfl;rw[this];omega
 rw[e,BitVec.toNat_ushiftRight,Nat.shiftRight_eq_div_pow];rw[Int.fdiv_eq_ediv_of_nonneg _ (by exact Int.pow_nonneg (by omega))];simp
theorem AdU (b:BitVec 32):decide (QS .u32 (nv b) 1=1)=b.getLsbD 0:=by
 rw[AcN,UF];have e:bv 1=1#32:=by decide
 rw[e];have h:(b&&& 1#32).toNat=b.toNat % 2:=by
  rw[BitVec.toNat_and];exact Nat.and_one_is_mod _
 unfold nv;rw[h,BitVec.getLsbD,Nat.testBit_zero];rw[Agt];simp only[AfY];omega
theorem ZF (b:BitVec 32):(bif decide (QS .u32 (nv b) 1=1) then H9 .u32 (CL .u32 (nv b) 1) 3988292384 else CL .u32 (nv b) 1)=nv (sB b):=by
 have hs:CL .u32 (nv b) 1=nv (b>>>1):=WH (n:=1) (by omega) b;have e:bv 3988292384=3988292384#32:=by decide
 rw[AdU,hs,SR,UF,e];unfold sB
 cases b.getLsbD 0<;>rfl
def YM (n:Nat):Aj:=[UInt8.ofNat (n/16777216),UInt8.ofNat (n/65536),UInt8.ofNat (n/256),UInt8.ofNat n]
def GP:Aj→Nat
 | a::b::c::d::_=>((a.toNat*256+b.toNat)*256+c.toNat)*256+d.toNat
 | _=>0
def Ks (c:UInt8):BitVec 32:=BitVec.ofNat 32 c.toNat
def Abz (b:BitVec 32):Aj→BitVec 32
 | []=>b
 | c::s=>Abz (UR 8 (b^^^Ks c)) s
def QV (s:Aj):Nat:=(~~~ (Abz 4294967295#32 s)).toNat
theorem AcZ (s:Aj):QV s<4294967296:=(~~~ (Abz 4294967295#32 s)).isLt
def CP (b:Aj):Aj:=YM b.length++YM (QV b)++b
theorem Ef (b:Aj):(CP b).length=8+b.length:=by simp[CP,YM];omega
def D9 (s:Aj):Aj×Int×Int:=
 bif decide (s.length<8) then([],0,14)
 else bif decide (262136<GP s) then([],0,13)
 else bif decide (s.length-8<GP s) then([],0,14)
 else bif !decide (QV ((s.drop 8).take (GP s))=GP (s.drop 4)) then([],0,13)
 else((s.drop 8).take (GP s),((8+GP s:Nat):Int),0)
def Ct:Nat→Aj→List Aj×Nat
 | 0,_=>([],0)
 | n+1,s=>bif decide ((D9 s).2.2=0) then((D9 s).1::(Ct n (s.drop (D9 s).2.1.toNat)).1,(D9 s).2.1.toNat+(Ct n (s.drop (D9 s).2.1.toNat)).2) else([],0)
theorem TY {n:Nat}(h:n<4294967296)(r:Aj):GP (YM n++r)=n:=by
 show((((UInt8.ofNat (n/16777216)).toNat*256+(UInt8.ofNat (n/65536)).toNat)*256+(UInt8.ofNat (n/256)).toNat)*256+(UInt8.ofNat n).toNat)=n;simp only[UInt8.toNat_ofNat'];omega
theorem UI {s:Aj}(h:4≤s.length):YM (GP s)=s.take 4:=by
 match s,h with
 | a::b::c::d::r,_=>
  have ha:=a.toNat_lt;have hb:=b.toNat_lt;have hc:=c.toNat_lt;have hd:=d.toNat_lt;show YM (((a.toNat*256+b.toNat)*256+c.toNat)*256+d.toNat)=[a,b,c,d];unfold YM;have e:∀x y:UInt8,x.toNat=y.toNat→x=y:=λx y h=>UInt8.toNat_inj.1 h
  congr 1
  ·apply e;simp only[UInt8.toNat_ofNat'];omega
  ·congr 1
   ·apply e;simp only[UInt8.toNat_ofNat'];omega
   ·congr 1
    ·apply e;simp only[UInt8.toNat_ofNat'];omega
    ·congr 1
     apply e;simp only[UInt8.toNat_ofNat'];omega
theorem Ac3 (s:Aj):GP s<4294967296:=by
 match s with
 | a::b::c::d::r=>
  have ha:=a.toNat_lt;have hb:=b.toNat_lt;have hc:=c.toNat_lt;have hd:=d.toNat_lt;show((a.toNat*256+b.toNat)*256+c.toNat)*256+d.toNat<_;omega
 | []=>decide
 | [_]=>show 0<_;decide
 | [_,_]=>show 0<_;decide
 | [_,_,_]=>show 0<_;decide
theorem XK {b:Aj}(h:b.length≤262136)(r:Aj):D9 (CP b++r)=(b,((8+b.length:Nat):Int),0):=by
 have h1:GP (CP b++r)=b.length:=by
  unfold CP;rw[Ag8,Ag8];exact TY (by omega) _
 have h2:GP ((CP b++r).drop 4)=QV b:=by
  have:(CP b++r).drop 4=YM (QV b)++(b++r):=by unfold CP YM;simp
  rw[this];exact TY (AcZ b) _
 have h3:((CP b++r).drop 8).take b.length=b:=by
  have:(CP b++r).drop 8=b++r:=by unfold CP YM;simp
  rw[this];simp
 have hl:=Ef b;unfold D9;rw[h1,h2,h3,Age,hl];rw[Aga (by omega),Aga (by omega),Aga (by omega),Agc rfl];rfl
theorem PB {s:Aj}(h:(D9 s).2.2=0):(D9 s).1.length≤262136∧(D9 s).2.1=((8+(D9 s).1.length:Nat):Int)∧s=CP (D9 s).1++s.drop (8+(D9 s).1.length):=by
 unfold D9 at h ⊢
 cases h1:decide (s.length<8) with
 | true=>rw[h1] at h;cases h
 | false=>
  rw[h1] at h;simp only[Agb] at h ⊢
  cases h2:decide (262136<GP s) with
  | true=>rw[h2] at h;cases h
  | false=>
   rw[h2] at h;simp only[Agb] at h ⊢
   cases h3:decide (s.length-8<GP s) with
   | true=>rw[h3] at h;cases h
   | false=>
    rw[h3] at h;simp only[Agb] at h ⊢
    cases h4:decide (QV ((s.drop 8).take (GP s))=GP (s.drop 4)) with
    | false=>rw[h4] at h;cases h
    | true=>
     simp only[AfZ,AfY] at h1 h2 h3 h4;simp only[Agl,Agb];have hl:((s.drop 8).take (GP s)).length=GP s:=by simp;omega
     refine⟨by omega,by rw[hl],?_⟩;rw[hl];unfold CP;rw[hl,UI (by omega),h4,UI (by simp;omega)];rw[Ag8,Ag8,← List.drop_drop,AgN];rw[show s.drop 8=(s.drop 4).drop 4 from by rw[List.drop_drop],AgN,AgN]
theorem QT (l:List Aj):∀b∈l,8+b.length≤(l.flatMap CP).length:=by
 induction l with
 | nil=>intro b hb;cases hb
 | cons c l ih=>
  intro b hb;rw[AgV,Age,Ef];rcases List.mem_cons.1 hb with rfl | hb
  ·omega
  ·have:=ih b hb;omega
theorem TL:(D9 []).2.2=14:=rfl
theorem Of:∀(l:List Aj) (n:Nat),(∀b∈l,b.length≤262136)→l.length≤n→Ct n (l.flatMap CP)=(l,(l.flatMap CP).length)
 | [],0,_,_=>rfl
 | [],n+1,_,_=>by
  rw[Ct];show(bif decide ((D9 []).2.2=0) then _ else _)=_;rw[TL];rfl
 | b::l,0,_,h=>by simp at h
 | b::l,n+1,hb,h=>by
  simp only[Agd] at h;rw[Ct,AgV,XK (hb b (by simp))];have hd:(CP b++l.flatMap CP).drop (8+b.length)=l.flatMap CP:=by rw[← Ef b];simp
  simp only[decide_true,Agg];rw[show(((8+b.length:Nat):Int)).toNat=8+b.length from by omega,hd,Of l n (λx hx=>hb x (by simp[hx])) (by omega)];rw[Age,Ef]
theorem N0:∀(n:Nat) (s:Aj),(Ct n s).2≤s.length∧s.take (Ct n s).2=(Ct n s).1.flatMap CP∧∀b∈(Ct n s).1,b.length≤262136
 | 0,s=>⟨AgA _,by simp[Ct],λb hb=>by cases hb⟩
 | n+1,s=>by
  rw[Ct]
  cases h:decide ((D9 s).2.2=0) with
  | false=>exact⟨AgA _,by simp,λb hb=>by cases hb⟩
  | true=>
   simp only[Agg];obtain⟨h1,h2,h3⟩:=PB (Agm h);generalize(D9 s).1=b at *;rw[h2,show(((8+b.length:Nat):Int)).toNat=8+b.length from by omega];obtain⟨g1,g2,g3⟩:=N0 n (s.drop (8+b.length));generalize Ct n (s.drop (8+b.length))=t at *;have hl:s.length=8+b.length+(s.drop (8+b.length)).length:=by
    have:=congrArg List.length h3;rw[Age,Ef] at this;exact this
   refine⟨by omega,?_,λx hx=>?_⟩
   ·rw[AgV,← g2]
    conv=>lhs;rw[h3]
    rw[← Ef b,List.take_length_add_append]
   ·rcases List.mem_cons.1 hx with rfl | hx
    ·exact h1
    ·exact g3 x hx
def Ou (l:List Aj):Aj×Int:=bif decide ((l.flatMap CP).length≤262144) then(l.flatMap CP,0) else([],3)
theorem SE (s:Aj):QI (D8 s)=s:=by
 unfold QI D8;rw[AgX];have:((λx:Int=>UInt8.ofNat x.toNat) ∘ λc:UInt8=>(c.toNat:Int))=id:=by funext c;simp
 rw[this,List.map_id]
theorem Wf (a b:Aj):D8 a++D8 b=D8 (a++b):=by simp[D8]
theorem Vg (a:Aj):(D8 a).length=a.length:=by simp[D8]
theorem Pi (n:Nat):IntKind.wrap .u8 (n:Int)=((UInt8.ofNat n).toNat:Int):=by
 simp[IntKind.wrap,IntKind.signed,IntKind.bits]
theorem Af6 (n:Nat):CL .i64 (n:Int) 8=((n/256:Nat):Int):=by
 unfold CL;have e:min (8:Int).toNat (IntKind.bits .i64)=8:=by decide
 rw[e,Int.fdiv_eq_ediv_of_nonneg _ (by decide)];simp
def Qq (f:Aj):Aj:=UInt8.ofNat (f.length/256)::UInt8.ofNat (f.length % 256)::f
def Gw (l:List Aj):Aj:=UInt8.ofNat l.length::l.flatMap Qq
def TM (l:List Aj):Bool:=decide (l.length≤64)&&l.all λf=>decide (f.length≤4000)
def Oj (l:List Aj):Aj×Int:=bif TM l then(Gw l,0) else([],3)
theorem XJ (l:List Aj)(b:List Int×Int→Option (Stp (List Int×Int) (Out (Aj×Int) (List Int))))(hl:l.length≤64)
  (hb:∀(acc:List Int) (x:Int) (f:Aj),acc.length≤300000→0≤x→x<(l.length:Int)→Al l x=f→b (acc,x)=bif decide (4000<f.length) then some (.out (.ret ([],3))) else some (.next (acc++D8 (Qq f),x+1)))
  (he:∀acc,b (acc,(l.length:Int))=some (.out (.go acc))) {F:Nat} (hF:64<F) :
  Bs (Cj b F (D8 [UInt8.ofNat l.length],0)) (BQ λq=>some (QI q,0))=some (Oj l):=by
 have key:∀(k:Nat) (F:Nat) (acc:Aj),k<F→k≤l.length→acc.length≤1+(l.length-k)*4002→
   Bs (Cj b F (D8 acc,((l.length-k:Nat):Int))) (BQ λq=>some (QI q,0))=some (bif (l.drop (l.length-k)).all (λf=>decide (f.length≤4000)) then(acc++(l.drop (l.length-k)).flatMap Qq,0) else([],3)):=by
  intro k
  induction k with
  | zero=>
   intro F acc hF _ _
   cases F with
   | zero=>omega
   | succ F=>rw[Cj,Nat.sub_zero,he];simp[Bs,BQ,SE]
  | succ k ih=>
   intro F acc hF hk hacc
   cases F with
   | zero=>omega
   | succ F=>
    have hlt:l.length-(k+1)<l.length:=by omega
    have hat:Al l ((l.length-(k+1):Nat):Int)=l[l.length-(k+1)]:=by simp[Al,hlt]
    have hd:l.drop (l.length-(k+1))=l[l.length-(k+1)]::l.drop (l.length-k):=by
     rw[List.drop_eq_getElem_cons hlt];congr 2;omega
    have ha:(l.length-(k+1))*4002≤64*4002:=Nat.mul_le_mul_right _ (by omega);rw[Cj,hb _ _ _ (by rw[Vg];omega) (by omega) (by omega) hat,hd];generalize l[l.length-(k+1)]=f at *
    cases h4:decide (4000<f.length) with
    | true=>
     simp only[AfY] at h4;rw[AgG,Aga (by omega),Agx];rfl
    | false=>
     simp only[AfZ] at h4;have e2:(l.length-(k+1))*4002+4002=(l.length-k)*4002:=by
      rw[show l.length-k=l.length-(k+1)+1 from by omega,Nat.succ_mul]
     have:=ih F (acc++Qq f) (by omega) (by omega) (by simp[Qq];omega);rw[show((l.length-(k+1):Nat):Int)+1=((l.length-k:Nat):Int) from by omega];simp only[Agb,Wf];rw[this,AgG,Agc (by omega),Agp,AgV,Ag8]
 have:=key l.length F [UInt8.ofNat l.length] (by omega) (Agu _) (by simp);simp only[Nat.sub_self,List.drop_zero] at this;refine Eq.trans this ?_;unfold Oj TM Gw;rw[Agc hl,Agp];rfl
theorem Qy {α:Type}{n:Nat}{x:Option α}(h:n≤1000000000):Bi (Dv 1 n) x=x:=C1 (Agc (by omega))
theorem Sg {α:Type}{n:Nat}{x:Option α}(h:n≤1000000000):Bi (Dv 16 n) x=x:=C1 (Agc (by omega))
theorem UA (f:Aj):decide ((4000:Int)<(f.length:Int))=decide (4000<f.length):=by rw[Agt];simp;omega
theorem Abe {F:Nat}{l:List Aj}(hF:64<F):U0 F l=some (Oj l):=by
 unfold U0
 by_cases ha:l.length≤64
 ·rw[AP (Aga (by omega)),Pi];refine XJ l _ ha (λacc x f hacc h0 hx hat=>?_) (λacc=>?_) hF
  ·show H0 l acc x=_;unfold H0;rw[Bd (Agc hx),Bp h0 hx,hat,UA]
   cases h4:decide (4000<f.length) with
   | true=>rfl
   | false=>
    simp only[AfZ] at h4;have e1:([IntKind.wrap .u8 (CL .i64 (f.length:Int) 8),IntKind.wrap .u8 (f.length:Int)]:List Int)++D8 f=D8 (Qq f):=by
     rw[Af6,Pi,Pi];simp[D8,Qq]
    rw[AP rfl,Qy (by simp;omega),Qy (by simp;omega),Ba (by omega) (by omega),Ag8,e1];rfl
  ·show H0 l acc _=_;unfold H0;rw[AP (Aga (by omega))]
 ·rw[Bd (Agc (by omega))];unfold Oj TM;rw[Aga ha];rfl
def O5:Nat→Aj→List Aj→List Aj×Int
 | 0,s,acc=>bif decide (s=[]) then(acc,0) else([],13)
 | n+1,a::b::r,acc=>bif decide (4000<a.toNat*256+b.toNat) then([],13) else bif decide (r.length<a.toNat*256+b.toNat) then([],14) else O5 n (r.drop (a.toNat*256+b.toNat)) (acc++[r.take (a.toNat*256+b.toNat)])
 | n+1,_,acc=>([],14)
def K9:Aj→List Aj×Int
 | []=>([],14)
 | c::s=>bif decide (64<c.toNat) then([],13) else O5 c.toNat s []
theorem AfG (a b:UInt8):Ky .i64 (D2 .i64 (a.toNat:Int) 8) (b.toNat:Int)=((a.toNat*256+b.toNat:Nat):Int):=by
 have ha:=a.toNat_lt;have hb:=b.toNat_lt;have e0:D2 .i64 (a.toNat:Int) 8=((a.toNat*256:Nat):Int):=by
  unfold D2;have e:min (8:Int).toNat (IntKind.bits .i64)=8:=by decide
  rw[e,IntKind.wrap_i64];omega
 rw[e0];unfold Ky;have h1:(BitVec.ofInt (IntKind.bits .i64) ((a.toNat*256:Nat):Int)||| BitVec.ofInt (IntKind.bits .i64) (b.toNat:Int)).toNat=a.toNat*256+b.toNat:=by
  rw[BitVec.toNat_or,BitVec.toNat_ofInt,BitVec.toNat_ofInt];have hbits:IntKind.bits .i64=64:=rfl;rw[hbits];have e1:(((a.toNat*256:Nat):Int) % ((2 ^ 64:Nat):Int)).toNat=a.toNat*256:=by omega
  have e2:(((b.toNat:Nat):Int) % ((2 ^ 64:Nat):Int)).toNat=b.toNat:=by omega
  rw[e1,e2,show a.toNat*256=a.toNat <<< 8 from by rw[Nat.shiftLeft_eq]];rw[Nat.shiftLeft_add_eq_or_of_lt (by simpa using hb)]
 rw[h1,IntKind.wrap_i64];omega
theorem Afm (a:UInt8)(r:Aj):BD (a::r) 0=(a.toNat:Int):=rfl
theorem AfO (a b:UInt8)(r:Aj):BD (a::b::r) 1=(b.toNat:Int):=rfl
theorem Abc (s:Aj)(c:UInt8)(hs:BD s 0=(c.toNat:Int)):∀(k:Nat) (F:Nat) (t:Aj) (acc:List Aj) (z i:Int),k<F→i+k=(c.toNat:Int)→0≤i→acc.length≤64-k→k≤64→t.length≤1000000000→
  Bs (Cj (λσ=>Dc s σ.1 σ.2.1 σ.2.2.1 σ.2.2.2) F (t,acc,z,i)) (BQ λν=>Gq ν.1 ν.2)=some (O5 k t acc)
 | k,0,t,acc,z,i,h,_,_,_,_,_=>by omega
 | 0,F+1,t,acc,z,i,hF,hi,h0,ha,hk,ht=>by
  rw[Cj];have hb:Dc s t acc z i=some (.out (.go (t,acc))):=by
   unfold Dc;rw[AP (Aga (by omega))]
  simp only[hb];show Gq t acc=_;unfold Gq O5
  cases h:decide (t=[]) with
  | true=>rw[AP (p:=!true) rfl,CH (by omega) (AgD _)];simp
  | false=>rfl
 | k+1,F+1,t,acc,z,i,hF,hi,h0,ha,hk,ht=>by
  rw[Cj];have hcc:=c.toNat_lt
  match t,ht with
  | [],ht=>
   have hb:Dc s [] acc z i=some (.out (.ret ([],14))):=by
    unfold Dc;rw[Bd (Agc (by omega)),Bd (by decide)];rfl
   simp only[hb];rfl
  | [a],ht=>
   have hb:Dc s [a] acc z i=some (.out (.ret ([],14))):=by
    unfold Dc;rw[Bd (Agc (by omega)),Bd (by simp)];rfl
   simp only[hb];rfl
  | a::b::r,ht=>
   have haa:=a.toNat_lt;have hbb:=b.toNat_lt;simp only[Agd] at ht;have hd:List.drop (Int.toNat 2) (a::b::r)=r:=rfl;have hb:Dc s (a::b::r) acc z i=bif decide (4000<a.toNat*256+b.toNat) then some (.out (.ret ([],13))) else bif decide (r.length<a.toNat*256+b.toNat) then some (.out (.ret ([],14))) else some (.next (r.drop (a.toNat*256+b.toNat),acc++[r.take (a.toNat*256+b.toNat)],((a.toNat*256+b.toNat:Nat):Int),i+1)):=by
    unfold Dc;rw[Bd (Agc (by omega)),AP (Aga (by simp only[Agd];omega)),Afm,AfO,hd,AfG];have hlen:((a::b::r).length:Int)=(r.length:Int)+2:=by simp only[Agd];omega
    rw[hlen,Bp (by omega) (by omega),Ba (by omega) (by omega),Bp (by omega) (by omega),Ba (by omega) (by omega),CH (by omega) (by omega)];generalize a.toNat*256+b.toNat=m;rw[show decide ((4000:Int)<(m:Int))=decide (4000<m) from by rw[Agt];simp;omega,show decide ((r.length:Int)<(m:Int))=decide (r.length<m) from by rw[Agt];simp]
    cases h1:decide (4000<m) with
    | true=>rfl
    | false=>
     cases h2:decide (r.length<m) with
     | true=>rfl
     | false=>
      simp only[AfZ] at h1 h2;rw[AP rfl,AP rfl,CH (by omega) (by omega),Sg (by simp;omega),Ba (by omega) (by omega)];rfl
   simp only[hb];rw[O5]
   cases h1:decide (4000<a.toNat*256+b.toNat) with
   | true=>rfl
   | false=>
    cases h2:decide (r.length<a.toNat*256+b.toNat) with
    | true=>rfl
    | false=>
     simp only[Agb];exact Abc s c hs k F _ _ _ _ (by omega) (by omega) (by omega) (by simp;omega) (by omega) (by simp;omega)
theorem VC {F:Nat}{s:Aj}(hF:64<F)(hs:s.length≤1000000000):Nl F s=some (K9 s):=by
 unfold Nl
 cases s with
 | nil=>rfl
 | cons c t=>
  have hc:=c.toNat_lt;simp only[Agd] at hs;rw[AP (by simp),Bp (by omega) (by simp only[Agd];omega),Afm,Ba (by omega) (by omega),CH (by omega) (by simp only[Agd];omega)];rw[show decide ((64:Int)<(c.toNat:Int))=decide (64<c.toNat) from by rw[Agt];simp;omega];rw[K9]
  cases h:decide (64<c.toNat) with
  | true=>rfl
  | false=>
   simp only[AfZ] at h;rw[AP rfl];exact Abc (c::t) c rfl c.toNat F t [] 0 0 (by omega) (by omega) (AgD 0) (by simp) (by omega) (by omega)
theorem Ab8 {s:Aj}{k:Nat}{a:UInt8}{r:Aj}(h:s.drop k=a::r):BD s (k:Int)=(a.toNat:Int):=by
 have:s[k]? =some a:=by rw[← List.head?_drop,h];rfl
 simp[BD,this]
theorem Rg:∀(l:List Aj) (acc:List Aj),(l.all λf=>decide (f.length≤4000))=true→O5 l.length (l.flatMap Qq) acc=(acc++l,0)
 | [],acc,_=>by simp[O5]
 | f::l,acc,h=>by
  simp only[AgG,Agf,AfY] at h;rw[AgV,Agd];show O5 (l.length+1) (UInt8.ofNat (f.length/256)::UInt8.ofNat (f.length % 256)::(f++l.flatMap Qq)) acc=_;rw[O5];have e:(UInt8.ofNat (f.length/256)).toNat*256+(UInt8.ofNat (f.length % 256)).toNat=f.length:=by
   simp only[UInt8.toNat_ofNat'];omega
  rw[e,Aga (by omega),Aga (by simp),Agb,Agb,List.take_left,List.drop_left,Rg l _ (by simpa using h.2)];simp
theorem T3 {l:List Aj}(h:TM l=true):K9 (Gw l)=(l,0):=by
 unfold TM at h;simp only[Agf,AfY] at h;unfold Gw;rw[K9];have e:(UInt8.ofNat l.length).toNat=l.length:=by simp only[UInt8.toNat_ofNat'];omega
 rw[e,Aga (by omega),Agb,Rg l [] h.2];rfl
theorem T4:∀(n:Nat) (s:Aj) (acc:List Aj) (q:List Aj),O5 n s acc=(q,0)→∃l,q=acc++l∧l.length=n∧(l.all λf=>decide (f.length≤4000))=true∧l.flatMap Qq=s
 | 0,s,acc,q,h=>by
  rw[O5] at h
  cases hs:decide (s=[]) with
  | true=>rw[hs] at h;simp only[Agg,Prod.mk.injEq] at h;exact⟨[],by simp[h.1],rfl,rfl,by rw[Agm hs];rfl⟩
  | false=>rw[hs] at h;cases h
 | n+1,[],acc,q,h=>by have h2:(([]:List Aj),(14:Int))=(q,0):=h;cases h2
 | n+1,[a],acc,q,h=>by have h2:(([]:List Aj),(14:Int))=(q,0):=h;cases h2
 | n+1,a::b::r,acc,q,h=>by
  rw[O5] at h;have ha:=a.toNat_lt;have hb:=b.toNat_lt
  cases h1:decide (4000<a.toNat*256+b.toNat) with
  | true=>rw[h1] at h;cases h
  | false=>
   cases h2:decide (r.length<a.toNat*256+b.toNat) with
   | true=>rw[h1,h2] at h;cases h
   | false=>
    rw[h1,h2] at h;simp only[Agb] at h;simp only[AfZ] at h1 h2;obtain⟨l,e1,e2,e3,e4⟩:=T4 n _ _ _ h;have hl:(r.take (a.toNat*256+b.toNat)).length=a.toNat*256+b.toNat:=by simp;omega
    refine⟨r.take (a.toNat*256+b.toNat)::l,by rw[e1];simp,by simp[e2],?_,?_⟩
    ·rw[AgG,e3,Ag1,AfY,hl];omega
    ·rw[AgV,e4];unfold Qq;rw[hl];have x1:UInt8.ofNat ((a.toNat*256+b.toNat)/256)=a:=by
      apply UInt8.toNat_inj.1;simp only[UInt8.toNat_ofNat'];omega
     have x2:UInt8.ofNat ((a.toNat*256+b.toNat) % 256)=b:=by
      apply UInt8.toNat_inj.1;simp only[UInt8.toNat_ofNat'];omega
     rw[x1,x2];simp
theorem ZX {s:Aj}{l:List Aj}(h:K9 s=(l,0)):TM l=true∧Gw l=s:=by
 cases s with
 | nil=>cases h
 | cons c t=>
  rw[K9] at h
  cases h1:decide (64<c.toNat) with
  | true=>rw[h1] at h;cases h
  | false=>
   rw[h1] at h;simp only[Agb] at h;simp only[AfZ] at h1;obtain⟨l',e1,e2,e3,e4⟩:=T4 _ _ _ _ h;simp only[AgK] at e1;subst e1;unfold TM Gw;rw[e3,e4,e2,Agc (by omega)];exact⟨rfl,by simp⟩
theorem X1 {s:Aj}{f:Aj}(h:f∈(K9 s).1)(h0:(K9 s).2=0):f.length≤4000:=by
 have:=(ZX (s:=s) (l:=(K9 s).1) (by rw[← h0])).1;unfold TM at this;simp only[Agf,AfY,AgC] at this;exact this.2 f h
def tb (i:Nat):Int:=nv (UR 8 (BitVec.ofNat 32 i))
def Ku (x:Nat):List Int:=(List.range 256).map λi=>if i<x then tb i else 0
theorem KB (x:Nat):(Ku x).length=256:=by simp[Ku]
theorem Z2 {x:Nat}(h:x<256):(Ku x).set x (tb x)=Ku (x+1):=by
 apply List.ext_getElem (by simp[Ku]);intro i h1 h2;simp only[Ku,List.getElem_set,List.getElem_map,List.getElem_range]
 by_cases e:x=i
 ·subst e;simp
 ·rw[AgF e]
  by_cases g:i<x
  ·rw[AgT g,AgT (by omega)]
  ·rw[AgF g,AgF (by omega)]
theorem Ad9:Ku 0=List.replicate 256 (0:Int):=by
 apply List.ext_getElem
 ·rw[KB,List.length_replicate]
 ·intro i h1 h2;rw[List.getElem_replicate];simp only[Ku,List.getElem_map,List.getElem_range,Nat.not_lt_zero,AgM]
theorem Aeq {i:Nat}(h:i<256):Al (Ku 256) (i:Int)=tb i:=by simp[Al,Ku,h]
theorem AaT (k:Nat):∀(n:Nat) (b:BitVec 32) (x:Int),0≤x→x+k=8→k<n→Cj (λσ:Int×Int=>Hi σ.1 σ.2) n (nv b,x)=some (.go (nv (UR k b),8,false)):=by
 induction k with
 | zero=>
  intro n b x h0 h hn;obtain⟨n,rfl⟩:∃m,n=m+1:=⟨n-1,by omega⟩
  have:x=8:=by omega
  subst this;rfl
 | succ k ih=>
  intro n b x h0 h hn;obtain⟨n,rfl⟩:∃m,n=m+1:=⟨n-1,by omega⟩
  have hb:Hi (nv b) x=some (.next (nv (sB b),x+1)):=by
   unfold Hi;rw[Bd (Agc (by omega)),Ba (by omega) (by omega),ZF]
  rw[Cj,hb];exact ih n (sB b) (x+1) (by omega) (by omega) (by omega)
theorem Zp (n:Nat):IntKind.wrap .u32 (n:Int)=nv (BitVec.ofNat 32 n):=by
 unfold nv;rw[BitVec.toNat_ofNat];simp[IntKind.wrap,IntKind.signed,IntKind.bits]
theorem Ut {F:Nat}(hF:8<F)(k:Nat):∀(n:Nat) (x:Nat),x+k=256→k<n→Cj (λσ:Int×List Int=>Hj F σ.1 σ.2) n ((x:Int),Ku x)=some (.go (Ku 256)):=by
 induction k with
 | zero=>
  intro n x h hn;obtain⟨n,rfl⟩:∃m,n=m+1:=⟨n-1,by omega⟩
  have:x=256:=by omega
  subst this;rfl
 | succ k ih=>
  intro n x h hn;obtain⟨n,rfl⟩:∃m,n=m+1:=⟨n-1,by omega⟩
  have hb:Hj F (x:Int) (Ku x)=some (.next (((x+1:Nat):Int),Ku (x+1))):=by
   unfold Hj;rw[Bd (Agc (by omega)),Zp,Bw (AaT 8 F _ 0 (by omega) (by omega) hF),GH];unfold J6;rw[show nv (UR 8 (BitVec.ofNat 32 x))=tb x from rfl];rw[Bp (by omega) (by omega),Bp (by omega) (by rw[KB];omega),Ba (by omega) (by omega),Int.toNat_natCast,Z2 (by omega)];rfl
  rw[Cj,hb];exact ih n (x+1) (by omega) (by omega)
theorem Y0 {F:Nat}(hF:300<F):Qe F=some (Ku 256):=by
 unfold Qe;have:=Ut (F:=F) (by omega) 256 F 0 (by omega) (by omega);rw[Ad9] at this;rw[show((0:Int),List.replicate 256 (0:Int))=(((0:Nat):Int),List.replicate 256 (0:Int)) from rfl,Bw this,GH];unfold J7;rw[C1 (Agc (KB 256)),C1 (Agc List.length_replicate)]
theorem UL {α:Type}[Inhabited α]{l:List α}{i:Nat}{b:α}{r:List α}(h:l.drop i=b::r):Al l (i:Int)=b∧i<l.length∧l.drop (i+1)=r:=by
 have hl:i<l.length:=by
  have:=congrArg List.length h;simp only[AgJ,Agd] at this;omega
 have hg:l[i]? =some b:=by
  have:=congrArg (λt=>t[0]?) h;simpa using this
 refine⟨by simp[Al,hg],hl,?_⟩;rw[← List.drop_drop,h];rfl
theorem Ab3 (b:BitVec 32)(c:UInt8):H9 .u8 (IntKind.wrap .u8 (nv b)) (c.toNat:Int)=(((b^^^Ks c).toNat % 256:Nat):Int):=by
 have hc:=c.toNat_lt;have e1:IntKind.wrap .u8 (nv b)=((b.toNat % 256:Nat):Int):=by
  unfold nv;simp[IntKind.wrap,IntKind.signed,IntKind.bits]
 have h1:(BitVec.ofInt (IntKind.bits .u8) ((b.toNat % 256:Nat):Int)^^^BitVec.ofInt (IntKind.bits .u8) (c.toNat:Int)).toNat=(b^^^Ks c).toNat % 256:=by
  rw[BitVec.toNat_xor,BitVec.toNat_ofInt,BitVec.toNat_ofInt,BitVec.toNat_xor];have hbits:IntKind.bits .u8=8:=rfl;have e1:(((b.toNat % 256:Nat):Int) % ((2 ^ 8:Nat):Int)).toNat=b.toNat % 256:=by omega
  have e2:(((c.toNat:Nat):Int) % ((2 ^ 8:Nat):Int)).toNat=c.toNat % 256:=by omega
  have e3:(Ks c).toNat=c.toNat:=by unfold Ks;rw[BitVec.toNat_ofNat];omega
  rw[hbits,e1,e2,e3];exact(Nat.xor_mod_two_pow (n:=8)).symm
 unfold H9;rw[e1,h1];simp[IntKind.wrap,IntKind.signed,IntKind.bits]
theorem Ph (b:BitVec 32)(c:UInt8):(b^^^Ks c)>>>8=b>>>8:=by
 rw[BitVec.ushiftRight_xor_distrib];have:Ks c>>>8=0#32:=by
  apply BitVec.eq_of_toNat_eq;have hc:=c.toNat_lt;rw[BitVec.toNat_ushiftRight,Nat.shiftRight_eq_div_pow];unfold Ks;rw[BitVec.toNat_ofNat];show c.toNat % 4294967296/256=0;omega
 rw[this];simp
theorem Aa6 (z:BitVec 32):BitVec.ofNat 32 (z.toNat % 256)=z&&& 255#32:=by
 apply BitVec.eq_of_toNat_eq;have hz:=z.isLt;rw[BitVec.toNat_ofNat,BitVec.toNat_and];have:z.toNat&&& 255=z.toNat % 256:=Nat.and_two_pow_sub_one_eq_mod z.toNat 8;show z.toNat % 256 % 4294967296=z.toNat&&& 255;rw[this];omega
theorem Aby (b:BitVec 32)(c:UInt8):H9 .u32 (tb ((b^^^Ks c).toNat % 256)) (CL .u32 (nv b) 8)=nv (UR 8 (b^^^Ks c)):=by
 unfold tb;have hs:CL .u32 (nv b) 8=nv (b>>>8):=WH (n:=8) (by omega) b;rw[hs,SR,UF,UF,Aa6,← Ph b c,← X9]
theorem AdO (b:BitVec 32):Yx .u32 (nv b)=((~~~b).toNat:Int):=by
 show H9 .u32 4294967295 (nv b)=_;rw[SR,UF];have:bv 4294967295=BitVec.allOnes 32:=by decide
 rw[this,BitVec.allOnes_xor];rfl
theorem RO (s:Aj):∀(r:Aj) (n i:Nat) (b:BitVec 32),s.drop i=r→s.length≤1000000000→r.length<n→i≤s.length→Cj (λσ:Int×Int=>HR s (Ku 256) σ.1 σ.2) n (nv b,(i:Int))=some (.go (nv (Abz b r)))
 | [],n,i,b,h,hs,hn,hi=>by
  obtain⟨n,rfl⟩:∃m,n=m+1:=⟨n-1,by simp at hn;omega⟩
  have:s.length≤i:=by simpa using h
  have hb:HR s (Ku 256) (nv b) (i:Int)=some (.out (.go (nv b))):=by
   unfold HR;rw[AP (Aga (by omega))]
  rw[Cj,hb];rfl
 | c::r,n,i,b,h,hs,hn,hi=>by
  obtain⟨n,rfl⟩:∃m,n=m+1:=⟨n-1,by simp at hn;omega⟩
  obtain⟨_,hl,hd⟩:=UL h;have hbt:=Ab8 h;have hz:(b^^^Ks c).toNat % 256<256:=by omega
  have hb:HR s (Ku 256) (nv b) (i:Int)=some (.next (nv (UR 8 (b^^^Ks c)),((i+1:Nat):Int))):=by
   unfold HR;rw[Bd (Agc (by omega)),Bp (by omega) (by omega),hbt,Ab3,Bp (by omega) (by omega),Bp (by omega) (by rw[KB];omega),Ba (by omega) (by omega),Aeq hz,Aby];rfl
  rw[Cj,hb];exact RO s r n (i+1) _ hd hs (by simp at hn;omega) (by omega)
theorem WI {F:Nat}{s:Aj}(hF:300<F)(hs:s.length<F)(hl:s.length≤1000000000):Y1 F s=some (QV s:Int):=by
 unfold Y1;rw[Bw (Y0 hF),C1 (Agc List.length_replicate),C1 (Agc (KB 256))];rw[show((4294967295:Int),(0:Int))=(nv 4294967295#32,((0:Nat):Int)) from rfl,Bw (RO s s F 0 _ rfl hl hs (by omega))];show some (Yx .u32 (nv (Abz 4294967295#32 s)))=_;rw[AdO];rfl
theorem ZA (n k:Nat)(h:k≤32):CL .u32 (n:Int) (k:Int)=((n/2 ^ k:Nat):Int):=by
 unfold CL;have e:min (k:Int).toNat (IntKind.bits .u32)=k:=by
  have:IntKind.bits .u32=32:=rfl;rw[this];omega
 rw[e,Int.fdiv_eq_ediv_of_nonneg _ (Int.pow_nonneg (by omega))];simp
theorem Aba (n:Nat):([IntKind.wrap .u8 (CL .u32 (n:Int) 24),IntKind.wrap .u8 (CL .u32 (n:Int) 16),IntKind.wrap .u8 (CL .u32 (n:Int) 8),IntKind.wrap .u8 (n:Int)]:List Int)=D8 (YM n):=by
 have ha:CL .u32 (n:Int) 24=((n/16777216:Nat):Int):=ZA n 24 (by omega);have hb:CL .u32 (n:Int) 16=((n/65536:Nat):Int):=ZA n 16 (by omega);have h8:CL .u32 (n:Int) 8=((n/256:Nat):Int):=ZA n 8 (by omega);rw[ha,hb,h8,Pi,Pi,Pi,Pi];rfl
theorem Qk (n:Nat):LA (n:Int)=some (YM n):=by
 unfold LA;rw[Aba,SE]
theorem Lg {n:Nat}(h:n<4294967296):IntKind.wrap .u32 (n:Int)=(n:Int):=by
 rw[Zp];unfold nv;rw[BitVec.toNat_ofNat];omega
theorem Aed (x y:Int):Ky .u32 x y=nv (bv x||| bv y):=Sm (bv x||| bv y)
theorem SS {x y:Nat}(hx:x<4294967296)(hy:y<4294967296):Ky .u32 (x:Int) (y:Int)=((x||| y:Nat):Int):=by
 rw[Aed];unfold nv;rw[BitVec.toNat_or];have e:∀z:Nat,z<4294967296→(bv (z:Int)).toNat=z:=λz hz=>by
  have:=Adt (x:=(z:Int)) ⟨by omega,by omega⟩;unfold nv at this;exact Int.ofNat_inj.1 this
 rw[e x hx,e y hy]
theorem ZB {n k:Nat}(h:k≤32)(hn:n*2 ^ k<4294967296):D2 .u32 (n:Int) (k:Int)=((n <<< k:Nat):Int):=by
 unfold D2;have e:min (k:Int).toNat (IntKind.bits .u32)=k:=by
  have:IntKind.bits .u32=32:=rfl;rw[this];omega
 rw[e,Nat.shiftLeft_eq,show(n:Int)*2 ^ k=((n*2 ^ k:Nat):Int) from by simp,Lg hn]
theorem AdH {a b c d:Nat}(ha:a<256)(hb:b<256)(hc:c<256)(hd:d<256):((a <<< 24||| b <<< 16)||| c <<< 8)||| d=((a*256+b)*256+c)*256+d:=by
 have e1:a <<< 24||| b <<< 16=(a*256+b) <<< 16:=by
  rw[← Nat.shiftLeft_add_eq_or_of_lt (by rw[Nat.shiftLeft_eq];omega)];simp only[Nat.shiftLeft_eq];omega
 have e2:(a*256+b) <<< 16||| c <<< 8=((a*256+b)*256+c) <<< 8:=by
  rw[← Nat.shiftLeft_add_eq_or_of_lt (by rw[Nat.shiftLeft_eq];omega)];simp only[Nat.shiftLeft_eq];omega
 rw[e1,e2,← Nat.shiftLeft_add_eq_or_of_lt (by omega)];simp only[Nat.shiftLeft_eq]
theorem Qi {s:Aj}(h:4≤s.length):L9 s=some (GP s:Int):=by
 match s,h with
 | a::b::c::d::r,_=>
  have ha:=a.toNat_lt;have hb:=b.toNat_lt;have hc:=c.toNat_lt;have hd:=d.toNat_lt;unfold L9;rw[Bp (by omega) (by simp only[Agd];omega),Bp (by omega) (by simp only[Agd];omega),Bp (by omega) (by simp only[Agd];omega),Bp (by omega) (by simp only[Agd];omega)];have b0:BD (a::b::c::d::r) 0=(a.toNat:Int):=rfl;have b1:BD (a::b::c::d::r) 1=(b.toNat:Int):=rfl;have b2:BD (a::b::c::d::r) 2=(c.toNat:Int):=rfl;have b3:BD (a::b::c::d::r) 3=(d.toNat:Int):=rfl;have s1:D2 .u32 (a.toNat:Int) 24=((a.toNat <<< 24:Nat):Int):=ZB (k:=24) (by omega) (by omega);have s2:D2 .u32 (b.toNat:Int) 16=((b.toNat <<< 16:Nat):Int):=ZB (k:=16) (by omega) (by omega);have s3:D2 .u32 (c.toNat:Int) 8=((c.toNat <<< 8:Nat):Int):=ZB (k:=8) (by omega) (by omega);have l1:a.toNat <<< 24<4294967296:=by rw[Nat.shiftLeft_eq];omega
  have l2:b.toNat <<< 16<4294967296:=by rw[Nat.shiftLeft_eq];omega
  have l3:c.toNat <<< 8<4294967296:=by rw[Nat.shiftLeft_eq];omega
  rw[b0,b1,b2,b3,Lg (by omega),Lg (by omega),Lg (by omega),Lg (by omega),s1,s2,s3,SS l1 l2,SS (Nat.or_lt_two_pow (n:=32) l1 l2) l3,SS (Nat.or_lt_two_pow (n:=32) (Nat.or_lt_two_pow (n:=32) l1 l2) l3) (by omega),AdH ha hb hc hd];rfl
theorem IO (n:Nat):(YM n).length=4:=rfl
theorem Dn (s:Aj):(D8 s).length=s.length:=by simp[D8]
theorem Uz {F:Nat}(hF:262200<F)(b:Aj):Qh F b=some (bif decide (262136<b.length) then([],3) else(CP b,0)):=by
 unfold Qh
 cases h:decide (262136<b.length) with
 | true=>rw[Bd (Agc (by have:=Agm h;omega))];rfl
 | false=>
  have h':=AgR h;rw[AP (Aga (by omega)),Lg (by omega),Bw (Qk _),Bw (WI (by omega) (by omega) (by omega)),Bw (Qk _)];rw[Ba (by rw[IO,IO];omega) (by rw[IO,IO];omega),Ba (by rw[Age,IO,IO];omega) (by rw[Age,IO,IO];omega)];rfl
theorem Xt {n:Nat}(h:n<4294967296):IntKind.wrap .i64 (n:Int)=(n:Int):=by rw[IntKind.wrap_i64];omega
theorem Aeo (s:Aj)(n:Nat):List.take (Int.toNat (8+(n:Int))-Int.toNat 8) (List.drop (Int.toNat 8) s)=(s.drop 8).take n:=by
 rw[show Int.toNat (8+(n:Int))-Int.toNat 8=n from by omega];rfl
theorem Abf {F:Nat}(hF:262200<F){s:Aj}(hs:s.length≤1000000000):U1 F s=some (D9 s):=by
 unfold U1 D9
 cases h1:decide (s.length<8) with
 | true=>rw[Bd (Agc (by have:=Agm h1;omega))];rfl
 | false=>
  have h1':=AgR h1;have hn:=Ac3 s;rw[AP (Aga (by omega)),Bw (Qi (by omega)),Xt hn];simp only[Agb]
  cases h2:decide (262136<GP s) with
  | true=>rw[Bd (Agc (by have:=Agm h2;omega))];rfl
  | false=>
   have h2':=AgR h2;rw[AP (Aga (by omega)),Ba (by omega) (by omega)];simp only[Agb]
   cases h3:decide (s.length-8<GP s) with
   | true=>rw[Bd (Agc (by have:=Agm h3;omega))];rfl
   | false=>
    have h3':=AgR h3;rw[AP (Aga (by omega)),Ba (by omega) (by omega),CH (by omega) (by omega),CH (by omega) (by omega),Aeo];have hl:((s.drop 8).take (GP s)).length=GP s:=by simp;omega
    rw[Bw (WI (by omega) (by rw[hl];omega) (by rw[hl];omega)),CH (by omega) (by omega),Bw (Qi (by simp;omega))];simp only[Agb];rw[show decide (((QV ((s.drop 8).take (GP s)):Nat):Int)=((GP (List.drop (Int.toNat 4) s):Nat):Int))=decide (QV ((s.drop 8).take (GP s))=GP (s.drop 4)) from by rw[Agt];simp only[AfY];exact Int.ofNat_inj]
    cases decide (QV ((s.drop 8).take (GP s))=GP (s.drop 4)) with
    | true=>rfl
    | false=>rfl
theorem P0 {O:Type}(s:Aj)(b:List Aj×Int→Option (Stp (List Aj×Int) O))(e:List Aj→Int→O)
  (hb:∀(acc:List Aj) (x:Nat),x≤s.length→acc.length≤x→b (acc,(x:Int))=bif decide ((D9 (s.drop x)).2.2=0) then some (.next (acc++[(D9 (s.drop x)).1],(x:Int)+(D9 (s.drop x)).2.1)) else some (.out (e acc (x:Int)))) :
  ∀(n m:Nat) (acc:List Aj) (x:Nat),x≤s.length→acc.length≤x→s.length-x≤n→n<m→Cj b m (acc,(x:Int))=some (e (acc++(Ct n (s.drop x)).1) ((x+(Ct n (s.drop x)).2:Nat):Int))
 | n,0,acc,x,hx,ha,hn,hm=>by omega
 | n,m+1,acc,x,hx,ha,hn,hm=>by
  rw[Cj,hb acc x hx ha]
  cases h:decide ((D9 (s.drop x)).2.2=0) with
  | false=>
   have:Ct n (s.drop x)=([],0):=by
    cases n with
    | zero=>rfl
    | succ n=>rw[Ct,h];rfl
   rw[this];simp only[Agb,AgP,Nat.add_zero]
  | true=>
   obtain⟨h1,h2,h3⟩:=PB (Agm h);have hl:=congrArg List.length h3;rw[Age,Ef,AgJ] at hl
   cases n with
   | zero=>omega
   | succ n=>
    rw[Ct,h];simp only[Agg];rw[h2,show(((8+(D9 (s.drop x)).1.length:Nat):Int)).toNat=8+(D9 (s.drop x)).1.length from by omega,List.drop_drop];rw[show(x:Int)+((8+(D9 (s.drop x)).1.length:Nat):Int)=((x+(8+(D9 (s.drop x)).1.length):Nat):Int) from by omega];rw[P0 s b e hb n m _ (x+(8+(D9 (s.drop x)).1.length)) (by omega) (by rw[Age,AgE];omega) (by omega) (by omega)];rw[Ag8,Nat.add_assoc x];rfl
theorem Y5 {F:Nat}(hF:262200<F){s:Aj}(hs:s.length<F)(hl:s.length≤999999999):Qg F s=some ((Ct s.length s).1,((Ct s.length s).2:Int)):=by
 unfold Qg;have:=P0 s (λσ=>Hk F s σ.1 σ.2) (λa x=>.go (a,x)) (λacc x hx ha=>by
  show Hk F s acc (x:Int)=_;unfold Hk;rw[Int.toNat_natCast]
  by_cases hx2:x<s.length
  ·rw[Bd (Agc (by omega)),CH (by omega) (by omega),Bw (Abf hF (by simp;omega))]
   cases h:decide ((D9 (s.drop x)).2.2=0) with
   | false=>rfl
   | true=>
    obtain⟨h1,h2,h3⟩:=PB (Agm h);rw[AP (p:=!true) rfl,Sg (by simp;omega),Ba (by omega) (by omega)];rfl
  ·have:s.drop x=[]:=List.drop_eq_nil_of_le (by omega);rw[AP (Aga (by omega)),this,TL];rfl) s.length F [] 0 (by omega) (by simp) (by omega) hs
 rw[show(([]:List Aj),(0:Int))=([],((0:Nat):Int)) from rfl,Bw this,GH];unfold J9;rw[CH (by omega) (AgD _),Int.toNat_natCast,List.take_length,List.drop_zero,AgK,AgH]
theorem Qj {F:Nat}(hF:262200<F)(l:List Aj)(hl:l.length≤1000000000):∀(r:List Aj) (n i:Nat) (acc:Aj),l.drop i=r→i≤l.length→r.length<n→acc.length≤262144→
  Bs (Cj (λσ:List Int×Int=>GL F l σ.1 σ.2) n (D8 acc,(i:Int))) (BQ λν=>KT ν)=some (bif decide ((acc++r.flatMap CP).length≤262144) then(acc++r.flatMap CP,0) else([],3))
 | [],n,i,acc,h,hi,hn,ha=>by
  obtain⟨n,rfl⟩:∃m,n=m+1:=⟨n-1,by simp at hn;omega⟩
  have:l.length≤i:=by simpa using h
  have hb:GL F l (D8 acc) (i:Int)=some (.out (.go (D8 acc))):=by
   unfold GL;rw[AP (Aga (by omega))]
  rw[Cj,hb,List.flatMap_nil,AgP,Agc ha];show some (QI (D8 acc),0)=_;rw[SE];rfl
 | c::r,n,i,acc,h,hi,hn,ha=>by
  obtain⟨n,rfl⟩:∃m,n=m+1:=⟨n-1,by simp at hn;omega⟩
  obtain⟨hat,hlt,hd⟩:=UL h;have hs:=Ef c;have hlen:(acc++(c::r).flatMap CP).length=acc.length+(8+c.length)+(r.flatMap CP).length:=by
   rw[AgV,Age,Age,hs];omega
  have hb:GL F l (D8 acc) (i:Int)=bif decide (acc.length+(8+c.length)≤262144) then some (.next (D8 (acc++CP c),((i+1:Nat):Int))) else some (.out (.ret ([],3))):=by
   unfold GL;rw[Bd (Agc (by omega)),Bp (by omega) (by omega),hat]
   cases h1:decide (262136<c.length) with
   | true=>
    have hsl:Qh F c=some ([],3):=by rw[Uz hF c,h1];rfl
    rw[Bw hsl,Aga (p:=acc.length+(8+c.length)≤262144) (by have:=Agm h1;omega)];rfl
   | false=>
    have h1':=AgR h1;have hsl:Qh F c=some (CP c,0):=by rw[Uz hF c,h1];rfl
    have hk:Ch .i64 (((D8 acc).length:Int)+((CP c).length:Int))=true:=J3 (by rw[Dn,hs];omega) (by rw[Dn,hs];omega);rw[Bw hsl,C1 (by rw[hk];exact Aeb _)]
    cases h2:decide (acc.length+(8+c.length)≤262144) with
    | false=>
     have h2':=AgR h2;have hx:decide ((262144:Int)<((D8 acc).length:Int)+((CP c).length:Int))=true:=Agc (by rw[Dn,hs];omega);rw[Bd (by rw[hx,Ag9])];rfl
    | true=>
     have h2':=Agm h2;have hx:decide ((262144:Int)<((D8 acc).length:Int)+((CP c).length:Int))=false:=Aga (by rw[Dn,hs];omega);rw[AP (by rw[hx];rfl),Qy (by rw[Dn,hs];omega),Ba (by omega) (by omega),Wf];rfl
  rw[Cj,hb]
  cases h2:decide (acc.length+(8+c.length)≤262144) with
  | false=>
   have h2':=AgR h2;rw[Aga (p:=(acc++(c::r).flatMap CP).length≤262144) (by rw[hlen];omega)];rfl
  | true=>
   have h2':=Agm h2;have:=Qj hF l hl r n (i+1) (acc++CP c) hd (by omega) (by simp at hn;omega) (by rw[Age,hs];omega);simp only[Agg];rw[this,AgV,Ag8]
theorem Abg {F:Nat}(hF:262200<F){l:List Aj}(hl:l.length<F)(hb:l.length≤1000000000):U2 F l=some (Ou l):=by
 unfold U2;have:=Qj hF l hb l F 0 [] rfl (by omega) hl (by simp);rw[AgK] at this;exact this
def Gg {α β R:Type}(g:Nat→β→α→Out R β):Nat→β→List α→Out R β
 | _,acc,[]=>.go acc
 | i,acc,x::r=>match g i acc x with
  | .ret q=>.ret q
  | .go b=>Gg g (i+1) b r
def Acp {R β U:Type}(f:β→U):Out R β→Out R U
 | .ret q=>.ret q
 | .go b=>.go (f b)
def Ac1 {S R U β:Type}(mk:β→S):Out R β→Stp S (Out R U)
 | .ret q=>.out (.ret q)
 | .go b=>.next (mk b)
theorem Aa7 {α β R S U:Type}{l:List α}{mk:Nat→β→S}{body:S→Option (Stp S (Out R U))}{fin:β→U}(g:Nat→β→α→Out R β)(P:Nat→β→Prop)
  (hb:∀(i:Nat) (h:i<l.length) (acc:β),P i acc→body (mk i acc)=some (Ac1 (mk (i+1)) (g i acc l[i]))∧∀b,g i acc l[i] = .go b→P (i+1) b)
  (he:∀acc,P l.length acc→body (mk l.length acc)=some (.out (.go (fin acc)))) :
  ∀(d i n:Nat) (acc:β),i+d=l.length→d<n→P i acc→Cj body n (mk i acc)=some (Acp fin (Gg g i acc (l.drop i)))∧∀b,Gg g i acc (l.drop i) = .go b→P l.length b:=by
 intro d
 induction d with
 | zero=>
  intro i n acc h hn hP;obtain⟨n,rfl⟩:∃m,n=m+1:=⟨n-1,by omega⟩
  obtain rfl:i=l.length:=by omega
  rw[Cj,he _ hP,List.drop_length];exact⟨rfl,λb hb=>by cases hb;exact hP⟩
 | succ d ih=>
  intro i n acc h hn hP;obtain⟨n,rfl⟩:∃m,n=m+1:=⟨n-1,by omega⟩
  have hi:i<l.length:=by omega
  obtain⟨h1,h2⟩:=hb i hi acc hP;rw[Cj,h1,List.drop_eq_getElem_cons hi,Gg]
  cases hg:g i acc l[i] with
  | ret q=>exact⟨rfl,λb hb=>by cases hb⟩
  | go b=>exact ih (i+1) n b (by omega) (by omega) (h2 b hg)
theorem HP {α β R S U:Type}{l:List α}{mk:Nat→β→S}{body:S→Option (Stp S (Out R U))}{fin:β→U}(g:Nat→β→α→Out R β)(P:Nat→β→Prop)
  (hb:∀(i:Nat) (h:i<l.length) (acc:β),P i acc→body (mk i acc)=some (Ac1 (mk (i+1)) (g i acc l[i]))∧∀b,g i acc l[i] = .go b→P (i+1) b)
  (he:∀acc,P l.length acc→body (mk l.length acc)=some (.out (.go (fin acc)))) {F:Nat} (hF:l.length<F) {a:β} (hP:P 0 a) :
  Cj body F (mk 0 a)=some (Acp fin (Gg g 0 a l))∧∀b,Gg g 0 a l = .go b→P l.length b:=by
 have h:=Aa7 (fin:=fin) g P hb he l.length 0 F a (by omega) hF hP;rw[List.drop_zero] at h;exact h
theorem ML {α β R:Type}(f:α→β):∀(l:List α) (i:Nat) (a:List β),Gg (R:=R) (λ_ acc x=>.go (acc++[f x])) i a l = .go (a++l.map f)
 | [],i,a=>by simp[Gg]
 | x::l,i,a=>by
  show Gg (R:=R) (λ_ acc x=>.go (acc++[f x])) (i+1) (a++[f x]) l=_;rw[ML f l];simp
theorem S3 {α β R:Type}(ok:α→Bool)(f:α→β)(q:R):∀(l:List α) (i:Nat) (a:List β),Gg (λ_ acc x=>bif ok x then .go (acc++[f x]) else .ret q) i a l=bif l.all ok then .go (a++l.map f) else .ret q
 | [],i,a=>by simp[Gg]
 | x::l,i,a=>by
  rw[Gg,AgG]
  cases ok x with
  | false=>rfl
  | true=>simp only[Agg,Agp];rw[S3 ok f q l];simp
theorem KZ {p:Bool}{a b:Int}(h:(bif p then a else b)=0)(ha:a≠0):p=false∧b=0:=by
 cases p with
 | true=>exact absurd h ha
 | false=>exact⟨rfl,h⟩
theorem L3 {n:Int}(h:Nf n=true):0≤n∧n≤1073741824:=by
 unfold Nf at h;simpa using h
theorem Ri {ev:Aj}{i:Int}{x:As}(h:T5 ev i x=0):Nf x.fDelay=true∧(KE x.fKind=true→CC ev i=0):=by
 unfold T5 at h;obtain⟨_,h⟩:=KZ h (by decide);obtain⟨h1,h⟩:=KZ h (by decide);refine⟨?_,λho=>by rw[ho] at h;exact h⟩
 cases hk:decide (x.fKind=4) with
 | true=>rw[hk] at h1;simpa using h1
 | false=>rw[hk] at h1;simp at h1;exact h1.2
theorem Nn {ev:Aj}{i:Int}{x:As}(h:Qn ev i x=0):1≤x.fKind∧x.fKind≤5∧AdP x=true∧(x.fKind=2→x.fValue=[])∧(x.fKind≠2→JA x.fValue=0)∧Nf x.fDelay=true∧(KE x.fKind=true→CC ev i=0):=by
 unfold Qn at h;obtain⟨h1,h⟩:=KZ h (by decide);obtain⟨h2,h⟩:=KZ h (by decide);simp only[Ag7,AfZ,Bool.not_eq_false'] at h1 h2
 by_cases hk:x.fKind=2
 ·rw[Agc hk,Agg] at h;obtain⟨h3,h⟩:=KZ h (by decide);have ht:=Ri h;simp only[AfZ] at h3;exact⟨by omega,by omega,h2,λ_=>Ag0 (by omega),λh=>absurd hk h,ht⟩
 ·rw[Aga hk,Agb] at h
  by_cases hv:JA x.fValue=0
  ·rw[Agc hv,Agl,Agb] at h;exact⟨by omega,by omega,h2,λh=>absurd h hk,λ_=>hv,Ri h⟩
  ·rw[Aga hv] at h;exact absurd h hv
structure OkM (c:AE):Prop where
 id:Mw c.fEvent=true
 nm:Hx c.fTenant=true
 at1:1≤c.fAttempt
 at2:c.fAttempt≤1073741824
 now:Nf c.fAt=true
 res:JA c.fResult=0
 len:c.fEffects.length≤32
 ef:∀i:Nat,i<c.fEffects.length→Qn c.fEvent (i:Int) (Al c.fEffects (i:Int))=0
theorem No {c:AE}(h:KU c=0):OkM c:=by
 unfold KU at h;obtain⟨h1,h⟩:=KZ h (by decide);obtain⟨h2,h⟩:=KZ h (by decide);simp only[Ag7,AfZ,Bool.not_eq_false'] at h1 h2
 by_cases hv:JA c.fResult=0
 ·rw[Agc hv] at h;obtain⟨h3,h⟩:=KZ (show(bif decide (32<(c.fEffects.length:Int)) then 3 else KR (λi=>Qn c.fEvent (i:Int) (Al c.fEffects (i:Int))) 0 c.fEffects.length)=0 from h) (by decide);simp only[AfZ] at h3;exact⟨h1.1,h1.2,by omega,by omega,h2.2.2,hv,by omega,λi hi=>RR h i (by omega) (by omega)⟩
 ·rw[Aga hv] at h;exact absurd h hv
theorem OkM.eff {c:AE}(h:OkM c){x:As}(hx:x∈c.fEffects):∃i:Nat,i<c.fEffects.length∧Qn c.fEvent (i:Int) x=0:=by
 obtain⟨i,hi,rfl⟩:=List.getElem_of_mem hx;have:=h.ef i hi;rw[CI hi] at this;exact⟨i,hi,this⟩
theorem U7 (v:List Ac):(H3 v).2=JA v:=by
 unfold H3 JA
 cases whole v with
 | none=>rfl
 | some f=>
  simp only
  cases h:decide (Iy f=0) with
  | true=>simp only[AfY] at h;simp[h]
  | false=>rfl
theorem Yw {s:Aj}(h:Mw s=true):s.length≤64:=by
 unfold Mw at h;simp only[Agf,AfY] at h;exact h.2
abbrev Acf:Aj:=[99,111,109,109,105,116]
abbrev Af8:Aj:=[97,99,107]
def Uw (x:As):List Aj:=[Lib.itoa x.fKind,x.fKey,Lib.itoa x.fDelay,(H3 x.fValue).1]
def hdM (c:AE):List Aj:=[Acf,c.fEvent,c.fTenant,Lib.itoa c.fAttempt,Lib.itoa c.fAt,(H3 c.fResult).1]
def TE (c:AE):List (List Aj):=hdM c::c.fEffects.map Uw
def LZ (rs:List (List Aj)):Aj×Int:=bif rs.all TM then Ou (rs.map Gw) else([],3)
def KV (c:AE):Aj×Int:=bif decide (KU c=0) then LZ (TE c) else([],KU c)
def VQ (id:Aj):Aj×Int:=bif Mw id then LZ [[Af8,id]] else([],4)
theorem RK {l:List Aj}(h : ¬ (Ou l).2=0):Ou l=([],3):=by
 unfold Ou at h ⊢
 cases hd:decide ((l.flatMap CP).length≤262144) with
 | true=>rw[hd] at h;exact absurd rfl h
 | false=>rfl
theorem Acn {l:List Aj}(h:TM l=true):Oj l=(Gw l,0):=by unfold Oj;rw[h];rfl
theorem Aco {l:List Aj}(h:TM l=false):Oj l=([],3):=by unfold Oj;rw[h];rfl
theorem Gr {α:Type}{n:Nat}{x:Option α}(h:n≤1000000000):Bi (Dv 16 n) x=x:=C1 (Agc (by omega))
theorem Qx {α:Type}{n:Nat}{x:Option α}(h:n≤1000000000):Bi (Dv 24 n) x=x:=C1 (Agc (by omega))
theorem TV {F:Nat}(hF:270000<F){rs:List (List Aj)}(hl:rs.length≤1000):PI F rs=some (LZ rs):=by
 unfold PI LZ;have h:=(HP (l:=rs) (mk:=λi (acc:List Aj)=>(acc,(i:Int))) (fin:=id) (body:=λσ=>Hv F rs σ.1 σ.2) (λ_ acc x=>bif TM x then .go (acc++[Gw x]) else .ret (([]:Aj),(3:Int))) (λi acc=>acc.length=i) (λi hi acc hP=>by
   unfold Hv;simp only;rw[Bd (Agc (by omega)),Bp (by omega) (by omega),CI hi,Abe (by omega),Bn]
   cases ho:TM rs[i] with
   | false=>rw[Aco ho];exact⟨rfl,λb hb=>by cases hb⟩
   | true=>
    rw[Acn ho,AP (by rfl),Gr (by simp;omega),Ba (by omega) (by omega)];exact⟨rfl,λb hb=>by cases hb;simp[hP]⟩) (λacc hP=>by unfold Hv;simp only;rw[AP (Aga (by omega))];rfl) (F:=F) (by omega) (a:=[]) rfl).1
 show Bs (Cj (λσ=>Hv F rs σ.1 σ.2) F ([],((0:Nat):Int))) (BQ λν=>Im F ν)=_;rw[h,S3,Bn]
 cases ho:rs.all TM with
 | false=>rfl
 | true=>
  show Im F ([]++rs.map Gw)=_;rw[AgK];unfold Im;rw[Abg (by omega) (by rw[Agj];omega) (by rw[Agj];omega),Bn]
  by_cases hj:(Ou (rs.map Gw)).2=0
  ·rw[AP (by simp[hj])];exact congrArg some (Prod.ext rfl hj.symm)
  ·rw[Bd (by simp[hj])];exact congrArg some (RK hj).symm
theorem TT {M F:Nat}{v:List Ac}(hA:Le M v)(hM:M≤2000000)(hF:4*M+8<F):Om F v=some (H3 v).1:=by
 unfold Om;rw[Ve hA hM hF,Bn]
theorem PJ {M F:Nat}{c:AE}(hA:VS M c)(hM:M≤2000000)(hF:4*M+8<F)(hF0:270000<F):JW F c=some (KV c):=by
 unfold JW KV;rw[R4 hA hM (by omega) (by omega),Bn]
 by_cases he:KU c=0
 ·rw[AP (by simp[he]),Agc he];have ho:=No he;have b:=L3 ho.now;have hl:=ho.len;rw[Ba (by have:=ho.at1;omega) (by have:=ho.at2;omega),Ba (by omega) (by omega),TT hA.r hM hF,Bn];have h:=(HP (l:=c.fEffects) (mk:=λi (acc:List (List Aj))=>(acc,(i:Int))) (fin:=id) (body:=λσ=>Ev F c σ.1 σ.2) (λ_ acc x=>.go (acc++[Uw x])) (λi acc=>acc.length=i+1) (λi hi acc hP=>by
    unfold Ev;simp only;obtain⟨h1,h2,h3,h4,h5,h6,_⟩:=Nn (ho.ef i hi);have b:=L3 h6;rw[CI hi] at h1 h2 b;rw[Bd (Agc (by omega)),Bp (by omega) (by omega),CI hi,Ba (by omega) (by omega),Ba (by omega) (by omega),TT (hA.es _ (List.getElem_mem hi)).v hM hF,Bn,Qx (by simp;omega),Ba (by omega) (by omega)];exact⟨rfl,λb hb=>by cases hb;simp[hP]⟩) (λacc hP=>by unfold Ev;simp only;rw[AP (Aga (by omega))];rfl) (F:=F) (by omega) (a:=[hdM c]) rfl).1
  show Bs (Cj (λσ=>Ev F c σ.1 σ.2) F ([hdM c],((0:Nat):Int))) (BQ λν=>Gi F ν)=_;rw[h,ML,Bn];show Gi F (TE c)=_;unfold Gi;rw[TV hF0 (by simp[TE];omega),Bn];rfl
 ·rw[Bd (by simp[he]),Aga he];rfl
theorem LV {F:Nat}(hF:270000<F)(id:Aj):Gj F id=some (VQ id):=by
 unfold Gj VQ
 cases Mw id with
 | false=>rfl
 | true=>
  rw[AP (by rfl),TV hF (by simp),Bn];rfl
def I7 (s:Aj):List Ac×Int:=ov (NL s)
theorem Abu {s:Aj}{r:List Ac×Int}(h:NL s=some r):Le 4000 r.1:=by
 by_cases h0:r.2=0
 ·exact(AcY h h0).1
 ·have:r.1=[]:=by
   unfold NL at h
   cases h4:decide (4000<s.length) with
   | true=>rw[h4] at h;cases h;rfl
   | false=>
    rw[h4] at h;simp only[Agb] at h
    split at h
    ·rename_i f _
     cases he:decide (Iy f=0) with
     | true=>rw[he] at h;cases h;exact absurd rfl h0
     | false=>rw[he] at h;cases h;rfl
    ·cases h;rfl
  rw[this];exact⟨by decide,by simp,λc hc=>by cases hc⟩
theorem Sd (s:Aj):NL s=some (I7 s):=by
 obtain⟨r,hr⟩:=YB s;unfold I7;rw[hr,JQ]
theorem WW (s:Aj):Le 4000 (I7 s).1:=Abu (Sd s)
theorem Rf {F:Nat}(hF:20000≤F)(s:Aj):JI F s=some (I7 s):=by rw[T2 hF,Sd]
def ok6 (f:List Aj):Bool:=decide (BO (Al f 3)=0)&&(decide (BO (Al f 4)=0)&&decide ((I7 (Al f 5)).2=0))
def YZ (f:List Aj):Bool:=decide ((f.length:Int)=4)&&(decide (BO (Al f 0)=0)&&(decide (BO (Al f 2)=0)&&(decide (Al f 3=([]:Aj))||decide ((I7 (Al f 3)).2=0))))
def O4 (f:List Aj):As:=⟨Bx (Al f 0),Al f 1,bif decide (Al f 3=([]:Aj)) then[] else(I7 (Al f 3)).1,Bx (Al f 2)⟩
def hd6 (f:List Aj)(es:List As):AE:=⟨Al f 1,Al f 2,Bx (Al f 3),(I7 (Al f 5)).1,es,Bx (Al f 4)⟩
def YC:List (List Aj)→Bool
 | []=>true
 | h::r=>decide ((h.length:Int)=6)&&(ok6 h&&r.all YZ)
def zM:AE:=⟨[],[],0,[],[],0⟩
def Zt:List (List Aj)→AE
 | []=>zM
 | h::r=>hd6 h (r.map O4)
theorem Aem (h:List Aj)(r:List (List Aj)):YC (h::r)=(decide ((h.length:Int)=6)&&(ok6 h&&r.all YZ)):=rfl
theorem Ad6 (h:List Aj)(r:List (List Aj)):Zt (h::r)=hd6 h (r.map O4):=rfl
def YP (c:AE)(x:As):AE:=⟨c.fEvent,c.fTenant,c.fAttempt,c.fResult,c.fEffects++[x],c.fAt⟩
def gD:Nat→AE→List Aj→Out (AE×Bool) AE
 | 0,c,f=>bif decide ((f.length:Int)=6) then(bif ok6 f then .go (hd6 f c.fEffects) else .ret (hd6 f c.fEffects,false)) else .ret (c,false)
 | _+1,c,f=>bif YZ f then .go (YP c (O4 f)) else .ret (c,false)
theorem Afe (c:AE)(f:List Aj):gD 0 c f=bif decide ((f.length:Int)=6) then(bif ok6 f then .go (hd6 f c.fEffects) else .ret (hd6 f c.fEffects,false)) else .ret (c,false):=rfl
theorem Afd (i:Nat)(c:AE)(f:List Aj):gD (i+1) c f=bif YZ f then .go (YP c (O4 f)) else .ret (c,false):=rfl
def Yc (i:Nat)(c:AE):Int×Aj×Aj×Int×(List Ac)×(List As)×Int:=((i:Int),c.fEvent,c.fTenant,c.fAttempt,c.fResult,c.fEffects,c.fAt)
def SmR (l:List (List Aj)):Prop:=∀f∈l,∀s∈f,s.length≤4000
theorem Kg {l:List Aj}(h:∀f∈l,f.length≤4000)(i:Int):(Al l i).length≤4000:=by
 unfold Al
 cases hg:l[i.toNat]? with
 | none=>exact(by decide:([]:Aj).length≤4000)
 | some s=>rw[Ag5];exact h s (Agq hg)
theorem JB {α:Type}{n:Nat}{x:Option α}(h:n≤1000000000):Bi (Dv 1 n) x=x:=C1 (Agc (by omega))
theorem Qw {α:Type}{n:Nat}{x:Option α}(h:n≤1000000000):Bi (Dv 56 n) x=x:=C1 (Agc (by omega))
theorem U9 {F:Nat}(hF:20000≤F){l:List (List Aj)}(hs:SmR l)(hl:l.length≤100000000)(i:Nat)(hi:i<l.length)(c:AE)(hP:c.fEffects.length≤i) :
  Ex F l (Yc i c).1 (Yc i c).2.1 (Yc i c).2.2.1 (Yc i c).2.2.2.1 (Yc i c).2.2.2.2.1 (Yc i c).2.2.2.2.2.1 (Yc i c).2.2.2.2.2.2=some (Ac1 (Yc (i+1)) (gD i c l[i]))∧∀b,gD i c l[i] = .go b→b.fEffects.length≤i+1:=by
 have hm:=hs l[i] (List.getElem_mem hi);unfold Ex Yc;simp only;rw[Bd (Agc (by omega)),Bp (by omega) (by omega),CI hi];generalize hf:l[i]=f at hm
 cases i with
 | zero=>
  rw[Agc (show((0:Nat):Int)=0 from rfl),Agp,Afe]
  cases h6:decide ((f.length:Int)=6) with
  | false=>
   rw[Cq,Aga (show ¬ (0:Int)<((0:Nat):Int) from by omega),Agx,Cq];exact⟨rfl,λb hb=>by cases hb⟩
  | true=>
   have h6':=Agm h6;rw[ER,Bp (by omega) (by omega),Bp (by omega) (by omega),Bp (by omega) (by omega),JB (by have:=Kg hm 3;omega),Bp (by omega) (by omega),JB (by have:=Kg hm 4;omega),Bp (by omega) (by omega),Rf hF,Bn];have e:(((!decide ((BO (Al f 3))=0))||((!decide ((BO (Al f 4))=0))||(!decide ((I7 (Al f 5)).2=0))))) = !ok6 f:=by
    unfold ok6;cases decide (BO (Al f 3)=0)<;>cases decide (BO (Al f 4)=0)<;>rfl
   rw[e];unfold Ew;rw[Ba (by omega) (by omega)]
   cases ok6 f with
   | false=>exact⟨rfl,λb hb=>by cases hb⟩
   | true=>exact⟨rfl,λb hb=>by cases hb;show c.fEffects.length≤1;omega⟩
 | succ i=>
  rw[Aga (show ¬ ((i+1:Nat):Int)=0 from by omega),Agx,Cq,Agc (show(0:Int)<((i+1:Nat):Int) from by omega),Agp];rw[Afd];unfold YZ O4
  cases h4:decide ((f.length:Int)=4) with
  | false=>
   rw[Cq];exact⟨rfl,λb hb=>by cases hb⟩
  | true=>
   have h4':=Agm h4;rw[ER,Bp (by omega) (by omega),JB (by have:=Kg hm 0;omega)]
   cases p0:decide (BO (Al f 0)=0) with
   | false=>exact⟨rfl,λb hb=>by cases hb⟩
   | true=>
    rw[AP (by rfl),Bp (by omega) (by omega),Bp (by omega) (by omega),JB (by have:=Kg hm 2;omega)]
    cases p2:decide (BO (Al f 2)=0) with
    | false=>exact⟨rfl,λb hb=>by cases hb⟩
    | true=>
     rw[AP (by rfl),Bp (by omega) (by omega)];unfold Ew;have hb1:∀x,(YP c x).fEffects.length≤i+1+1:=λx=>by show(c.fEffects++[x]).length≤_;rw[Age];simp;omega
     cases p3:decide (Al f 3=([]:Aj)) with
     | true=>
      rw[AP (by rfl),Qw (by simp;omega),Ba (by omega) (by omega)];exact⟨rfl,λb hb=>by cases hb;exact hb1 _⟩
     | false=>
      rw[Bd (by rfl),Rf hF,Bn,Qw (by simp;omega),Ba (by omega) (by omega)]
      cases decide ((I7 (Al f 3)).2=0) with
      | false=>exact⟨rfl,λb hb=>by cases hb⟩
      | true=>exact⟨rfl,λb hb=>by cases hb;exact hb1 _⟩
theorem Zu {f:List Aj}(h:∀s∈f,s.length≤4000):EfA 4000 (O4 f):=by
 refine⟨?_,by have:=Kg h 1;show(Al f 1).length≤_;omega⟩;show Le 4000 (bif decide (Al f 3=([]:Aj)) then[] else(I7 (Al f 3)).1)
 cases decide (Al f 3=([]:Aj)) with
 | true=>exact⟨by decide,by simp,λc hc=>by cases hc⟩
 | false=>exact WW _
theorem AaS {f:List Aj}(h:∀s∈f,s.length≤4000){es:List As}(he:∀x∈es,EfA 4000 x):VS 4000 (hd6 f es):=
 ⟨WW _,he,by have:=Kg h 1;show(Al f 1).length≤_;omega,by have:=Kg h 2;show(Al f 2).length≤_;omega⟩
theorem Ae8:VS 4000 zM:=⟨⟨by decide,by decide,λc hc=>by cases hc⟩,λx hx=>(by cases hx),by decide,by decide⟩
theorem Aes {c:AE}(h:VS 4000 c){x:As}(hx:EfA 4000 x):VS 4000 (YP c x):=
 ⟨h.r,λy hy=>by
  rcases List.mem_append.1 hy with hy | hy
  ·exact h.es y hy
  ·obtain rfl:=List.mem_singleton.1 hy;exact hx,h.ev,h.tn⟩
theorem Rs:∀(r:List (List Aj)) (i:Nat) (c:AE),SmR r→VS 4000 c→
  (r.all YZ=true→Gg gD (i+1) c r = .go ⟨c.fEvent,c.fTenant,c.fAttempt,c.fResult,c.fEffects++r.map O4,c.fAt⟩)∧(r.all YZ=false→∃q,Gg gD (i+1) c r = .ret (q,false)∧VS 4000 q)
 | [],i,c,_,hc=>⟨λ_=>by rw[Gg];simp,λh=>by cases h⟩
 | f::r,i,c,hs,hc=>by
  have hf:=hs f (by simp);have hr:SmR r:=λg hg=>hs g (by simp[hg]);rw[Gg,AgG,Afd]
  cases ho:YZ f with
  | false=>exact⟨λh=>(by cases h),λ_=>⟨c,rfl,hc⟩⟩
  | true=>
   simp only[Agg,Agp];obtain⟨h1,h2⟩:=Rs r (i+1) (YP c (O4 f)) hr (Aes hc (Zu hf));refine⟨λh=>?_,h2⟩;rw[h1 h];simp[YP]
theorem Vy {F:Nat}(hF:20000≤F){l:List (List Aj)}(hs:SmR l)(hl:l.length≤100000000)(hlF:l.length<F):∃c,MV F l=some (c,YC l)∧VS 4000 c∧(YC l=true→c=Zt l):=by
 have h:=(HP (l:=l) (mk:=Yc) (fin:=λc=>(Yc 0 c).2) (body:=λσ=>Ex F l σ.1 σ.2.1 σ.2.2.1 σ.2.2.2.1 σ.2.2.2.2.1 σ.2.2.2.2.2.1 σ.2.2.2.2.2.2) gD (λi c=>c.fEffects.length≤i) (λi hi c hP=>U9 hF hs hl i hi c hP) (λc hP=>by
  unfold Ex Yc;simp only;rw[AP (Aga (by omega))]) hlF (a:=zM) (by decide)).1
 have hd:MV F l=Bs (some (Acp (λc=>(Yc 0 c).2) (Gg gD 0 zM l))) (BQ λν=>Ip ν.1 ν.2.1 ν.2.2.1 ν.2.2.2.1 ν.2.2.2.2.1 ν.2.2.2.2.2):=by
  rw[← h];rfl
 rw[hd,Bn]
 cases l with
 | nil=>exact⟨zM,rfl,Ae8,λ_=>rfl⟩
 | cons f r=>
  have hf:=hs f (by simp);have hr:SmR r:=λg hg=>hs g (by simp[hg]);rw[Gg,Afe,Aem,Ad6]
  cases h6:decide ((f.length:Int)=6) with
  | false=>exact⟨zM,rfl,Ae8,λh=>by cases h⟩
  | true=>
   cases ho:ok6 f with
   | false=>exact⟨hd6 f [],rfl,AaS hf (λx hx=>by cases hx),λh=>by cases h⟩
   | true=>
    obtain⟨h1,h2⟩:=Rs r 0 (hd6 f zM.fEffects) hr (AaS hf (λx hx=>by cases hx))
    cases ha:r.all YZ with
    | true=>
     simp only[Agg];rw[h1 ha];refine⟨hd6 f (r.map O4),rfl,AaS hf (λx hx=>?_),λ_=>rfl⟩;obtain⟨g,hg,rfl⟩:=List.mem_map.1 hx;exact Zu (hr g hg)
    | false=>
     obtain⟨q,h3,h4⟩:=h2 ha;simp only[Agg];rw[h3];exact⟨q,rfl,h4,λh=>by cases h⟩
def Oh (bs:List Aj):List (List Aj):=bs.map λb=>(K9 b).1
def YO (bs:List Aj):Bool:=bs.all λb=>decide ((K9 b).2=0)
def AaC (rc:Aj)(l:List (List Aj)):Option (Sum Aj AE):=
 bif decide ((l.length:Int)=1)&&decide (((Al l 0).length:Int)=2) then(bif decide (VQ (Al (Al l 0) 1)=(rc,0)) then some (.inl (Al (Al l 0) 1)) else none)
 else(bif YC l&&decide (KV (Zt l)=(rc,0)) then some (.inr (Zt l)) else none)
def Oq (rc:Aj):Option (Sum Aj AE):=bif YO (Ct rc.length rc).1 then AaC rc (Oh (Ct rc.length rc).1) else none
theorem Vh (s:Aj):(Ct s.length s).1.length≤s.length:=by
 have h:=N0 s.length s;have h2:=congrArg List.length h.2.1;rw[AgQ] at h2;have h3:(Ct s.length s).1.length≤((Ct s.length s).1.flatMap CP).length:=by
  generalize(Ct s.length s).1=l
  induction l with
  | nil=>simp
  | cons a l ih=>simp only[AgV,Age,Agd,Ef];omega
 omega
theorem ZE {bs:List Aj}(h:YO bs=true):SmR (Oh bs):=by
 intro f hf s hs;obtain⟨b,hb,rfl⟩:=List.mem_map.1 hf;exact X1 hs (Agm (List.all_eq_true.1 h b hb))
theorem SU (l:List Aj):l.length≤(l.flatMap CP).length:=by
 induction l with
 | nil=>simp
 | cons a l ih=>simp only[AgV,Age,Agd,Ef];omega
theorem Yr {rs:List (List Aj)}{rc:Aj}(h:LZ rs=(rc,0)):Ct rc.length rc=(rs.map Gw,rc.length)∧Oh (rs.map Gw)=rs∧YO (rs.map Gw)=true∧rc.length≤262144:=by
 unfold LZ at h
 cases ha:rs.all TM with
 | false=>rw[ha] at h;cases h
 | true=>
  rw[ha] at h;simp only[Agg] at h;unfold Ou at h
  cases hj:decide (((rs.map Gw).flatMap CP).length≤262144) with
  | false=>rw[hj] at h;cases h
  | true=>
   rw[hj] at h;simp only[Agg] at h;obtain rfl:(rs.map Gw).flatMap CP=rc:=congrArg Prod.fst h;have hlim:=Agm hj;have hb:∀b∈rs.map Gw,b.length≤262136:=λb hb=>by have:=QT _ b hb;omega
   refine⟨Of _ _ hb (SU _),?_,?_,hlim⟩
   ·unfold Oh;rw[AgX]
    conv=>rhs;rw[← List.map_id rs]
    exact List.map_congr_left λr hr=>by show(K9 (Gw r)).1=r;rw[T3 (List.all_eq_true.1 ha r hr)]
   ·unfold YO;rw[List.all_map,AgC];intro r hr;show decide ((K9 (Gw r)).2=0)=true;rw[T3 (List.all_eq_true.1 ha r hr)];rfl
theorem Abi {c:AE}{rc:Aj}(h:KV c=(rc,0)):KU c=0∧LZ (TE c)=(rc,0):=by
 unfold KV at h
 by_cases he:KU c=0
 ·rw[Agc he] at h;exact⟨he,h⟩
 ·rw[Aga he] at h;exact absurd (congrArg Prod.snd h) he
theorem Abw:I7 []=([],1):=by decide
theorem Rb {ev:Aj}{i:Int}{x:As}(h:Qn ev i x=0):YZ (Uw x)=true∧O4 (Uw x)=x:=by
 obtain⟨h1,h2,h3,h4,h5,h6,_⟩:=Nn h;obtain⟨b1,b2⟩:=L3 h6;obtain⟨p1,p2⟩:=J1 (m:=x.fKind) (by omega) (by omega);obtain⟨p3,p4⟩:=J1 (m:=x.fDelay) (by omega) (by omega);have hv:(bif decide ((H3 x.fValue).1=([]:Aj)) then[] else(I7 (H3 x.fValue).1).1)=x.fValue∧(decide ((H3 x.fValue).1=([]:Aj))||decide ((I7 (H3 x.fValue).1).2=0))=true:=by
  by_cases hk:x.fKind=2
  ·rw[h4 hk];decide
  ·have he:=h5 hk;have hq:I7 (H3 x.fValue).1=(x.fValue,0):=by
    unfold I7;rw[WT (by rw[U7];exact he),JQ]
   rw[hq]
   by_cases hn:(H3 x.fValue).1=[]
   ·rw[hn,Abw] at hq;exact absurd (show(1:Int)=0 from congrArg Prod.snd hq) (by decide)
   ·rw[Aga hn];exact⟨rfl,rfl⟩
 refine⟨?_,?_⟩
 ·show(decide (((4:Nat):Int)=4)&&(decide (BO (Lib.itoa x.fKind)=0)&&(decide (BO (Lib.itoa x.fDelay)=0)&&(decide ((H3 x.fValue).1=([]:Aj))||decide ((I7 (H3 x.fValue).1).2=0)))))=true;rw[p1,p3,hv.2];rfl
 ·show As.mk (Bx (Lib.itoa x.fKind)) x.fKey (bif decide ((H3 x.fValue).1=([]:Aj)) then[] else(I7 (H3 x.fValue).1).1) (Bx (Lib.itoa x.fDelay))=x;rw[p2,p4,hv.1]
theorem Abq {c:AE}(h:OkM c):YC (TE c)=true∧Zt (TE c)=c:=by
 obtain⟨b1,b2⟩:=L3 h.now;obtain⟨p1,p2⟩:=J1 (m:=c.fAttempt) (by have:=h.at1;omega) (by have:=h.at2;omega);obtain⟨p3,p4⟩:=J1 (m:=c.fAt) (by omega) (by omega);have hq:I7 (H3 c.fResult).1=(c.fResult,0):=by
  unfold I7;rw[WT (by rw[U7];exact h.res),JQ]
 have ha:(c.fEffects.map Uw).all YZ=true:=by
  rw[List.all_map,AgC];intro x hx;obtain⟨i,_,hi⟩:=h.eff hx;exact(Rb hi).1
 have hm:(c.fEffects.map Uw).map O4=c.fEffects:=by
  rw[AgX]
  conv=>rhs;rw[← List.map_id c.fEffects]
  exact List.map_congr_left λx hx=>by
   obtain⟨i,_,hi⟩:=h.eff hx;exact(Rb hi).2
 refine⟨?_,?_⟩
 ·show(decide (((6:Nat):Int)=6)&&((decide (BO (Lib.itoa c.fAttempt)=0)&&(decide (BO (Lib.itoa c.fAt)=0)&&decide ((I7 (H3 c.fResult).1).2=0)))&&(c.fEffects.map Uw).all YZ))=true;rw[p1,p3,hq,ha];rfl
 ·show AE.mk c.fEvent c.fTenant (Bx (Lib.itoa c.fAttempt)) (I7 (H3 c.fResult).1).1 ((c.fEffects.map Uw).map O4) (Bx (Lib.itoa c.fAt))=c;rw[p2,p4,hq,hm]
theorem AaB {c:AE}{rc:Aj}(h:KV c=(rc,0)):Oq rc=some (.inr c):=by
 obtain⟨h1,h2⟩:=Abi h;obtain⟨h3,h4,h5,_⟩:=Yr h2;obtain⟨d1,d2⟩:=Abq (No h1);unfold Oq;rw[h3];simp only;rw[h4,h5,Agg];unfold AaC;have hl:(decide (((Al (TE c) 0).length:Int)=2))=false:=rfl;rw[hl,Agz,Agb,d1,d2,Agc h];rfl
theorem AaA:Oq []=none:=by decide
def Af7 {α β:Type}(none_:β)(ack:Aj→β)(com:AE→β):Option (Sum Aj AE)→β
 | none=>none_
 | some (.inl id)=>ack id
 | some (.inr c)=>com c
theorem XA (bs:List Aj):(Oh bs).length=bs.length:=by simp[Oh]
theorem P2:∀a:Aj,C9 a a=false
 | []=>rfl
 | x::a=>by
  show Op.bytesLess (x::a) (x::a)=false;have h : ¬ x<x:=λh=>absurd h (by simp);have ih:Op.bytesLess a a=false:=P2 a;simp[Op.bytesLess,h,ih]
theorem Sw (x y:UInt8)(a b:Aj):C9 (x::a) (y::b)=(decide (x<y)||(decide (x=y)&&C9 a b)):=by
 show Op.bytesLess (x::a) (y::b)=_;simp only[Op.bytesLess]
 by_cases h:x<y
 ·simp[h]
 ·by_cases e:x=y
  ·subst e;simp[h]
  ·have:y<x:=by
    rcases Nat.lt_trichotomy x.toNat y.toNat with h1 | h1 | h1
    ·exact absurd (UInt8.lt_iff_toNat_lt.2 h1) h
    ·exact absurd (UInt8.toNat_inj.1 h1) e
    ·exact UInt8.lt_iff_toNat_lt.2 h1
   simp[h,e,this]
theorem P1:∀{a b c:Aj},C9 a b=true→C9 b c=true→C9 a c=true
 | [],[],_,h,_=>by cases h
 | [],_::_,[],_,h=>by cases h
 | [],_::_,_::_,_,_=>rfl
 | _::_,[],_,h,_=>by cases h
 | _::_,_::_,[],_,h=>by cases h
 | x::a,y::b,z::c,h,h'=>by
  rw[Sw] at h h' ⊢;simp only[Ag4,AfY,Agf] at h h' ⊢;have t:∀{u v:UInt8},u<v↔u.toNat<v.toNat:=UInt8.lt_iff_toNat_lt;rcases h with h | ⟨rfl,h⟩
  ·rcases h' with h' | ⟨rfl,h'⟩
   ·exact .inl (t.2 (Nat.lt_trans (t.1 h) (t.1 h')))
   ·exact .inl h
  ·rcases h' with h' | ⟨rfl,h'⟩
   ·exact .inl h'
   ·exact .inr ⟨rfl,P1 h h'⟩
theorem T8:∀(a b:Aj),C9 a b=true∨a=b∨C9 b a=true
 | [],[]=>.inr (.inl rfl)
 | [],_::_=>.inl rfl
 | _::_,[]=>.inr (.inr rfl)
 | x::a,y::b=>by
  rw[Sw,Sw];simp only[Ag4,AfY,Agf];rcases Nat.lt_trichotomy x.toNat y.toNat with h1 | h1 | h1
  ·exact .inl (.inl (UInt8.lt_iff_toNat_lt.2 h1))
  ·have e:=UInt8.toNat_inj.1 h1;subst e;rcases T8 a b with h | rfl | h
   ·exact .inl (.inr ⟨rfl,h⟩)
   ·exact .inr (.inl rfl)
   ·exact .inr (.inr (.inr ⟨rfl,h⟩))
  ·exact .inr (.inr (.inl (UInt8.lt_iff_toNat_lt.2 h1)))
theorem AeC {a b:Aj}(h:C9 a b=true):a≠b:=λe=>by subst e;rw[P2] at h;cases h
section
variable {T : Type}
def Ms (xs:List (Aj×T)):Prop:=xs.Pairwise λp q=>C9 p.1 q.1=true
theorem Ms.nil:Ms ([]:List (Aj×T)):=List.Pairwise.nil
theorem Ms.nodup {xs:List (Aj×T)}(h:Ms xs):(xs.map (·.1)).Nodup:=by
 rw[List.Nodup,List.pairwise_map];exact h.imp λhpq=>AeC hpq
theorem GJ {xs:List (Aj×T)}{k:Aj}:Cm xs k=none↔∀p∈xs,p.1≠k:=by
 induction xs with
 | nil=>simp[Cm]
 | cons p r ih=>
  rw[Cm]
  by_cases h:p.1=k
  ·rw[Agc h];simp[h]
  ·rw[Aga h];simp[h,ih]
theorem Hp {xs:List (Aj×T)}{k:Aj}{v:T}(h:Cm xs k=some v):(k,v)∈xs:=by
 induction xs with
 | nil=>cases h
 | cons p r ih=>
  rw[Cm] at h
  by_cases e:p.1=k
  ·rw[Agc e] at h;cases h;subst e;exact List.mem_cons_self ..
  ·rw[Aga e] at h;exact List.mem_cons_of_mem _ (ih h)
theorem KK {xs:List (Aj×T)}{k:Aj}{v:T}(hn:(xs.map (·.1)).Nodup)(h:(k,v)∈xs):Cm xs k=some v:=by
 induction xs with
 | nil=>cases h
 | cons p r ih=>
  rw[AgO,List.nodup_cons] at hn;rw[Cm];rcases List.mem_cons.1 h with h | h
  ·subst h;rw[Agc rfl];rfl
  ·have hne : ¬ p.1=k:=λe=>hn.1 (by rw[e];exact List.mem_map.2 ⟨(k,v),h,rfl⟩);rw[Aga hne];exact ih hn.2 h
theorem Yh (xs:List (Aj×T))(k k':Aj)(v:T):Cm (mput xs k v) k'=bif decide (k'=k) then(Cm xs k).map (λ_=>v) else Cm xs k':=by
 induction xs with
 | nil=>cases decide (k'=k)<;>rfl
 | cons p r ih=>
  show Cm ((bif decide (p.1=k) then(k,v) else p)::mput r k v) k'=_
  by_cases h:p.1=k
  ·rw[Agc h];simp only[Agg,Cm]
   by_cases e:k'=k
   ·subst e;rw[Agc rfl,h,Agc rfl];rfl
   ·rw[Aga (Ne.symm e),Aga e,ih,Aga e,h,Aga (Ne.symm e)];rfl
  ·rw[Aga h];simp only[Agb,Cm];rw[ih]
   by_cases e:k'=k
   ·subst e;rw[Agc rfl,Aga h];rfl
   ·rw[Aga e]
    cases decide (p.1=k')<;>rfl
theorem Yi (xs:List (Aj×T))(k k':Aj)(v:T)(h:Cm xs k=none):Cm (mins k v xs) k'=bif decide (k'=k) then some v else Cm xs k':=by
 induction xs with
 | nil=>
  show(bif decide (k=k') then some v else none)=bif decide (k'=k) then some v else none
  by_cases e:k'=k
  ·rw[Agc e,Agc e.symm]
  ·rw[Aga e,Aga (Ne.symm e)]
 | cons p r ih=>
  rw[Cm] at h
  by_cases hk:p.1=k
  ·rw[Agc hk] at h;cases h
  ·rw[Aga hk] at h;rw[mins]
   cases C9 k p.1 with
   | true=>
    simp only[Agg,Cm]
    by_cases e:k'=k
    ·subst e;rw[Agc rfl]
     try rfl
    ·rw[Aga e,Aga (Ne.symm e)]
     try rfl
   | false=>
    simp only[Agb,Cm];rw[ih h]
    by_cases e:k'=k
    ·subst e;rw[Agc rfl,Aga hk];rfl
    ·rw[Aga e]
     cases decide (p.1=k')<;>rfl
theorem NC (xs:List (Aj×T))(k k':Aj)(v:T):Cm (mset xs k v) k'=bif decide (k'=k) then some v else Cm xs k':=by
 unfold mset EP
 cases h:Cm xs k with
 | none=>exact Yi xs k k' v h
 | some w=>
  simp only[Option.isSome_some,Agg];rw[Yh,h]
  cases decide (k'=k)<;>rfl
theorem Yj (xs:List (Aj×T))(k k':Aj):Cm (mdel xs k) k'=bif decide (k'=k) then none else Cm xs k':=by
 unfold mdel
 induction xs with
 | nil=>cases decide (k'=k)<;>rfl
 | cons p r ih=>
  by_cases h:p.1=k
  ·rw[List.filter_cons_of_neg (by simp[h]),ih,Cm]
   by_cases e:k'=k
   ·rw[Agc e];rfl
   ·rw[Aga e,h,Aga (Ne.symm e)];rfl
  ·rw[List.filter_cons_of_pos (by simp[h]),Cm,Cm,ih]
   by_cases e:k'=k
   ·rw[Agc e,e,Aga h];rfl
   ·rw[Aga e]
    cases decide (p.1=k')<;>rfl
theorem Ue {k:Aj}{v:T}{q:Aj×T}:∀{xs:List (Aj×T)},q∈mins k v xs→q=(k,v)∨q∈xs
 | [],h=>by simp[mins] at h;exact .inl h
 | p::r,h=>by
  rw[mins] at h
  cases hs:C9 k p.1 with
  | true=>rw[hs] at h;simpa using h
  | false=>
   rw[hs] at h;rcases List.mem_cons.1 h with h | h
   ·exact .inr (by rw[h];exact List.mem_cons_self ..)
   ·rcases Ue h with h | h
    ·exact .inl h
    ·exact .inr (List.mem_cons_of_mem _ h)
theorem Ms.mins {k:Aj}{v:T}:∀{xs:List (Aj×T)},Ms xs→Cm xs k=none→Ms (mins k v xs)
 | [],_,_=>List.pairwise_singleton ..
 | p::r,h,hk=>by
  obtain⟨h1,h2⟩:=List.pairwise_cons.1 h;rw[Cm] at hk
  by_cases e:p.1=k
  ·rw[Agc e] at hk;cases hk
  ·rw[Aga e] at hk;rw[Proofs.YtfobhhegpkinaaaGreatDoor.mins]
   cases hs:C9 k p.1 with
   | true=>exact List.pairwise_cons.2 ⟨λq hq=>by
     rcases List.mem_cons.1 hq with rfl | hq
     ·exact hs
     ·exact P1 hs (h1 q hq),h⟩
   | false=>
    have hp:C9 p.1 k=true:=by
     rcases T8 p.1 k with h | h | h
     ·exact h
     ·exact absurd h e
     ·rw[h] at hs;cases hs
    exact List.pairwise_cons.2 ⟨λq hq=>by
     rcases Ue hq with rfl | hq
     ·exact hp
     ·exact h1 q hq,Ms.mins h2 hk⟩
theorem Ms.mput {xs:List (Aj×T)}(h:Ms xs)(k:Aj)(v:T):Ms (mput xs k v):=by
 unfold Proofs.YtfobhhegpkinaaaGreatDoor.mput;unfold Ms;rw[List.pairwise_map];refine h.imp fun {p q} hpq=>?_;have e:∀p:Aj×T,(bif decide (p.1=k) then(k,v) else p).1=p.1:=λp=>by
  by_cases hp:p.1=k
  ·rw[Agc hp];exact hp.symm
  ·rw[Aga hp];rfl
 rw[e,e];exact hpq
theorem Ms.mset {xs:List (Aj×T)}(h:Ms xs)(k:Aj)(v:T):Ms (mset xs k v):=by
 unfold Proofs.YtfobhhegpkinaaaGreatDoor.mset EP
 cases hk:Cm xs k with
 | none=>exact h.mins hk
 | some w=>exact h.mput k v
theorem Ms.mdel {xs:List (Aj×T)}(h:Ms xs)(k:Aj):Ms (mdel xs k):=h.sublist (List.filter_sublist ..)
theorem Ms.ext:∀{xs ys:List (Aj×T)},Ms xs→Ms ys→(∀k,Cm xs k=Cm ys k)→xs=ys
 | [],[],_,_,_=>rfl
 | [],q::s,_,_,h=>by
  have:=h q.1;rw[Cm,Cm,Agc rfl] at this;cases this
 | p::r,[],_,_,h=>by
  have:=h p.1;rw[Cm,Cm,Agc rfl] at this;cases this
 | p::r,q::s,hx,hy,h=>by
  obtain⟨x1,x2⟩:=List.pairwise_cons.1 hx;obtain⟨y1,y2⟩:=List.pairwise_cons.1 hy;have hpq:p.1=q.1:=by
   have a1:=h p.1;have a2:=h q.1;rw[Cm,Agc rfl] at a1;rw[show Cm (q::s) q.1=bif decide (q.1=q.1) then some q.2 else Cm s q.1 from rfl,Agc rfl] at a2;simp only[Agg] at a1 a2;have m1:=Hp a1.symm;have m2:=Hp a2;rcases List.mem_cons.1 m1 with e | m1
   ·exact congrArg Prod.fst e
   ·rcases List.mem_cons.1 m2 with e | m2
    ·exact(congrArg Prod.fst e).symm
    ·have c1:=y1 _ m1;have c2:=x1 _ m2;have:=P1 c1 c2;rw[P2] at this;cases this
  have e:p=q:=by
   have a1:=h p.1;rw[Cm,Agc rfl,Cm,Agc hpq.symm] at a1;simp only[Agg,Option.some.injEq] at a1;exact Prod.ext hpq a1
  subst e;rw[Ms.ext x2 y2 λk=>by
   have a1:=h k;rw[Cm,Cm] at a1
   by_cases e:p.1=k
   ·have n1:Cm r k=none:=GJ.2 λz hz e'=>by have:=x1 z hz;rw[e',← e,P2] at this;cases this
    have n2:Cm s k=none:=GJ.2 λz hz e'=>by have:=y1 z hz;rw[e',← e,P2] at this;cases this
    rw[n1,n2]
   ·rw[Aga e] at a1;exact a1]
end
theorem Uj {T St R:Type}(body:T→St→Option (Stp St (Out R St)))(g:T→St→St)(I:St→Prop):∀(ord:List T) (s:St),I s→(∀p∈ord,∀s,I s→body p s=some (.next (g p s))∧I (g p s))→RE body ord s=some (.go (ord.foldl (λs p=>g p s) s))∧I (ord.foldl (λs p=>g p s) s)
 | [],s,hi,_=>⟨rfl,hi⟩
 | p::r,s,hi,h=>by
  obtain⟨h1,h2⟩:=h p (List.mem_cons_self ..) s hi;obtain⟨h3,h4⟩:=Uj body g I r (g p s) h2 λq hq=>h q (List.mem_cons_of_mem _ hq);exact⟨by rw[RE,h1];exact h3,h4⟩
section
variable {T : Type}
theorem Yg {xs ys:List (Aj×T)}(h:ys.Perm xs)(hn:(xs.map (·.1)).Nodup)(k:Aj):Cm ys k=Cm xs k:=by
 have hn':(ys.map (·.1)).Nodup:=(h.map _).nodup_iff.2 hn
 cases e:Cm xs k with
 | none=>exact GJ.2 λp hp=>(GJ.1 e) p (h.subset hp)
 | some v=>exact KK hn' (h.symm.subset (Hp e))
def apF (del:T→Bool)(xs:List (Aj×T))(p:Aj×T):List (Aj×T):=bif del p.2 then mdel xs p.1 else mset xs p.1 p.2
theorem Aer {del:T→Bool}{xs:List (Aj×T)}(h:Ms xs)(p:Aj×T):Ms (apF del xs p):=by
 unfold apF
 cases del p.2 with
 | true=>exact h.mdel _
 | false=>exact h.mset _ _
theorem OZ {del:T→Bool}:∀(ord:List (Aj×T)) {xs:List (Aj×T)},Ms xs→Ms (ord.foldl (apF del) xs)
 | [],_,h=>h
 | p::r,_,h=>OZ r (Aer h p)
theorem Aa2 {del:T→Bool}(xs:List (Aj×T))(p:Aj×T)(k:Aj):Cm (apF del xs p) k=bif decide (k=p.1) then(bif del p.2 then none else some p.2) else Cm xs k:=by
 unfold apF
 cases del p.2 with
 | true=>exact Yj xs p.1 k
 | false=>exact NC xs p.1 k p.2
theorem L0 {del:T→Bool}:∀(ord:List (Aj×T)) (xs:List (Aj×T)) (k:Aj),(ord.map (·.1)).Nodup→Cm (ord.foldl (apF del) xs) k=match Cm ord k with
  | none=>Cm xs k
  | some v=>bif del v then none else some v
 | [],xs,k,_=>rfl
 | p::r,xs,k,h=>by
  rw[AgO,List.nodup_cons] at h;rw[List.foldl_cons,L0 r _ k h.2,Cm,Aa2]
  by_cases e:p.1=k
  ·have hn:Cm r k=none:=GJ.2 λq hq e'=>h.1 (by rw[e,← e'];exact List.mem_map.2 ⟨q,hq,rfl⟩);rw[hn,Agc e,Agc e.symm];rfl
  ·rw[Aga e,Aga (Ne.symm e)];rfl
theorem YN {del:T→Bool}{xs ys zs:List (Aj×T)}(hz:Ms zs)(hx:Ms xs)(h:ys.Perm xs):ys.foldl (apF del) zs=xs.foldl (apF del) zs:=
 Ms.ext (OZ ys hz) (OZ xs hz) λk=>by
  rw[L0 ys zs k ((h.map _).nodup_iff.2 hx.nodup),L0 xs zs k hx.nodup,Yg h hx.nodup]
end
theorem Mk (a:Aj) : ¬ a<a:=List.lt_irrefl a
theorem Rj {a b c:Aj}(h:a<b)(h2:b<c):a<c:=List.lt_trans h h2
theorem X6 {a b:Aj}(h:a<b) : ¬ b<a:=λh2=>Mk a (Rj h h2)
theorem Wh (a b:Aj):a<b∨a=b∨b<a:=by
 by_cases h:a<b
 ·exact .inl h
 ·by_cases h2:b<a
  ·exact .inr (.inr h2)
  ·have e1:a≤b:=h2;have e2:b≤a:=h;exact .inr (.inl (List.le_antisymm e1 e2))
theorem X5 {a b c:Aj}(h:a≤b)(h2:b<c):a<c:=by
 rcases Wh a b with e | e | e
 ·exact Rj e h2
 ·rw[e];exact h2
 ·exact absurd e h
theorem X4 {a b:Aj}(h:a≤b)(h2:a≠b):a<b:=by
 rcases Wh a b with e | e | e
 ·exact e
 ·exact absurd e h2
 ·exact absurd e h
theorem Oe:∀(a b:List Aj),a.Pairwise (· < ·)→b.Pairwise (· < ·)→(∀x,x∈a↔x∈b)→a=b
 | [],[],_,_,_=>rfl
 | [],y::b,_,_,h=>by have:=(h y).2 (by simp);simp at this
 | x::a,[],_,_,h=>by have:=(h x).1 (by simp);simp at this
 | x::a,y::b,ha,hb,h=>by
  have ha':=List.pairwise_cons.1 ha;have hb':=List.pairwise_cons.1 hb;have e:x=y:=by
   rcases List.mem_cons.1 ((h x).1 (by simp)) with e | hx
   ·exact e
   ·rcases List.mem_cons.1 ((h y).2 (by simp)) with e | hy
    ·exact e.symm
    ·exact absurd (ha'.1 y hy) (X6 (hb'.1 x hx))
  subst e;have:a=b:=Oe a b ha'.2 hb'.2 λz=>by
   constructor
   ·intro hz;rcases List.mem_cons.1 ((h z).1 (by simp[hz])) with e | hz2
    ·subst e;exact absurd (ha'.1 _ hz) (Mk _)
    ·exact hz2
   ·intro hz;rcases List.mem_cons.1 ((h z).2 (by simp[hz])) with e | hz2
    ·subst e;exact absurd (hb'.1 _ hz) (Mk _)
    ·exact hz2
  rw[this]
theorem Mb (zs:List Aj)(hs:zs.Pairwise (·≤·)):∀k,k≤zs.length→(Lib.compactUpTo zs.toArray k).Pairwise (· < ·)∧(∀x,x∈Lib.compactUpTo zs.toArray k↔x∈zs.take k)
 | 0,_=>by simp[Lib.compactUpTo]
 | k+1,hk=>by
  obtain⟨h1,h2⟩:=Mb zs hs k (by omega);have hkl:k<zs.length:=by omega
  have hz:zs.toArray[k]! =zs[k]:=by simp[hkl]
  have ht:zs.take (k+1)=zs.take k++[zs[k]]:=by rw[List.take_add_one,Agi hkl];rfl
  have hsi:=List.pairwise_iff_getElem.1 hs;rw[Lib.compactUpTo_succ,ht]
  by_cases hkp:Lib.keeps zs.toArray k=true
  ·rw[AgT hkp,hz];refine⟨List.pairwise_append.2 ⟨h1,by simp,λx hx y hy=>?_⟩,λx=>by rw[List.mem_append,List.mem_append,h2]⟩;simp only[Agw] at hy;subst hy;obtain⟨i,hi,rfl⟩:=List.getElem_of_mem ((h2 x).1 hx);have hik:i<k:=by simp at hi;omega
   rw[List.getElem_take];simp only[Lib.keeps,AfY,hz] at hkp;have hz1:zs.toArray[k-1]! =zs[k-1]'(by omega):=by simp[show k-1<zs.length by omega]
   rw[hz1] at hkp;have hne:zs[k]≠zs[k-1]'(by omega):=hkp.resolve_left (by omega);have hlt:zs[k-1]'(by omega)<zs[k]:=X4 (hsi (k-1) k (by omega) hkl (by omega)) (λe=>hne e.symm)
   by_cases he:i=k-1
   ·subst he;exact hlt
   ·exact X5 (hsi i (k-1) (by omega) (by omega) (by omega)) hlt
  ·rw[AgF hkp];refine⟨by simpa using h1,λx=>?_⟩;simp only[Lib.keeps,AfY,hz,not_or,Decidable.not_not] at hkp;have hz1:zs.toArray[k-1]! =zs[k-1]'(by omega):=by simp[show k-1<zs.length by omega]
   rw[hz1] at hkp;rw[AgP,List.mem_append,h2,Agw];constructor
   ·exact .inl
   ·rintro(h | rfl)
    ·exact h
    ·rw[hkp.2];have:(zs.take k)[k-1]'(by simp;omega)=zs[k-1]'(by omega):=List.getElem_take;rw[← this];exact List.getElem_mem _
theorem QG (ss:List Aj):(BR ss).Pairwise (· < ·)∧∀x,x∈BR ss↔x∈ss:=by
 have hs:(ss.mergeSort λx y=>decide (x≤y)).Pairwise (·≤·):=by
  have:=List.pairwise_mergeSort (le:=λ(x y:Aj)=>decide (x≤y)) (λa b c h1 h2=>by
   simp only[AfY] at *;exact List.le_trans h1 h2) (λa b=>by
   simp only[Ag4,AfY];exact List.le_total a b) ss
  exact this.imp (λh=>by simpa using h)
 have h:=Mb _ hs _ (Agu _);unfold BR Lib.compact;refine⟨h.1,λx=>?_⟩;rw[h.2,List.take_length,List.mem_mergeSort]
abbrev Ld:=List (Aj×Ai)
def QA:Ai:=⟨[],0⟩
def KD (m:Ld)(x:As):Out (Int×Ld) Ld:=
 bif decide (x.fKind=1) then(bif decide (256<((mset m x.fKey ⟨x.fValue,(BE m x.fKey QA).fVersion+1⟩).length:Int)) then .ret (3,mset m x.fKey ⟨x.fValue,(BE m x.fKey QA).fVersion+1⟩) else .go (mset m x.fKey ⟨x.fValue,(BE m x.fKey QA).fVersion+1⟩))
 else bif decide (x.fKind=2) then .go (mdel m x.fKey) else .go m
def Vk (m:Ld)(l:List As):Out (Int×Ld) Ld:=Gg (λ_=>KD) 0 m l
def mkG (c:AE)(i:Nat)(x:As):An:=⟨BV c.fEvent (i:Int),c.fTenant,c.fEvent,c.fAt,x⟩
def Mn (c:AE):Nat→List As→List An
 | _,[]=>[]
 | i,x::r=>(bif KE x.fKind then[mkG c i x] else[])++Mn c (i+1) r
def QP (o:Ao)(t:Aj):Ld:=BE o.fKeys t []
def D5 (o:Ao)(c:AE):Bool×Int×Ao:=
 bif !decide (KU c=0) then(false,KU c,o) else
 bif EP o.fResults c.fEvent then(false,0,o) else
 bif decide (4000≤(o.fEvents.length:Int)) then(false,3,o) else
 match Vk (QP o c.fTenant) c.fEffects with
 | .ret q=>(false,3,o)
 | .go m=>(true,0,⟨o.fMade,o.fEvents++[c.fEvent],mset o.fResults c.fEvent c.fResult,mset o.fKeys c.fTenant m,o.fPending++Mn c 0 c.fEffects⟩)
def QR (l:List An)(id:Aj):Option Nat:=l.findIdx? λx=>decide (x.fID=id)
def LM (o:Ao)(id:Aj):Int×Ao:=
 match QR o.fPending id with
 | none=>(5,o)
 | some i=>(0,⟨o.fMade,o.fEvents,o.fResults,o.fKeys,o.fPending.take i++o.fPending.drop (i+1)⟩)
def It (o:Ao)(rc:Aj):Int×Ao:=
 Af7 (α:=Unit) (13,o) (λid=>(0,(LM o id).2)) (λc=>((D5 o c).2.1,(D5 o c).2.2)) (Oq rc)
def itI (p:Aj×Ai):Bt:=⟨p.1,p.2.fValue,p.2.fVersion⟩
def H8 (o:Ao)(t:Aj):List Bt:=(QP o t).map itI
def TZ (l:List An)(n:Int):Aj:=bif decide (n<0)||decide ((l.length:Int)≤n) then[] else(Al l n).fID
def EJ (o:Ao)(x:Bb):Bool×Int×Ao:=
 bif decide (x.fKind=0) then D5 o x.fC else
 bif decide (x.fKind=1) then(false,LM o x.fS) else
 bif decide (x.fKind=2) then(false,LM o (TZ o.fPending x.fN)) else
 bif decide (x.fKind=3) then(false,It o x.fS) else
 bif decide (x.fKind=4) then(false,It o (KV x.fC).1) else(false,It o (VQ x.fS).1)
structure Nv (B:Nat) (m:Ld):Prop where
 ms:Ms m
 len:m.length≤256
 val:∀p∈m,0≤p.2.fVersion∧p.2.fVersion≤B∧p.2.fValue.length≤200
structure LG (n:Nat) (o:Ao):Prop where
 made:o.fMade=true
 ev:∀k,EP o.fResults k=decide (k∈o.fEvents)
 ln:o.fEvents.length≤n
 rs:∀p∈o.fResults,p.2.length≤200
 ks:∀t,Nv (32*n) (QP o t)
 pn:o.fPending.length≤32*n
 pv:∀x∈o.fPending,x.fEffect.fValue.length≤200
 pc:∀x∈o.fPending,x.fCause∈o.fEvents∧∃i:Int,CC x.fCause i=0∧x.fID=BV x.fCause i
 pu:(o.fPending.map (·.fID)).Nodup
theorem Qm {v:List Ac}(h:JA v=0):v.length≤200:=by
 unfold JA at h
 cases hw:whole v with
 | none=>rw[hw] at h;cases h
 | some f=>
  rw[hw] at h;rw[(Mh hw).1];exact(Qp h).2.2.1
theorem WS {ev:Aj}{i:Int}{x:As}(h:Qn ev i x=0):x.fValue.length≤200:=by
 obtain⟨_,_,_,h4,h5,_⟩:=Nn h
 by_cases hk:x.fKind=2
 ·rw[h4 hk];simp
 ·exact Qm (h5 hk)
theorem Aay {T:Type}{m:List (Aj×T)}{k:Aj}{z:T}:(BE m k z=z∧Cm m k=none)∨((k,BE m k z)∈m∧Cm m k=some (BE m k z)):=by
 unfold BE
 cases h:Cm m k with
 | none=>exact .inl ⟨rfl,rfl⟩
 | some v=>exact .inr ⟨Hp h,rfl⟩
theorem Nv.ver {B:Nat}{m:Ld}(h:Nv B m)(k:Aj):0≤(BE m k QA).fVersion∧(BE m k QA).fVersion≤B∧(BE m k QA).fValue.length≤200:=by
 rcases Aay (m:=m) (k:=k) (z:=QA) with⟨e,_⟩ | ⟨e,_⟩
 ·rw[e];exact⟨by decide,by show(0:Int)≤_;omega,by decide⟩
 ·exact h.val _ e
theorem RB {T:Type}{xs:List (Aj×T)}{k:Aj}{v:T}{p:Aj×T}(h:p∈mset xs k v):p=(k,v)∨p∈xs:=by
 unfold mset at h
 cases hh:EP xs k with
 | true=>
  rw[hh] at h;obtain⟨q,hq,e⟩:=List.mem_map.1 h
  cases hd:decide (q.1=k) with
  | true=>rw[hd] at e;exact .inl e.symm
  | false=>rw[hd] at e;exact .inr (e▸hq)
 | false=>
  rw[hh] at h;rcases List.mem_cons.1 ((NB k v xs).subset h) with e | e
  ·exact .inl e
  ·exact .inr e
theorem Yk {T:Type}{xs:List (Aj×T)}{k:Aj}{p:Aj×T}(h:p∈mdel xs k):p∈xs:=(List.mem_filter.1 h).1
theorem Wi {B:Nat}{m b:Ld}{x:As}(h:Nv B m)(hx:x.fValue.length≤200)(hs:KD m x = .go b):Nv (B+1) b:=by
 unfold KD at hs
 cases h1:decide (x.fKind=1) with
 | true=>
  rw[h1,Agg] at hs
  cases h2:decide (256<((mset m x.fKey ⟨x.fValue,(BE m x.fKey QA).fVersion+1⟩).length:Int)) with
  | true=>rw[h2] at hs;cases hs
  | false=>
   rw[h2,Agb] at hs
   cases hs
   refine⟨h.ms.mset _ _,by have:=AgR h2;omega,λp hp=>?_⟩;have hv:=h.ver x.fKey;rcases RB hp with rfl | hp
   ·show 0≤(BE m x.fKey QA).fVersion+1∧(BE m x.fKey QA).fVersion+1≤_∧x.fValue.length≤200;exact⟨by omega,by omega,hx⟩
   ·have:=h.val p hp;exact⟨this.1,by omega,this.2.2⟩
 | false=>
  rw[h1,Agb] at hs
  cases h2:decide (x.fKind=2) with
  | true=>
   rw[h2,Agg] at hs
   cases hs
   refine⟨h.ms.mdel _,?_,λp hp=>?_⟩
   ·have:=List.length_filter_le (λp:Aj×Ai=>!decide (p.1=x.fKey)) m;have:=h.len;show(List.filter _ m).length≤_;omega
   ·have:=h.val p (Yk hp);exact⟨this.1,by omega,this.2.2⟩
  | false=>
   rw[h2,Agb] at hs
   cases hs
   exact⟨h.ms,h.len,λp hp=>by have:=h.val p hp;exact⟨this.1,by omega,this.2.2⟩⟩
theorem Nv.mono {B B':Nat}{m:Ld}(h:Nv B m)(hb:B≤B'):Nv B' m:=⟨h.ms,h.len,λp hp=>by have:=h.val p hp;exact⟨this.1,by omega,this.2.2⟩⟩
theorem Wn:∀{l:List As} {B i:Nat} {m b:Ld},Nv B m→(∀x∈l,x.fValue.length≤200)→Gg (λ_=>KD) i m l = .go b→Nv (B+l.length) b
 | [],B,i,m,b,h,_,hr=>by rw[Gg] at hr;cases hr;exact h
 | x::r,B,i,m,b,h,hx,hr=>by
  rw[Gg] at hr
  cases hs:KD m x with
  | ret q=>rw[hs] at hr;cases hr
  | go b'=>
   rw[hs] at hr;have:=Wn (Wi h (hx x (by simp)) hs) (λy hy=>hx y (by simp[hy])) hr;exact this.mono (by simp;omega)
theorem VI {α:Type}{n:Nat}{x:Option α}(h:n≤1000000000):Bi (Dv 40 n) x=x:=C1 (Agc (by omega))
theorem VH {α:Type}{n:Nat}{x:Option α}(h:n≤1000000000):Bi (Dv 48 n) x=x:=C1 (Agc (by omega))
theorem KW {α:Type}{n:Nat}{x:Option α}(h:n≤1000000000):Bi (Dv 112 n) x=x:=C1 (Agc (by omega))
theorem Kf {v:List Ac}(h:v.length≤1000000000):HA v=some v:=by
 unfold HA;rw[VI (by simp;omega)];rfl
theorem VF {v:List Aj}(h:v.length≤1000000000):Ns v=some v:=by
 unfold Ns;rw[Gr (by simp;omega)];rfl
theorem VG {v:List An}(h:v.length≤1000000000):Nt v=some v:=by
 unfold Nt;rw[KW (by simp;omega)];rfl
theorem W4 {x:As}(h:x.fValue.length≤1000000000):Vu x=some x:=by
 unfold Vu;rw[Kf h,Bn]
theorem XU {F B:Nat}{m:Ld}{l:List As}(hF:l.length<F)(hl:l.length≤1000000)(hB:B≤1000000)(h:Nv B m)(hx:∀x∈l,x.fValue.length≤200):PN F m l=some (match Vk m l with | .ret q=>q | .go b=>(0,b)):=by
 unfold PN Vk;have hh:=(HP (l:=l) (mk:=λi (acc:Ld)=>((i:Int),acc)) (fin:=id) (body:=λσ=>G4 l σ.1 σ.2) (λ_=>KD) (λi m=>Nv (B+i) m) (λi hi acc hP=>by
  have hxi:=hx l[i] (List.getElem_mem hi);have hv:=hP.ver l[i].fKey;refine⟨?_,λb hb=>Wi hP hxi hb⟩;unfold G4;simp only;rw[Bd (Agc (by omega)),Bp (by omega) (by omega),CI hi];unfold KD Hb
  cases decide (l[i].fKind=1) with
  | true=>
   rw[ER,Kf (by omega),Bn,show(Ai.mk ([]:(List Ac)) 0)=QA from rfl,Ba (by omega) (by omega),Ba (by omega) (by omega)]
   cases decide (256<((mset acc l[i].fKey ⟨l[i].fValue,(BE acc l[i].fKey QA).fVersion+1⟩).length:Int))<;>rfl
  | false=>
   rw[Cq,Ba (by omega) (by omega),Ba (by omega) (by omega)]
   cases decide (l[i].fKind=2)<;>rfl) (λacc hP=>by unfold G4;simp only;rw[AP (Aga (by omega))];rfl) (F:=F) hF (a:=m) h).1
 show Bs (Cj (λσ=>G4 l σ.1 σ.2) F (((0:Nat):Int),m)) (BQ λν=>Ju ν)=_;rw[hh,Bn]
 cases Gg (λ_=>KD) 0 m l<;>rfl
theorem AcB {α R U:Type}{l:List α}{p:α→Bool}{ret:Nat→R}{body:Int→Option (Stp Int (Out R U))}{u:U}(hb:∀(i:Nat) (h:i<l.length),body (i:Int)=B0 (p l[i]) (some (.out (.ret (ret i)))) (some (.next ((i:Int)+1))))(he:body (l.length:Int)=some (.out (.go u))) :
  ∀(d n i:Nat),i+d=l.length→d<n→Cj body n (i:Int)=some (match (l.drop i).findIdx? p with | some j=>.ret (ret (i+j)) | none=>.go u):=by
 intro d
 induction d with
 | zero=>
  intro n i h hn;obtain⟨n,rfl⟩:∃m,n=m+1:=⟨n-1,by omega⟩
  obtain rfl:i=l.length:=by omega
  rw[Cj,he,List.drop_length];rfl
 | succ d ih=>
  intro n i h hn;obtain⟨n,rfl⟩:∃m,n=m+1:=⟨n-1,by omega⟩
  have hi:i<l.length:=by omega
  rw[Cj,hb i hi,List.drop_eq_getElem_cons hi,List.findIdx?_cons]
  cases hp:p l[i] with
  | true=>simp[B0]
  | false=>
   have:=ih n (i+1) (by omega) (by omega);simp only[Cq];refine this.trans ?_
   cases(List.drop (i+1) l).findIdx? p with
   | none=>rfl
   | some j=>simp only[Option.map_some,Agv,AgM];rw[show i+1+j=i+(j+1) by omega]
theorem PQ {α R U:Type}{l:List α}{p:α→Bool}{ret:Nat→R}{body:Int→Option (Stp Int (Out R U))}{u:U}{F:Nat}(hF:l.length<F)(hb:∀(i:Nat) (h:i<l.length),body (i:Int)=B0 (p l[i]) (some (.out (.ret (ret i)))) (some (.next ((i:Int)+1))))(he:body (l.length:Int)=some (.out (.go u))) :
  Cj body F 0=some (match l.findIdx? p with | some j=>.ret (ret j) | none=>.go u):=by
 have h:=AcB hb he l.length F 0 (by omega) hF;rw[List.drop_zero] at h;refine h.trans ?_
 cases l.findIdx? p with
 | none=>rfl
 | some j=>simp only[AgH]
theorem Yv {F:Nat}{l:List An}(hF:l.length<F)(hl:l.length≤1000000)(id:Aj):Qc F l id=some (match QR l id with | some j=>(j:Int) | none=>-1):=by
 unfold Qc QR;rw[PQ (l:=l) (p:=λx=>decide (x.fID=id)) (ret:=λj:Nat=>(j:Int)) (u:=()) hF (λi h=>by
  unfold HZ W5;rw[Bd (Agc (by omega)),Bp (by omega) (by omega),CI h,Bn,Ba (by omega) (by omega)]) (by unfold HZ;rw[AP (Aga (by omega))]),Bn]
 cases l.findIdx? λx=>decide (x.fID=id)<;>rfl
theorem VE {l:List An}{i:Nat}(h:i<l.length):Nr l (i:Int) ((i:Int)+1)=some (l.take i++l.drop (i+1)):=by
 unfold Nr;rw[CH (by omega) (by omega),CH (by omega) (by omega),CH (by omega) (by omega),AP (Aga (by omega)),CH (by omega) (by omega)];have e1:Int.toNat (i:Int)=i:=by omega
 have e2:Int.toNat ((i:Int)+1)=i+1:=by omega
 rw[e1,e2,CH (by omega) (by omega)];have e3:Int.toNat ((i+(l.length-(i+1)):Nat):Int)=i+(l.length-(i+1)):=by omega
 rw[e3];have hl:(List.take i l++List.drop (i+1) l).length=i+(l.length-(i+1)):=by
  rw[Age,AgQ,AgJ];omega
 refine congrArg some ?_;rw[Ag8 (List.take i l) (List.drop (i+1) l)];rw[← Ag8,← hl,List.take_left' rfl,List.take_left' rfl]
theorem WF {l:List An}{id:Aj}{i:Nat}(h:QR l id=some i):∃hi:i<l.length,l[i].fID=id:=by
 unfold QR at h;obtain⟨hi,hp,_⟩:=List.findIdx?_eq_some_iff_getElem.1 h;exact⟨hi,Agm hp⟩
theorem SM {F n:Nat}{o:Ao}(h:LG n o)(hn:n≤100)(hF:5000<F)(id:Aj):SN F o id=some (LM o id):=by
 have hp:=h.pn;unfold SN LM EH;rw[Bn,h.made,AP (by rfl),Yv (by omega) (by omega),Bn]
 cases hi:QR o.fPending id with
 | none=>rfl
 | some i=>
  simp only;obtain⟨hl,_⟩:=WF hi;rw[AP (Aga (by omega)),VG (by omega),Bn,Ba (by omega) (by omega),VE hl,Bn]
theorem Eu {F n:Nat}{o:Ao}(h:LG n o)(hn:n≤100)(hF:5000<F):Dp F o=some o.fPending:=by
 have hp:=h.pn;unfold Dp EH;rw[Bn,h.made,AP (by rfl)];have hh:=(HP (l:=o.fPending) (mk:=λi (acc:List An)=>(acc,(i:Int))) (fin:=id) (body:=λσ=>DN o σ.1 σ.2) (λ_ acc x=>.go (acc++[id x])) (λi acc=>acc.length=i) (λi hi acc hP=>by
  refine⟨?_,λb hb=>by cases hb;simp[hP]⟩;have hv:=h.pv _ (List.getElem_mem hi);unfold DN;simp only;rw[Bd (Agc (by omega)),Bp (by omega) (by omega),CI hi,W4 (by omega),Bn,KW (by simp;omega),Ba (by omega) (by omega)];rfl) (λacc hP=>by unfold DN;simp only;rw[AP (Aga (by omega))];rfl) (F:=F) (by omega) (a:=[]) rfl).1
 show Bs (Cj (λσ=>DN o σ.1 σ.2) F ([],((0:Nat):Int))) (BQ λν=>Gy ν)=_;rw[hh,ML,Bn];simp[Acp,BQ,Gy]
theorem JU {n:Nat}{o:Ao}(h:LG n o)(hn:n≤100):DD o=some o.fEvents:=by
 have:=h.ln;unfold DD EH;rw[Bn,h.made,AP (by rfl),VF (by omega),Bn]
theorem Ab0 {T:Type}{m ord:List (Aj×T)}(hm:Ms m)(h:ord.Perm m):ord.foldl (λ(a:List (Aj×T)) p=>mset a p.1 p.2) []=m:=by
 have e:(λ(a:List (Aj×T)) p=>mset a p.1 p.2)=apF (λ_=>false):=by funext a p;rfl
 rw[e,YN (Ms.nil) hm h];exact Ms.ext (OZ m Ms.nil) hm λk=>by
  rw[L0 m [] k hm.nodup]
  cases Cm m k<;>rfl
theorem Rr {R:Type}(c:AE):∀(l:List As) (i:Nat) (a:List An),Gg (R:=R) (λi acc x=>.go (acc++(bif KE x.fKind then[mkG c i x] else[]))) i a l = .go (a++Mn c i l)
 | [],i,a=>by simp[Gg,Mn]
 | x::l,i,a=>by
  show Gg (R:=R) (λi acc x=>.go (acc++(bif KE x.fKind then[mkG c i x] else[]))) (i+1) (a++(bif KE x.fKind then[mkG c i x] else[])) l=_;rw[Rr c l,Mn,Ag8]
theorem PL {F n M:Nat}{o:Ao}(h:LG n o)(hn:n≤100){c:AE}(hA:VS M c)(hM:M≤2000000)(hF:M<F)(hF0:5000<F):Lw F o c=some (D5 o c):=by
 unfold Lw D5 EH;rw[Bn,h.made,AP (by rfl),R4 hA hM hF (by omega),Bn]
 cases he:decide (KU c=0) with
 | false=>rfl
 | true=>
  have ho:=No (Agm he);have hlen:=ho.len;have hln:=h.ln;have hpn:=h.pn;rw[AP (by rfl)]
  cases EP o.fResults c.fEvent with
  | true=>rfl
  | false=>
   rw[Cq]
   cases decide (4000≤(o.fEvents.length:Int)) with
   | true=>rfl
   | false=>
    rw[Cq];show Ub (QP o c.fTenant) _=some (match Vk (QP o c.fTenant) c.fEffects with | .ret q=>_ | .go m=>_);have hk:=h.ks c.fTenant;have hxs:∀x∈c.fEffects,x.fValue.length≤200:=λx hx=>by
     obtain⟨i,_,hi⟩:=ho.eff hx;exact WS hi
    refine Aa0 λord hp=>?_;have hlf:=(Uj (R:=Bool×Int×Ao) (λ(pe:Aj×Ai) τ=>Ir pe.1 pe.2 τ) (λpe s=>mset s pe.1 pe.2) (λ_=>True) ord [] trivial (λp _ s _=>⟨rfl,trivial⟩)).1;rw[hlf,Bn,Ab0 hk.ms hp];show Ey F o c (QP o c.fTenant)=_;unfold Ey;rw[XU (by omega) (by omega) (by omega:32*n≤1000000) hk hxs,Bn]
    cases hr:Vk (QP o c.fTenant) c.fEffects with
    | ret q=>
     have:q.1=3:=by
      have:∀(l:List As) (i:Nat) (m:Ld),Gg (λ_=>KD) i m l = .ret q→q.1=3:=by
       intro l
       induction l with
       | nil=>intro i m hq;rw[Gg] at hq;cases hq
       | cons x l ih=>
        intro i m hq;rw[Gg] at hq
        cases hs:KD m x with
        | go b=>rw[hs] at hq;exact ih _ _ hq
        | ret q'=>
         rw[hs] at hq
         cases hq
         unfold KD at hs
         cases h1:decide (x.fKind=1) with
         | true=>
          rw[h1,Agg] at hs
          cases h2:decide (256<((mset m x.fKey ⟨x.fValue,(BE m x.fKey QA).fVersion+1⟩).length:Int)) with
          | true=>rw[h2] at hs;cases hs;rfl
          | false=>rw[h2] at hs;cases hs
         | false=>rw[h1,Agb] at hs;cases h2:decide (x.fKind=2)<;>rw[h2] at hs<;>cases hs
      exact this _ _ _ hr
     simp only;rw[Bd (by rw[this];rfl),this]
    | go m=>
     simp only;have hres:=Qm ho.res;rw[AP (by rfl),Gr (by simp;omega),Kf (by omega),Bn];have hh:=(HP (l:=c.fEffects) (mk:=λi (acc:List An)=>((i:Int),acc)) (fin:=id) (body:=λσ=>Ez c σ.1 σ.2) (λi acc x=>.go (acc++(bif KE x.fKind then[mkG c i x] else[]))) (λi acc=>acc.length≤o.fPending.length+i) (λi hi acc hP=>by
      have hv:=hxs _ (List.getElem_mem hi);refine⟨?_,λb hb=>by cases hb;rw[Age];cases KE c.fEffects[i].fKind<;>simp<;>omega⟩;unfold Ez Ha;simp only;rw[Bd (Agc (by omega)),Bp (by omega) (by omega),CI hi,MT,Bn,JB (by have:=Yw ho.id;omega),Ba (by omega) (by omega),W4 (by omega),Bn,KW (by simp;omega),Ba (by omega) (by omega),Ba (by omega) (by omega)]
      cases KE c.fEffects[i].fKind with
      | true=>rfl
      | false=>rw[Cq];simp[Ac1]) (λacc hP=>by unfold Ez;simp only;rw[AP (Aga (by omega))];rfl) (F:=F) (by omega) (a:=o.fPending) (by omega)).1
     show Bs (Cj (λσ=>Ez c σ.1 σ.2) F (((0:Nat):Int),o.fPending)) (BQ λν=>Iq o c (0,m) c.fResult ν)=_;rw[hh,Rr,Bn];show some (true,(0:Int),Ao.mk o.fMade _ _ _ _)=some (true,0,Ao.mk true _ _ _ _);rw[h.made];rfl
theorem TJ (q:Aj×Int)(rc:Aj):(!decide (q.2=0)||!decide (q.1=rc)) = !decide (q=(rc,0)):=by
 obtain⟨a,b⟩:=q
 by_cases h1:b=0<;>by_cases h2:a=rc<;>simp[h1,h2]
theorem PH {F n:Nat}{o:Ao}(h:LG n o)(hn:n≤100)(hF:270000<F){rc:Aj}(hs:rc.length<F)(hl:rc.length≤100000000):KH F o rc=some (It o rc):=by
 unfold KH It EH;rw[Bn,h.made,AP (by rfl),Y5 (by omega) hs (by omega),Bn];have hnl:=Vh rc;have hb:=(N0 rc.length rc).2.2;generalize hz:((Ct rc.length rc).2:Int)=z;have hrun:=(HP (l:=(Ct rc.length rc).1) (mk:=λi (acc:List (List Aj))=>(acc,(i:Int))) (fin:=id) (body:=λσ=>Hu F o ((Ct rc.length rc).1,z) σ.1 σ.2) (λ_ acc b=>bif decide ((K9 b).2=0) then .go (acc++[(K9 b).1]) else .ret ((13:Int),o)) (λi acc=>acc.length=i) (λi hi acc hP=>by
   unfold Hu;simp only;have hbl:=hb (Ct rc.length rc).1[i] (List.getElem_mem hi);rw[Bd (Agc (by omega)),Bp (by omega) (by omega),CI hi,VC (by omega) (by omega),Bn]
   cases ho:decide ((K9 (Ct rc.length rc).1[i]).2=0) with
   | false=>exact⟨rfl,λb hb=>by cases hb⟩
   | true=>
    rw[AP (by rfl),Qx (by simp;omega),Ba (by omega) (by omega)];exact⟨rfl,λb hb=>by cases hb;simp[hP]⟩) (λacc hP=>by unfold Hu;simp only;rw[AP (Aga (by omega))];rfl) (F:=F) (by omega) (a:=[]) rfl).1
 show Bs (Cj (λσ=>Hu F o ((Ct rc.length rc).1,z) σ.1 σ.2) F ([],((0:Nat):Int))) (BQ λν=>Il F o rc ν)=_;rw[hrun,S3,Bn];unfold Oq;have hall:((Ct rc.length rc).1.all λb=>decide ((K9 b).2=0))=YO (Ct rc.length rc).1:=rfl;rw[hall]
 cases ha:YO (Ct rc.length rc).1 with
 | false=>rfl
 | true=>
  rw[Agg,Agg];have hsm:=ZE ha;have hrl:=XA (Ct rc.length rc).1;show Il F o rc ([]++Oh (Ct rc.length rc).1)=_;rw[AgK];generalize Oh (Ct rc.length rc).1=l at hsm hrl;unfold Il AaC;have c1:imp (decide ((l.length:Int)=1)) (Da 0 (l.length:Int))=true:=by
   by_cases h1:(l.length:Int)=1
   ·rw[QQ (by omega) (by omega)];exact NJ _
   ·rw[Aga h1];rfl
  rw[c1,NP]
  cases h1:decide ((l.length:Int)=1)&&decide (((Al l 0).length:Int)=2) with
  | true=>
   simp only[Agf,AfY] at h1;rw[ER,Agg,Bp (by omega) (by omega),Bp (by omega) (by omega),LV hF,Bn,TJ]
   cases decide (VQ (Al (Al l 0) 1)=(rc,0)) with
   | false=>rfl
   | true=>rw[AP (by rfl),SM h hn (by omega),Bn];rfl
  | false=>
   obtain⟨c,e,hA,hv⟩:=Vy (F:=F) (by omega) hsm (by omega) (by omega);rw[Cq,Agb,e,Bn];simp only;rw[PJ hA (by decide) (by omega) (by omega),Bn,TJ]
   cases hg:YC l with
   | false=>rfl
   | true=>
    rw[← hv hg,Agp]
    cases decide (KV c=(rc,0)) with
    | false=>rfl
    | true=>rw[AP (by rfl),PL h hn hA (by decide) (by omega) (by omega),Bn];rfl
theorem Ya {T:Type}(xs:List (Aj×T))(k k':Aj)(v z:T):BE (mset xs k v) k' z=bif decide (k'=k) then v else BE xs k' z:=by
 unfold BE;rw[NC]
 cases decide (k'=k)<;>rfl
theorem Yf {T:Type}(xs:List (Aj×T))(k k':Aj)(v:T):EP (mset xs k v) k'=(decide (k'=k)||EP xs k'):=by
 unfold EP;rw[NC]
 cases decide (k'=k)<;>rfl
theorem Jv {c:AE}:∀{l:List As} {i:Nat} {y:An},y∈Mn c i l→∃ (k:Nat) (hk:k<l.length),KE l[k].fKind=true∧y=mkG c (i+k) l[k]
 | [],i,y,h=>by cases h
 | x::l,i,y,h=>by
  rw[Mn] at h;rcases List.mem_append.1 h with h | h
  ·cases ho:KE x.fKind with
   | false=>rw[ho] at h;cases h
   | true=>
    rw[ho] at h;obtain rfl:=List.mem_singleton.1 h;exact⟨0,by simp,ho,rfl⟩
  ·obtain⟨k,hk,h1,h2⟩:=Jv h;refine⟨k+1,by simp;omega,h1,?_⟩;rw[h2,show i+(k+1)=i+1+k by omega];rfl
theorem TK (c:AE):∀(l:List As) (i:Nat),(Mn c i l).length≤l.length
 | [],i=>Agu _
 | x::l,i=>by
  have:=TK c l (i+1);rw[Mn,Age,Agd]
  cases KE x.fKind<;>simp<;>omega
theorem NQ {a b:Aj}{i j:Int}(ha:CC a i=0)(hb:CC b j=0)(h:BV a i=BV b j):a=b∧i=j:=by
 obtain⟨_,a1,a2,_⟩:=Q0 ha;obtain⟨_,b1,b2,_⟩:=Q0 hb;rw[h] at a1 a2;exact⟨a1.symm.trans b1,a2.symm.trans b2⟩
theorem PA {c:AE}:∀{l:List As} {i:Nat},(∀(k:Nat) (hk:k<l.length),KE l[k].fKind=true→CC c.fEvent ((i+k:Nat):Int)=0)→((Mn c i l).map (·.fID)).Nodup
 | [],i,_=>List.nodup_nil
 | x::l,i,h=>by
  have hr:=PA (c:=c) (l:=l) (i:=i+1) λk hk ho=>by
   have:=h (k+1) (by simp;omega) ho;rw[show i+1+k=i+(k+1) by omega];exact this
  rw[Mn]
  cases ho:KE x.fKind with
  | false=>exact hr
  | true=>
   show((mkG c i x::Mn c (i+1) l).map (·.fID)).Nodup;rw[AgO,List.nodup_cons];refine⟨λhm=>?_,hr⟩;obtain⟨y,hy,e⟩:=List.mem_map.1 hm;obtain⟨k,hk,h1,h2⟩:=Jv hy;subst h2;have e0:CC c.fEvent ((i+0:Nat):Int)=0:=h 0 (by simp) ho;have e1:CC c.fEvent ((i+(k+1):Nat):Int)=0:=h (k+1) (by simp;omega) h1;have:=(NQ (j:=(i:Int)) (i:=((i+1+k:Nat):Int)) (by rw[show i+1+k=i+(k+1) by omega];exact e1) e0 e).2;omega
theorem PZ {n:Nat}{o:Ao}(h:LG n o)(c:AE):LG (n+1) (D5 o c).2.2:=by
 have mono:LG (n+1) o:=⟨h.made,h.ev,by have:=h.ln;omega,h.rs,λt=>(h.ks t).mono (by omega),by have:=h.pn;omega,h.pv,h.pc,h.pu⟩
 unfold D5
 by_cases he:KU c=0
 ·rw[Agc he];simp only[Agl,Agb];have ho:=No he
  cases hh:EP o.fResults c.fEvent with
  | true=>exact mono
  | false=>
   rw[Agb]
   cases decide (4000≤(o.fEvents.length:Int)) with
   | true=>exact mono
   | false=>
    rw[Agb];have hxs:∀x∈c.fEffects,x.fValue.length≤200:=λx hx=>by
     obtain⟨i,_,hi⟩:=ho.eff hx;exact WS hi
    cases hr:Vk (QP o c.fTenant) c.fEffects with
    | ret q=>exact mono
    | go m=>
     simp only;have hlen:=ho.len;have hm:Nv (32*(n+1)) m:=(Wn (h.ks c.fTenant) hxs hr).mono (by omega);have hne:c.fEvent ∉ o.fEvents:=λhc=>by
      have:=h.ev c.fEvent;rw[hh,Agc hc] at this;cases this
     have hchild:∀(k:Nat) (hk:k<c.fEffects.length),KE c.fEffects[k].fKind=true→CC c.fEvent ((0+k:Nat):Int)=0:=λk hk h1=>by
      have:=ho.ef k hk;rw[CI hk] at this;obtain⟨_,_,_,_,_,_,h7⟩:=Nn this;rw[AgH];exact h7 h1
     refine⟨h.made,λk=>?_,by show(o.fEvents++[c.fEvent]).length≤_;have:=h.ln;simp;omega,λp hp=>?_,λt=>?_,?_,λx hx=>?_,λx hx=>?_,?_⟩
     ·show EP (mset o.fResults c.fEvent c.fResult) k=decide (k∈o.fEvents++[c.fEvent]);rw[Yf,h.ev k,Agt];simp[or_comm]
     ·rcases RB hp with rfl | hp
      ·exact Qm ho.res
      ·exact h.rs p hp
     ·show Nv _ (BE (mset o.fKeys c.fTenant m) t []);rw[Ya]
      cases decide (t=c.fTenant) with
      | true=>exact hm
      | false=>exact(h.ks t).mono (by omega)
     ·show(o.fPending++Mn c 0 c.fEffects).length≤_;rw[Age];have:=h.pn;have:=TK c c.fEffects 0;omega
     ·rcases List.mem_append.1 hx with hx | hx
      ·exact h.pv x hx
      ·obtain⟨k,hk,_,rfl⟩:=Jv hx;exact hxs _ (List.getElem_mem hk)
     ·rcases List.mem_append.1 hx with hx | hx
      ·obtain⟨h1,h2⟩:=h.pc x hx;exact⟨List.mem_append_left _ h1,h2⟩
      ·obtain⟨k,hk,h1,rfl⟩:=Jv hx;exact⟨List.mem_append_right _ (List.mem_singleton.2 rfl),((0+k:Nat):Int),hchild k hk h1,rfl⟩
     ·show((o.fPending++Mn c 0 c.fEffects).map (·.fID)).Nodup;rw[AgS];refine List.nodup_append.2 ⟨h.pu,PA hchild,λa ha b hb e=>?_⟩;obtain⟨x,hx,rfl⟩:=List.mem_map.1 ha;obtain⟨y,hy,rfl⟩:=List.mem_map.1 hb;obtain⟨h1,i,h2,h3⟩:=h.pc x hx;obtain⟨k,hk,g1,rfl⟩:=Jv hy;have:=(NQ h2 (hchild k hk g1) (h3.symm.trans e)).1;exact hne (this▸h1)
 ·rw[Aga he];exact mono
theorem LQ {α:Type}(l:List α)(i:Nat):(l.take i++l.drop (i+1)).Sublist l:=by
 rw[← List.eraseIdx_eq_take_drop_succ];exact List.eraseIdx_sublist ..
theorem SQ {n:Nat}{o:Ao}(h:LG n o)(id:Aj):LG n (LM o id).2:=by
 unfold LM
 cases QR o.fPending id with
 | none=>exact h
 | some i=>
  have hs:=LQ o.fPending i;exact⟨h.made,h.ev,h.ln,h.rs,h.ks,by have:=hs.length_le;have:=h.pn;show(o.fPending.take i++o.fPending.drop (i+1)).length≤_;omega,λx hx=>h.pv x (hs.subset hx),λx hx=>h.pc x (hs.subset hx),(hs.map _).nodup h.pu⟩
theorem LG.mono {n m:Nat}{o:Ao}(h:LG n o)(hm:n≤m):LG m o:=⟨h.made,h.ev,by have:=h.ln;omega,h.rs,λt=>(h.ks t).mono (by omega),by have:=h.pn;omega,h.pv,h.pc,h.pu⟩
theorem Uq {n:Nat}{o:Ao}(h:LG n o)(rc:Aj):LG (n+1) (It o rc).2:=by
 unfold It
 cases Oq rc with
 | none=>exact h.mono (by omega)
 | some q=>
  cases q with
  | inl id=>exact(SQ h id).mono (by omega)
  | inr c=>exact PZ h c
theorem V9 {n:Nat}{o:Ao}(h:LG n o)(x:Bb):LG (n+1) (EJ o x).2.2:=by
 unfold EJ
 cases decide (x.fKind=0) with
 | true=>exact PZ h _
 | false=>
  cases decide (x.fKind=1) with
  | true=>exact(SQ h _).mono (by omega)
  | false=>
   cases decide (x.fKind=2) with
   | true=>exact(SQ h _).mono (by omega)
   | false=>
    cases decide (x.fKind=3) with
    | true=>exact Uq h _
    | false=>cases decide (x.fKind=4)<;>exact Uq h _
def Ac4:Ao:=⟨true,[],[],[],[]⟩
theorem AcI:LG 0 Ac4:=
 ⟨rfl,λk=>rfl,Agu _,λp hp=>(by cases hp),λt=>⟨Ms.nil,AgA _,λp hp=>by cases hp⟩,Agu _,λx hx=>(by cases hx),λx hx=>(by cases hx),List.nodup_nil⟩
theorem Ot:KN 5000000=some true:=by decide +kernel
def Acr (y:Ac):Bool:=(Ch .i64) y.fKind&&(Ch .i64) y.fInt&&MS y.fStr&&(Ch .i64) y.fN
def AdJ (y:As):Bool:=(Ch .i64) y.fKind&&MS y.fKey&&(λys:(List Ac)=>ys.all Acr&&decide (ys.length≤1048576)) y.fValue&&(Ch .i64) y.fDelay
def AdI (y:AE):Bool:=MS y.fEvent&&MS y.fTenant&&(Ch .i64) y.fAttempt&&(λys:(List Ac)=>ys.all Acr&&decide (ys.length≤1048576)) y.fResult&&(λys:(List As)=>ys.all AdJ&&decide (ys.length≤1048576)) y.fEffects&&(Ch .i64) y.fAt
def AeO (y:Bb):Bool:=(Ch .i64) y.fKind&&AdI y.fC&&MS y.fS&&(Ch .i64) y.fN
theorem KF {s:Aj}(h:MS s=true):s.length≤1048576:=Agm h
theorem Le.ofB {v:List Ac}(h:(v.all Acr&&decide (v.length≤1048576))=true):Le 1048576 v:=by
 simp only[Agf,AfY,AgC] at h;refine⟨by decide,h.2,λc hc=>?_⟩;have:=h.1 c hc;unfold Acr at this;simp only[Agf] at this;exact⟨KF this.1.2,this.1.1.2,(L5 this.2).2⟩
theorem EfA.ofB {x:As}(h:AdJ x=true):EfA 1048576 x:=by
 unfold AdJ at h;simp only[Agf] at h;exact⟨Le.ofB (by simp only[Agf];exact h.1.2),by have:=KF h.1.1.2;omega⟩
theorem VS.ofB {c:AE}(h:AdI c=true):VS 1048576 c:=by
 unfold AdI at h;simp only[Agf] at h;obtain⟨⟨⟨⟨⟨h1,h2⟩,_⟩,h3⟩,h4⟩,_⟩:=h;exact⟨Le.ofB (by simp only[Agf];exact h3),λx hx=>EfA.ofB (List.all_eq_true.1 h4.1 x hx),by have:=KF h1;omega,by have:=KF h2;omega⟩
structure OpS (x:Bb):Prop where
 c:VS 1048576 x.fC
 s:x.fS.length≤1048576
theorem OpS.ofB {x:Bb}(h:AeO x=true):OpS x:=by
 unfold AeO at h;simp only[Agf] at h;exact⟨VS.ofB h.1.1.2,KF h.1.2⟩
abbrev FF:Nat:=5000000
theorem AfJ {c:AE}(h:VS 1048576 c):JW FF c=some (KV c):=PJ h (by decide) (by decide) (by decide)
theorem VV {α:Type}[DecidableEq α]:∀{a b:List α},a.length=b.length→((a.zip b).any λp=>!decide (p.1=p.2)) = !decide (a=b)
 | [],[],_=>rfl
 | x::a,y::b,h=>by
  have ih:=VV (a:=a) (b:=b) (by simpa using h);rw[List.zip_cons_cons,List.any_cons,ih]
  by_cases h1:x=y
  ·subst h1
   by_cases h2:a=b
   ·subst h2;simp
   ·simp[h2]
  ·simp[h1]
 | [],_::_,h=>by simp at h
 | _::_,[],h=>by simp at h
theorem KS {α:Type}(p:α→Bool):∀l:List α,(l.findIdx? p).isSome=l.any p
 | []=>rfl
 | x::l=>by
  rw[List.findIdx?_cons,List.any_cons]
  cases p x with
  | true=>rfl
  | false=>
   have:=KS p l;rw[Ags,← this]
   cases l.findIdx? p<;>rfl
theorem OS {α:Type}[DecidableEq α]{a b:List α}{body:Int→Option (Stp Int (Out Bool Unit))}{F:Nat}(hl:a.length=b.length)(hF:a.length<F)
  (hb:∀(i:Nat) (h:i<a.length) (h':i<b.length),body (i:Int)=B0 (!decide (a[i]=b[i])) (some (.out (.ret false))) (some (.next ((i:Int)+1)))) (he:body (a.length:Int)=some (.out (.go ()))) :
  Bs (Cj body F 0) (BQ λ_=>some true)=some (decide (a=b)):=by
 have hz:(a.zip b).length=a.length:=by rw[List.length_zip];omega
 have h:=PQ (l:=a.zip b) (p:=λp=>!decide (p.1=p.2)) (ret:=λ_=>false) (u:=()) (body:=body) (F:=F) (by omega) (λi hi=>by
  rw[List.getElem_zip];exact hb i (by omega) (by omega)) (by rw[hz];exact he)
 rw[h,Bn];have h2:=KS (λp:α×α=>!decide (p.1=p.2)) (a.zip b);rw[VV hl] at h2
 cases hf:(a.zip b).findIdx? λp=>!decide (p.1=p.2) with
 | none=>
  rw[hf] at h2;have:decide (a=b)=true:=by cases hd:decide (a=b) with | true=>rfl | false=>rw[hd] at h2;cases h2
  rw[this];rfl
 | some j=>
  rw[hf] at h2;have:decide (a=b)=false:=by cases hd:decide (a=b) with | false=>rfl | true=>rw[hd] at h2;cases h2
  rw[this];rfl
theorem Rt {F:Nat}{a b:List Ac}(hF:a.length<F)(hn:a.length≤1000000):Jm F a b=some (decide (a=b)):=by
 unfold Jm
 by_cases hl:a.length=b.length
 ·rw[AP (by simp[hl])];exact OS hl hF (λi h h'=>by
   unfold Jl;rw[Bd (Agc (by omega)),Bp (by omega) (by omega),Bp (by omega) (by omega),CI h,CI h',Ba (by omega) (by omega)]
   congr 2
   obtain⟨x1,x2,x3,x4⟩:=a[i];obtain⟨y1,y2,y3,y4⟩:=b[i];rw[Agt];simp only[Agf,AfY,Ac.mk.injEq];exact⟨λ⟨⟨⟨h1,h2⟩,h3⟩,h4⟩=>⟨h1,h2,h3,h4⟩,λ⟨h1,h2,h3,h4⟩=>⟨⟨⟨h1,h2⟩,h3⟩,h4⟩⟩) (by unfold Jl;rw[AP (Aga (by omega))])
 ·rw[Bd (by simp;omega),Aga (λe=>hl (by rw[e]))]
theorem V4 {α:Type}{a b:List α}(h : ¬ a.length=b.length) : ¬ a=b:=λe=>h (by rw[e])
theorem Yy {F:Nat}{a b:List Aj}(hF:a.length<F)(hn:a.length≤1000000):KO F a b=some (decide (a=b)):=by
 unfold KO
 by_cases hl:a.length=b.length
 ·rw[AP (by simp[hl])];exact OS hl hF (λi h h'=>by
   unfold Ia;rw[Bd (Agc (by omega)),Bp (by omega) (by omega),Bp (by omega) (by omega),CI h,CI h',Ba (by omega) (by omega)]) (by unfold Ia;rw[AP (Aga (by omega))])
 ·rw[Bd (by simp;omega),Aga (V4 hl)]
theorem Vp (a b:An):a=b↔a.fID=b.fID∧a.fTenant=b.fTenant∧a.fCause=b.fCause∧a.fAt=b.fAt∧a.fEffect.fKind=b.fEffect.fKind∧a.fEffect.fKey=b.fEffect.fKey∧a.fEffect.fDelay=b.fEffect.fDelay∧a.fEffect.fValue=b.fEffect.fValue:=by
 obtain⟨a1,a2,a3,a4,⟨a5,a6,a7,a8⟩⟩:=a;obtain⟨b1,b2,b3,b4,⟨b5,b6,b7,b8⟩⟩:=b;simp only[An.mk.injEq,As.mk.injEq];constructor
 ·rintro⟨h1,h2,h3,h4,h5,h6,h7,h8⟩;exact⟨h1,h2,h3,h4,h5,h6,h8,h7⟩
 ·rintro⟨h1,h2,h3,h4,h5,h6,h7,h8⟩;exact⟨h1,h2,h3,h4,h5,h6,h8,h7⟩
theorem Uo (a b:Bt):a=b↔a.fKey=b.fKey∧a.fVersion=b.fVersion∧a.fValue=b.fValue:=by
 obtain⟨a1,a2,a3⟩:=a;obtain⟨b1,b2,b3⟩:=b;simp only[Bt.mk.injEq];constructor
 ·rintro⟨h1,h2,h3⟩;exact⟨h1,h3,h2⟩
 ·rintro⟨h1,h2,h3⟩;exact⟨h1,h3,h2⟩
theorem QO {F:Nat}{a b:List An}(hF:a.length<F)(hF2:200<F)(hn:a.length≤1000000)(hv:∀x∈a,x.fEffect.fValue.length≤200):Gl F a b=some (decide (a=b)):=by
 unfold Gl
 by_cases hl:a.length=b.length
 ·rw[AP (by simp[hl])];exact OS hl hF (λi h h'=>by
   have hvi:=hv _ (List.getElem_mem h);unfold Eh;rw[Bd (Agc (by omega)),Bp (by omega) (by omega),Bp (by omega) (by omega),CI h,CI h',Rt (by omega) (by omega),Ba (by omega) (by omega)];simp only[Option.isSome_some,NJ,NP,JQ]
   congr 1
   rw[Agt];simp only[Ag4,Agy,AfZ,Vp a[i] b[i]]
   grind) (by unfold Eh;rw[AP (Aga (by omega))])
 ·rw[Bd (by simp;omega),Aga (V4 hl)]
theorem Ul {F:Nat}{a b:List Bt}(hF:a.length<F)(hF2:200<F)(hn:a.length≤1000000)(hv:∀x∈a,x.fValue.length≤200):Ix F a b=some (decide (a=b)):=by
 unfold Ix
 by_cases hl:a.length=b.length
 ·rw[AP (by simp[hl])];exact OS hl hF (λi h h'=>by
   have hvi:=hv _ (List.getElem_mem h);unfold G7;rw[Bd (Agc (by omega)),Bp (by omega) (by omega),Bp (by omega) (by omega),CI h,CI h',Rt (by omega) (by omega),Ba (by omega) (by omega)];simp only[Option.isSome_some,NJ,NP,JQ]
   congr 1
   rw[Agt];simp only[Ag4,Agy,AfZ,Uo a[i] b[i]]
   grind) (by unfold G7;rw[AP (Aga (by omega))])
 ·rw[Bd (by simp;omega),Aga (V4 hl)]
theorem Ni {F:Nat}{l:List Aj}{s:Aj}(hF:l.length<F)(hn:l.length≤1000000):J5 F l s=some (decide (s∈l)):=by
 unfold J5;rw[PQ (l:=l) (p:=λx=>decide (x=s)) (ret:=λ_=>true) (u:=()) hF (λi h=>by
  unfold J4;rw[Bd (Agc (by omega)),Bp (by omega) (by omega),CI h,Ba (by omega) (by omega)]) (by unfold J4;rw[AP (Aga (by omega))]),Bn]
 have h2:=KS (λx=>decide (x=s)) l;have h3:(l.any λx=>decide (x=s))=decide (s∈l):=by
  rw[Agt];simp
 rw[h3] at h2
 cases hf:l.findIdx? λx=>decide (x=s) with
 | none=>rw[hf] at h2;rw[← h2];rfl
 | some j=>rw[hf] at h2;rw[← h2];rfl
theorem Yz {F:Nat}{l:List Aj}{s:Aj}(hF:l.length<F)(hn:l.length≤1000000):KP F l s=some (decide (s∈l)):=Ni hF hn
theorem R7 {F:Nat}:∀(ord:Ld) (s:List Aj),s.length+ord.length≤1000000→RE (λ(pe:Aj×Ai) τ=>GY pe.1 pe.2 τ) ord s=some (Out.go (s++ord.map (·.1)))
 | [],s,_=>by simp[RE]
 | p::r,s,h=>by
  rw[Agd] at h;have h1:GY p.1 p.2 s=some (.next (s++[p.1])):=by
   unfold GY;rw[Gr (by simp;omega)]
  rw[RE,h1];refine(R7 (F:=F) r (s++[p.1]) (by simp;omega)).trans ?_;simp
theorem Sv {m ord:Ld}(hm:Ms m)(h:ord.Perm m):BR (ord.map (·.1))=m.map (·.1):=by
 obtain⟨h1,h2⟩:=QG (ord.map (·.1));refine Oe _ _ h1 ?_ λx=>?_
 ·rw[List.pairwise_map];refine List.Pairwise.imp ?_ hm;intro p q hpq;rw[show C9 p.1 q.1=decide (p.1<q.1) from bytesLess_eq p.1 q.1] at hpq;exact Agm hpq
 ·rw[h2];exact(h.map (·.1)).mem_iff
theorem R0 {F n:Nat}{o:Ao}(h:LG n o)(hn:n≤100)(hF:5000<F)(t:Aj):Io F o t=some (H8 o t):=by
 unfold Io EH;rw[Bn,h.made,AP (by rfl)];have hk:=h.ks t;have hlen:=hk.len;refine Aa0 λord hp=>?_;have hlo:=hp.length_eq;have hp':ord.Perm (QP o t):=hp;have hlo':ord.length=(QP o t).length:=hlo;rw[R7 (F:=F) ord [] (by simp;omega),Bn];show G0 F o t ([]++ord.map (·.1))=_;rw[AgK];unfold G0;rw[Gr (by rw[Agj];omega)];have hsn:=Sv hk.ms hp';generalize hns:ord.map (·.1)=ns at hsn;have hrun:=(HP (l:=(QP o t).map (·.1)) (mk:=λi (acc:List Bt)=>(acc,(i:Int))) (fin:=id) (body:=λσ=>G1 o t ns σ.1 σ.2) (λ_ acc k=>.go (acc++[Bt.mk k (BE (QP o t) k QA).fValue (BE (QP o t) k QA).fVersion])) (λi acc=>acc.length=i) (λi hi acc hP=>by
  have hi':i<256:=by rw[Agj] at hi;omega
  refine⟨?_,λb hb=>by cases hb;simp[hP]⟩;unfold G1;simp only;rw[hsn,Bd (Agc (by omega)),Bp (by omega) (by omega),CI hi];generalize((QP o t).map (·.1))[i]=k;have hv:=hk.ver k;show Bs (HA ((BE (QP o t) k QA).fValue)) _=_;rw[Kf (by omega),Bn,VH (by simp;omega),Ba (by omega) (by omega)];rfl) (λacc hP=>by unfold G1;simp only;rw[hsn,AP (Aga (by omega))];rfl) (F:=F) (by rw[Agj];omega) (a:=[]) rfl).1
 show Bs (Cj (λσ=>G1 o t ns σ.1 σ.2) F ([],((0:Nat):Int))) (BQ λν=>Js ν)=_;rw[hrun,ML (λk=>Bt.mk k (BE (QP o t) k QA).fValue (BE (QP o t) k QA).fVersion),Bn];show some ([]++_)=_;rw[AgK,AgX];unfold H8;refine congrArg some (List.map_congr_left λp hp=>?_);show Bt.mk p.1 (BE (QP o t) p.1 QA).fValue (BE (QP o t) p.1 QA).fVersion=itI p;have:BE (QP o t) p.1 QA=p.2:=by
  unfold BE;rw[KK hk.ms.nodup hp];rfl
 rw[this];rfl
theorem V7 {n:Nat}{o:Ao}(h:LG n o)(t:Aj):(H8 o t).length≤256∧∀x∈H8 o t,x.fValue.length≤200:=by
 have hk:=h.ks t;refine⟨by unfold H8;rw[Agj];exact hk.len,λx hx=>?_⟩;obtain⟨p,hp,rfl⟩:=List.mem_map.1 hx;exact(hk.val p hp).2.2
theorem RH (l:List An)(n:Int):NG l n=some (TZ l n):=by
 unfold NG TZ
 cases h:decide (n<0)||decide ((l.length:Int)≤n) with
 | true=>rfl
 | false=>
  simp only[Ag7,AfZ] at h;rw[Cq,Agb,Bp (by omega) (by omega)]
theorem RL (rs:List (List Aj)):(LZ rs).1.length≤262144:=by
 unfold LZ Ou
 cases rs.all TM with
 | false=>exact AgA _
 | true=>
  rw[Agg]
  cases hd:decide (((rs.map Gw).flatMap CP).length≤262144) with
  | true=>exact Agm hd
  | false=>exact AgA _
theorem U8 (c:AE):(KV c).1.length≤262144:=by
 unfold KV
 cases decide (KU c=0) with
 | true=>exact RL _
 | false=>show([]:Aj).length≤_;decide
theorem UM (id:Aj):(VQ id).1.length≤262144:=by
 unfold VQ
 cases Mw id with
 | true=>exact RL _
 | false=>show([]:Aj).length≤_;decide
theorem Afg {n:Nat}{o:Ao}(h:LG n o)(hn:n≤100){x:Bb}(hx:OpS x):RI FF o x=some (EJ o x):=by
 unfold RI EJ;rw[PL h hn hx.c (by decide) (by decide) (by decide),SM h hn (by decide),Eu h hn (by decide),PH h hn (by decide) (by have:=hx.s;show _<5000000;omega) (by have:=hx.s;omega),AfJ hx.c,LV (by decide)];simp only[Bn,RH];rw[SM h hn (by decide),PH h hn (by decide) (by have:=U8 x.fC;show _<5000000;omega) (by have:=U8 x.fC;omega),PH h hn (by decide) (by have:=UM x.fS;show _<5000000;omega) (by have:=UM x.fS;omega)];simp only[Bn,NO]
structure Chg (o o':Ao):Prop where
 ev:∀e∈o.fEvents,e∈o'.fEvents
 pd:∀y∈o'.fPending,y∈o.fPending∨y.fCause ∉ o.fEvents
theorem Chg.refl (o:Ao):Chg o o:=⟨λ_ h=>h,λ_ h=>.inl h⟩
theorem EB {n:Nat}{o:Ao}(h:LG n o)(c:AE) :
  ((D5 o c).1=false∧(D5 o c).2.2=o∧(c.fEvent∈o.fEvents∨(D5 o c).2.1≠0))∨
  ((D5 o c).1=true∧(D5 o c).2.1=0∧c.fEvent ∉ o.fEvents∧(D5 o c).2.2.fEvents=o.fEvents++[c.fEvent]∧(D5 o c).2.2.fPending=o.fPending++Mn c 0 c.fEffects∧KU c=0):=by
 unfold D5
 by_cases he:KU c=0
 ·rw[Agc he];simp only[Agl,Agb]
  cases hh:EP o.fResults c.fEvent with
  | true=>
   rw[Agg];refine .inl ⟨rfl,rfl,.inl ?_⟩;have:=h.ev c.fEvent;rw[hh] at this;exact Agm this.symm
  | false=>
   rw[Agb];have hne:c.fEvent ∉ o.fEvents:=by
    have:=h.ev c.fEvent;rw[hh] at this;exact AgR this.symm
   cases decide (4000≤(o.fEvents.length:Int)) with
   | true=>exact .inl ⟨rfl,rfl,.inr (show(3:Int)≠0 by decide)⟩
   | false=>
    rw[Agb]
    cases Vk (QP o c.fTenant) c.fEffects with
    | ret q=>exact .inl ⟨rfl,rfl,.inr (show(3:Int)≠0 by decide)⟩
    | go m=>exact .inr ⟨rfl,rfl,hne,rfl,rfl,he⟩
 ·rw[Aga he];exact .inl ⟨rfl,rfl,.inr he⟩
theorem Qt {n:Nat}{o:Ao}(h:LG n o)(c:AE):Chg o (D5 o c).2.2:=by
 rcases EB h c with⟨_,h2,_⟩ | ⟨_,_,h3,h4,h5,_⟩
 ·rw[h2];exact Chg.refl o
 ·refine⟨λe he=>by rw[h4];exact List.mem_append_left _ he,λy hy=>?_⟩;rw[h5] at hy;rcases List.mem_append.1 hy with hy | hy
  ·exact .inl hy
  ·obtain⟨k,hk,_,rfl⟩:=Jv hy;exact .inr h3
theorem Tc (o:Ao)(id:Aj):Chg o (LM o id).2:=by
 unfold LM
 cases QR o.fPending id with
 | none=>exact Chg.refl o
 | some i=>exact⟨λ_ h=>h,λy hy=>.inl ((LQ o.fPending i).subset hy)⟩
theorem Uh {n:Nat}{o:Ao}(h:LG n o)(rc:Aj):Chg o (It o rc).2:=by
 unfold It
 cases Oq rc with
 | none=>exact Chg.refl o
 | some q=>
  cases q with
  | inl id=>exact Tc o id
  | inr c=>exact Qt h c
theorem Aek {n:Nat}{o:Ao}(h:LG n o)(x:Bb):Chg o (EJ o x).2.2:=by
 unfold EJ
 cases decide (x.fKind=0) with
 | true=>exact Qt h _
 | false=>
  cases decide (x.fKind=1) with
  | true=>exact Tc o _
  | false=>
   cases decide (x.fKind=2) with
   | true=>exact Tc o _
   | false=>
    cases decide (x.fKind=3) with
    | true=>exact Uh h _
    | false=>cases decide (x.fKind=4)<;>exact Uh h _
theorem Xb {o:Ao}{id:Aj}(h:(LM o id).1≠0):(LM o id).2=o:=by
 unfold LM at h ⊢
 cases hi:QR o.fPending id with
 | none=>rfl
 | some i=>rw[hi] at h;exact absurd rfl h
theorem PS {n:Nat}{o:Ao}(hI:LG n o){rc:Aj}(h:(It o rc).1≠0):(It o rc).2=o:=by
 unfold It at h ⊢
 cases hk:Oq rc with
 | none=>rfl
 | some q=>
  rw[hk] at h
  cases q with
  | inl id=>exact absurd rfl h
  | inr c=>
   rcases EB hI c with⟨_,h2,_⟩ | ⟨_,h2,_⟩
   ·exact h2
   ·exact absurd h2 h
theorem Aej {n:Nat}{o:Ao}(hI:LG n o){x:Bb}(h:(EJ o x).2.1≠0):(EJ o x).2.2=o:=by
 unfold EJ at h ⊢
 cases h0:decide (x.fKind=0) with
 | true=>
  rw[h0] at h;rcases EB hI x.fC with⟨_,h2,_⟩ | ⟨_,h2,_⟩
  ·exact h2
  ·exact absurd h2 h
 | false=>
  rw[h0] at h
  cases h1:decide (x.fKind=1) with
  | true=>rw[h1] at h;exact Xb h
  | false=>
   rw[h1] at h
   cases h2:decide (x.fKind=2) with
   | true=>rw[h2] at h;exact Xb h
   | false=>
    rw[h2] at h
    cases h3:decide (x.fKind=3) with
    | true=>rw[h3] at h;exact PS hI h
    | false=>
     rw[h3] at h
     cases h4:decide (x.fKind=4) with
     | true=>rw[h4] at h;exact PS hI h
     | false=>rw[h4] at h;exact PS hI h
theorem Aff {n:Nat}{o:Ao}(hI:LG n o){x:Bb}(h:(EJ o x).1=true):x.fKind=0∧x.fC.fEvent ∉ o.fEvents∧x.fC.fEvent∈(EJ o x).2.2.fEvents:=by
 by_cases h0:x.fKind=0
 ·unfold EJ at h ⊢;rw[Agc h0,Agg] at h ⊢;rcases EB hI x.fC with⟨h1,_⟩ | ⟨_,_,h3,h4,_⟩
  ·rw[h1] at h;cases h
  ·exact⟨h0,h3,by rw[h4];simp⟩
 ·exfalso;unfold EJ at h;rw[Aga h0,Agb] at h
  cases h1:decide (x.fKind=1) with
  | true=>rw[h1] at h;cases h
  | false=>
   rw[h1] at h
   cases h2:decide (x.fKind=2) with
   | true=>rw[h2] at h;cases h
   | false=>
    rw[h2] at h
    cases h3:decide (x.fKind=3) with
    | true=>rw[h3] at h;cases h
    | false=>
     rw[h3] at h
     cases h4:decide (x.fKind=4) with
     | true=>rw[h4] at h;cases h
     | false=>rw[h4] at h;cases h
theorem Abm {n:Nat}{o:Ao}(hI:LG n o){x:Bb}(h0:x.fKind=0)(hk:x.fC.fEvent∈o.fEvents):(EJ o x).1=false∧(EJ o x).2.2=o:=by
 unfold EJ;rw[Agc h0,Agg];rcases EB hI x.fC with⟨h1,h2,_⟩ | ⟨_,_,h3,_⟩
 ·exact⟨h1,h2⟩
 ·exact absurd hk h3
theorem Yn {o:Ao}{c:AE}(h:(KV c).2=0):It o (KV c).1=((D5 o c).2.1,(D5 o c).2.2):=by
 unfold It;rw[AaB (c:=c) (Prod.ext rfl h)];rfl
theorem Abj {c:AE}(h:(KV c).2≠0):(KV c).1=[]:=by
 unfold KV at h ⊢
 cases hd:decide (KU c=0) with
 | false=>rfl
 | true=>
  rw[hd,Agg] at h;rw[Agg];unfold LZ at h ⊢
  cases ha:(TE c).all TM with
  | false=>rfl
  | true=>
   rw[ha,Agg] at h;rw[Agg,RK h]
theorem Abl {n:Nat}{o:Ao}(hI:LG n o){x:Bb}(h4:x.fKind=4)(hk:x.fC.fEvent∈o.fEvents)(he:(EJ o x).2.1=0):(EJ o x).2.2=o:=by
 unfold EJ at he ⊢;rw[Aga (show ¬ x.fKind=0 by omega),Aga (show ¬ x.fKind=1 by omega),Aga (show ¬ x.fKind=2 by omega),Aga (show ¬ x.fKind=3 by omega),Agc h4] at he ⊢;simp only[Agb,Agg] at he ⊢
 by_cases hc:(KV x.fC).2=0
 ·rw[Yn hc];rcases EB hI x.fC with⟨_,h2,_⟩ | ⟨_,_,h3,_⟩
  ·exact h2
  ·exact absurd hk h3
 ·rw[Abj hc] at he;unfold It at he;rw[AaA] at he;exact absurd (show(13:Int)=0 from he) (by decide)
def idA (o:Ao)(x:Bb):Aj:=bif decide (x.fKind=2) then TZ o.fPending x.fN else x.fS
def Ko (gone:List Aj)(o:Ao)(x:Bb):List Aj:=bif (decide (x.fKind=1)||decide (x.fKind=2))&&decide ((EJ o x).2.1=0) then gone++[idA o x] else gone
structure AbF (gone:List Aj) (o:Ao):Prop where
 of:∀g∈gone,∃e i,e∈o.fEvents∧CC e i=0∧g=BV e i
 no:∀g∈gone,∀y∈o.fPending,y.fID≠g
theorem XW {l:List An}{i:Nat}(hi:i<l.length)(hn:(l.map (·.fID)).Nodup):∀y∈l.take i++l.drop (i+1),y.fID≠l[i].fID:=by
 have e:l=l.take i++l[i]::l.drop (i+1):=by rw[← List.drop_eq_getElem_cons hi,AgN]
 generalize hx:l[i]=x at e;generalize l.take i=a at e;generalize l.drop (i+1)=b at e;rw[e,AgS,AgO] at hn;have hp:=(List.perm_middle (a:=x.fID) (l₁:=a.map (·.fID)) (l₂:=b.map (·.fID))).nodup_iff.1 hn;rw[List.nodup_cons] at hp;intro y hy he;apply hp.1;rw[← AgS,← he];exact List.mem_map.2 ⟨y,hy,rfl⟩
theorem AbE {n:Nat}{o:Ao}(hI:LG n o){id:Aj}(h:(LM o id).1=0):(∃e i,e∈o.fEvents∧CC e i=0∧id=BV e i)∧∀y∈(LM o id).2.fPending,y.fID≠id:=by
 unfold LM at h ⊢
 cases hi:QR o.fPending id with
 | none=>rw[hi] at h;exact absurd (show(5:Int)=0 from h) (by decide)
 | some i=>
  obtain⟨hl,hid⟩:=WF hi;obtain⟨h1,j,h2,h3⟩:=hI.pc _ (List.getElem_mem hl);refine⟨⟨_,j,h1,h2,hid.symm.trans h3⟩,λy hy=>?_⟩;have:=XW hl hI.pu y hy;rw[hid] at this;exact this
theorem RP {n:Nat}{gone:List Aj}{o:Ao}(hI:LG n o)(hG:AbF gone o)(x:Bb):AbF (Ko gone o x) (EJ o x).2.2:=by
 have hc:=Aek hI x;have old:AbF gone (EJ o x).2.2:=⟨λg hg=>by
  obtain⟨e,i,h1,h2⟩:=hG.of g hg;exact⟨e,i,hc.ev e h1,h2⟩,λg hg y hy he=>by
  rcases hc.pd y hy with h | h
  ·exact hG.no g hg y h he
  ·obtain⟨e,i,h1,h2,h3⟩:=hG.of g hg;obtain⟨_,j,h5,h6⟩:=(V9 hI x).pc y hy;have:=(NQ h5 h2 (h6.symm.trans (he.trans h3))).1;exact h (this▸h1)⟩
 unfold Ko
 cases hd:(decide (x.fKind=1)||decide (x.fKind=2))&&decide ((EJ o x).2.1=0) with
 | false=>exact old
 | true=>
  rw[Agg];simp only[Agf,Ag4,AfY] at hd;obtain⟨hk,he⟩:=hd;have hdo:EJ o x=(false,LM o (idA o x)):=by
   unfold EJ idA;rcases hk with hk | hk
   ·rw[Aga (show ¬ x.fKind=0 by omega),Agc hk,Aga (show ¬ x.fKind=2 by omega)];rfl
   ·rw[Aga (show ¬ x.fKind=0 by omega),Aga (show ¬ x.fKind=1 by omega),Agc hk];rfl
  rw[hdo] at he old hc ⊢;obtain⟨⟨e,i,h1,h2⟩,h3⟩:=AbE hI he;refine⟨λg hg=>?_,λg hg=>?_⟩
  ·rcases List.mem_append.1 hg with hg | hg
   ·exact old.of g hg
   ·obtain rfl:=List.mem_singleton.1 hg;exact⟨e,i,hc.ev e h1,h2⟩
  ·rcases List.mem_append.1 hg with hg | hg
   ·exact old.no g hg
   ·obtain rfl:=List.mem_singleton.1 hg;exact h3
theorem Uu (gone:List Aj)(o:Ao)(x:Bb):(Ko gone o x).length≤gone.length+1:=by
 unfold Ko
 cases(decide (x.fKind=1)||decide (x.fKind=2))&&decide ((EJ o x).2.1=0)<;>simp
theorem Aa8 {O:Type}{N:Nat}{body:Int→Option (Stp Int O)}{u:O}(hb:∀i:Nat,i<N→body (i:Int)=some (.next ((i:Int)+1)))(he:body (N:Int)=some (.out u)):∀(k n i:Nat),i+k=N→k<n→Cj body n (i:Int)=some u:=by
 intro k
 induction k with
 | zero=>
  intro n i h hn;obtain⟨n,rfl⟩:∃m,n=m+1:=⟨n-1,by omega⟩
  obtain rfl:i=N:=by omega
  rw[Cj,he]
 | succ k ih=>
  intro n i h hn;obtain⟨n,rfl⟩:∃m,n=m+1:=⟨n-1,by omega⟩
  rw[Cj,hb i (by omega)];exact ih n (i+1) (by omega) (by omega)
def Za (i:Nat)(s:List Aj×Ao):(List Aj)×Int×Bool×(List Aj)×(List An)×(List (Aj×(List Ac)))×(List (Aj×(List (Aj×Ai)))):=
 (s.1,(i:Int),s.2.fMade,s.2.fEvents,s.2.fPending,s.2.fResults,s.2.fKeys)
structure Adz (i:Nat) (s:List Aj×Ao):Prop where
 inv:LG i s.2
 gone:AbF s.1 s.2
 len:s.1.length≤i
theorem JR {n:Nat}{gone:List Aj}{o:Ao}(hI:LG n o)(hn:n≤100)(hG:AbF gone o)(hl:gone.length≤100){T:Type}{body:Int→Option (Stp Int (Out T (Int×Int×Bool)))}{j:Int→Bool→Option (Stp Int (Out T (Int×Int×Bool)))}
  (hj:∀i:Nat,i<o.fPending.length→j (i:Int) false=some (.next ((i:Int)+1)))
  (hb:∀i:Int,body i=B0 (decide (i<(o.fPending.length:Int))) (Bi (Da i (o.fPending.length:Int))<|Bs (KP FF gone ((Al o.fPending i).fID)) λr=>B0 r (j i true) (Bs (DD o) λr'=>Bs (J5 FF r' ((Al o.fPending i).fCause)) λr''=>j i (!r''))) (some (.out (.go (i,i,decide (i<(o.fPending.length:Int))))))) :
  ∃v,Cj body FF 0=some (.go v):=by
 have hp:=hI.pn;have hev:=hI.ln;refine⟨((o.fPending.length:Int),(o.fPending.length:Int),false),Aa8 (N:=o.fPending.length) (u:=Out.go (R:=T) ((o.fPending.length:Int),(o.fPending.length:Int),false)) (λi hi=>?_) ?_ o.fPending.length FF 0 (by omega) (by show _<5000000;omega)⟩
 ·have hm:=List.getElem_mem hi;rw[hb,Bd (Agc (by omega)),Bp (by omega) (by omega),CI hi,Yz (by show _<5000000;omega) (by omega),Bn,Aga (λhg=>hG.no _ hg _ hm rfl),Cq,JU hI hn,Bn,Ni (by show _<5000000;omega) (by omega),Bn,Agc (hI.pc _ hm).1];exact hj i hi
 ·rw[hb,AP (Aga (by omega)),Aga (by omega)]
theorem XL {l:List Bb}{t:Aj}(hx:∀x∈l,OpS x)(hl:l.length≤60)(i:Nat)(hi:i<l.length)(s:List Aj×Ao)(hP:Adz i s) :
  E9 FF l t (Za i s).1 (Za i s).2.1 (Za i s).2.2.1 (Za i s).2.2.2.1 (Za i s).2.2.2.2.1 (Za i s).2.2.2.2.2.1 (Za i s).2.2.2.2.2.2=some (.next (Za (i+1) (Ko s.1 s.2 l[i],(EJ s.2 l[i]).2.2))):=by
 obtain⟨gone,o⟩:=s;obtain⟨hI,hG,hgl⟩:=hP;simp only at hI hG hgl;have hxi:=hx _ (List.getElem_mem hi);have hI':=V9 hI l[i];have hG':=RP hI hG l[i];have hgl':=Uu gone o l[i];have hpn:=hI.pn;have hln:=hI.ln;have hit:=V7 hI t;unfold Za E9;simp only;rw[Bd (Agc (by omega))];rw[show(Ao.mk o.fMade o.fEvents o.fResults o.fKeys o.fPending)=o from rfl,Eu hI (by omega) (by decide),Bn,R0 hI (by omega) (by decide),Bn,JU hI (by omega),Bn,Bp (by omega) (by omega),CI hi,Ni (by show _<5000000;omega) (by omega),Bn];generalize hxe:l[i]=x at hxi hI' hG' hgl';have hat:Al l (i:Int)=x:=by rw[CI hi,hxe]
 rw[show(Bb.mk x.fKind x.fC x.fS x.fN)=x from rfl,Afg hI (by omega) hxi,RH];simp only[Bn];have hq:∀(Q:Bool→Option (Stp ((List Aj)×Int×Bool×(List Aj)×(List An)×(List (Aj×(List Ac)))×(List (Aj×(List (Aj×Ai))))) (Out (Bool) (Unit)))) ,B0 ((EJ o x).1) (B0 (decide (x.fC.fEvent∈o.fEvents)) (Q true) (B0 (!decide (x.fKind=0)) (Q true) (Bs (DD (EJ o x).2.2) λha=>Bs (J5 FF ha (x.fC.fEvent)) λhb=>Q (!hb)))) (Q false)=Q false:=λQ=>by
  cases his:(EJ o x).1 with
  | false=>rfl
  | true=>
   obtain⟨h1,h2,h3⟩:=Aff hI his;have:=hI'.ln;rw[ER,Aga h2,Cq,Agc h1,JU hI' (by omega),Bn,Ni (by show _<5000000;omega) (by omega),Bn,Agc h3];rfl
 have hcmp:∀(Q:Bool→Option (Stp ((List Aj)×Int×Bool×(List Aj)×(List An)×(List (Aj×(List Ac)))×(List (Aj×(List (Aj×Ai))))) (Out (Bool) (Unit)))),∃sm:Bool,((EJ o x).2.2=o→sm=true)∧(Bs (Dp FF (EJ o x).2.2) λhd=>Bs (Gl FF o.fPending hd) λhf=>B0 (hf) (Bs (Io FF (EJ o x).2.2 t) λhg=>Bs (Ix FF (H8 o t) hg) λhh=>B0 (hh) (Bs (DD (EJ o x).2.2) λhj=>Bs (KO FF o.fEvents hj) λhm=>Q hm) (Q false)) (Q false))=Q sm:=λQ=>by
  have:=hI'.ln;rw[Eu hI' (by omega) (by decide),Bn,QO (by show _<5000000;omega) (by decide) (by omega) hI.pv,Bn];refine⟨decide (o.fPending=(EJ o x).2.2.fPending)&&(decide (H8 o t=H8 (EJ o x).2.2 t)&&decide (o.fEvents=(EJ o x).2.2.fEvents)),λhe=>by rw[he];simp,?_⟩
  cases decide (o.fPending=(EJ o x).2.2.fPending) with
  | false=>rfl
  | true=>
   rw[ER,R0 hI' (by omega) (by decide),Bn,Ul (by show _<5000000;omega) (by decide) (by omega) hit.2,Bn]
   cases decide (H8 o t=H8 (EJ o x).2.2 t) with
   | false=>rfl
   | true=>
    rw[ER,JU hI' (by omega),Bn,Yy (by show _<5000000;omega) (by omega),Bn];rfl
 have hbad:∀sm:Bool,((EJ o x).2.2=o→sm=true)→(bif !decide ((EJ o x).2.1=0) then((!sm)||((decide (x.fKind=0))&&(decide (x.fC.fEvent∈o.fEvents)&&((EJ o x).1||(!sm))))) else((decide (x.fKind=0))&&(decide (x.fC.fEvent∈o.fEvents)&&((EJ o x).1||(!sm)))))=false∧((decide (x.fKind=4))&&(decide (x.fC.fEvent∈o.fEvents)&&((decide ((EJ o x).2.1=0))&&(!sm))))=false:=λsm hs=>by
  have k0:((decide (x.fKind=0))&&(decide (x.fC.fEvent∈o.fEvents)&&((EJ o x).1||(!sm))))=false:=by
   by_cases h0:x.fKind=0
   ·by_cases hk:x.fC.fEvent∈o.fEvents
    ·obtain⟨h1,h2⟩:=Abm hI h0 hk;rw[h1,hs h2];simp
    ·rw[Aga hk];simp
   ·rw[Aga h0];rfl
  refine⟨?_,?_⟩
  ·rw[k0]
   by_cases he:(EJ o x).2.1=0
   ·rw[Agc he];rfl
   ·rw[Aga he,hs (Aej hI he)];rfl
  ·by_cases h4:x.fKind=4
   ·by_cases hk:x.fC.fEvent∈o.fEvents
    ·by_cases he:(EJ o x).2.1=0
     ·rw[hs (Abl hI h4 hk he)];simp
     ·rw[Aga he];simp
    ·rw[Aga hk];simp
   ·rw[Aga h4];rfl
 have hlen':=hI'.pn;have hji:∀(k:Nat),k<(EJ o x).2.2.fPending.length→-9223372036854775808≤(k:Int)+1∧(k:Int)+1≤9223372036854775807:=λk hk=>by omega
 by_cases h2:x.fKind=2
 ·rw[Bd (Agc h2)];rw[hq (λb=>E8 FF l t gone (i:Int) o.fPending (H8 o t) o.fEvents (decide (x.fC.fEvent∈o.fEvents)) (TZ o.fPending x.fN) (EJ o x) b)];unfold E8;rw[Cq];obtain⟨sm,hs,hrun⟩:=hcmp (λb=>G6 FF l gone (i:Int) (decide (x.fC.fEvent∈o.fEvents)) (TZ o.fPending x.fN) (EJ o x) b);rw[hrun];obtain⟨b1,b2⟩:=hbad sm hs;unfold G6;rw[hat,AP b1,AP b2];have hgo:Ko gone o x=bif decide ((EJ o x).2.1=0) then gone++[TZ o.fPending x.fN] else gone:=by
   unfold Ko idA;rw[Agc h2];simp
  rw[hgo] at hG' hgl'
  cases he:decide ((EJ o x).2.1=0) with
  | true=>
   rw[he,Agg] at hG' hgl';rw[ER,Gr (by simp;omega),Eu hI' (by omega) (by decide),Bn];obtain⟨v,hv⟩:=JR hI' (by omega) hG' (by omega) (body:=λσ=>J0 FF gone (TZ o.fPending x.fN) (EJ o x) (EJ o x).2.2.fPending σ) (j:=λa b=>Hg a b) (λk hk=>by unfold Hg;rw[Cq,Ba (hji k hk).1 (hji k hk).2]) (λk=>rfl);rw[hv,Bn,GH];unfold Jy DK;rw[Ba (by omega) (by omega),hgo,he];rfl
  | false=>
   rw[he,Agb] at hG' hgl';rw[Cq,Eu hI' (by omega) (by decide),Bn];obtain⟨v,hv⟩:=JR hI' (by omega) hG' (by omega) (body:=λσ=>Jz FF gone (EJ o x) (EJ o x).2.2.fPending σ) (j:=λa b=>Hf a b) (λk hk=>by unfold Hf;rw[Cq,Ba (hji k hk).1 (hji k hk).2]) (λk=>rfl);rw[hv,Bn,GH];unfold Jx DK;rw[Ba (by omega) (by omega),hgo,he];rfl
 ·rw[AP (Aga h2)];rw[hq (λb=>E7 FF l t gone (i:Int) o.fPending (H8 o t) o.fEvents (decide (x.fC.fEvent∈o.fEvents)) (EJ o x) b)];unfold E7;rw[Cq];obtain⟨sm,hs,hrun⟩:=hcmp (λb=>E1 FF l gone (i:Int) (decide (x.fC.fEvent∈o.fEvents)) (EJ o x) b);rw[hrun];obtain⟨b1,b2⟩:=hbad sm hs;unfold E1;rw[hat,AP b1,AP b2];have hgo:Ko gone o x=bif decide (x.fKind=1)&&decide ((EJ o x).2.1=0) then gone++[x.fS] else gone:=by
   unfold Ko idA;rw[Aga h2];simp
  rw[hgo] at hG' hgl'
  cases he:decide (x.fKind=1)&&decide ((EJ o x).2.1=0) with
  | true=>
   rw[he,Agg] at hG' hgl';rw[ER,Gr (by simp;omega),Eu hI' (by omega) (by decide),Bn];obtain⟨v,hv⟩:=JR hI' (by omega) hG' (by omega) (body:=λσ=>Hh FF l gone (i:Int) (EJ o x) (EJ o x).2.2.fPending σ) (j:=λa b=>Gn a b) (λk hk=>by unfold Gn;rw[Cq,Ba (hji k hk).1 (hji k hk).2]) (λk=>by unfold Hh;rw[hat]);rw[hv,Bn,GH];unfold Iv DK;rw[hat,Ba (by omega) (by omega),hgo,he];rfl
  | false=>
   rw[he,Agb] at hG' hgl';rw[Cq,Eu hI' (by omega) (by decide),Bn];obtain⟨v,hv⟩:=JR hI' (by omega) hG' (by omega) (body:=λσ=>Iw FF gone (EJ o x) (EJ o x).2.2.fPending σ) (j:=λa b=>Gm a b) (λk hk=>by unfold Gm;rw[Cq,Ba (hji k hk).1 (hji k hk).2]) (λk=>rfl);rw[hv,Bn,GH];unfold Iu DK;rw[Ba (by omega) (by omega),hgo,he];rfl
theorem V6 {l:List Bb}{t:Aj}(hx:∀x∈l,OpS x):PU FF l t=some true:=by
 unfold PU
 by_cases ha:60<(l.length:Int)
 ·rw[Bd (Agc ha),Ot,Bn]
 ·rw[AP (Aga ha)];unfold XR;rw[Bn];have h:=(HP (l:=l) (mk:=Za) (fin:=λ_=>()) (body:=λσ=>E9 FF l t σ.1 σ.2.1 σ.2.2.1 σ.2.2.2.1 σ.2.2.2.2.1 σ.2.2.2.2.2.1 σ.2.2.2.2.2.2) (R:=Bool) (λ_ s x=>.go (Ko s.1 s.2 x,(EJ s.2 x).2.2)) Adz (λi hi s hP=>⟨by rw[XL hx (by omega) i hi s hP];rfl,λb hb=>by
   cases hb
   exact⟨V9 hP.inv _,RP hP.inv hP.gone _,by have:=Uu s.1 s.2 l[i];have:=hP.len;show(Ko _ _ _).length≤_;omega⟩⟩) (λs hP=>by unfold E9 Za;simp only;rw[AP (Aga (by omega))]) (F:=FF) (by show _<5000000;omega) (a:=([],Ac4)) ⟨AcI,⟨λg hg=>(by cases hg),λg hg=>(by cases hg)⟩,Agu _⟩).1
  show Bs (Cj (λσ=>E9 FF l t σ.1 σ.2.1 σ.2.2.1 σ.2.2.2.1 σ.2.2.2.2.1 σ.2.2.2.2.2.1 σ.2.2.2.2.2.2) FF (Za 0 ([],Ac4))) (BQ λν=>He FF)=_;rw[h,Bn];have hgo:∀(l:List Bb) (i:Nat) (s:List Aj×Ao),∃b,Gg (R:=Bool) (λ_ s x=>.go (Ko s.1 s.2 x,(EJ s.2 x).2.2)) i s l = .go b:=by
   intro l
   induction l with
   | nil=>intro i s;exact⟨s,rfl⟩
   | cons x l ih=>intro i s;rw[Gg];exact ih (i+1) _
  obtain⟨b,hb⟩:=hgo l 0 ([],Ac4);rw[hb];show He FF=_;unfold He;rw[Ot,Bn]
end Go.Proofs.YtfobhhegpkinaaaGreatDoor
namespace Go.Proofs.YtfobhhegpkinaaaGreatDoor.lawOutboxOnce
open Go
set_option linter.unusedVariables false
theorem law:Law:=λl t h0 _=>⟨FF,V6 λx hx=>OpS.ofB (List.all_eq_true.1 (Bool.and_eq_true_iff.1 h0).1 x hx)⟩
end Go.Proofs.YtfobhhegpkinaaaGreatDoor.lawOutboxOnce
