/-
  Texts of the proof, put together: LdF, LdG, LdH, LdI, LdJ, LdK, LtA, LrB, LtB, LtD, LsB, LsC, LsD, PN, PO, LkA, LkB, LkC, LkD, LkE, LkF, LsE, LsF, LsG, LwRecords.
-/
import Derived.Test.YtjfnokmpfekniaaGreatDoorKR5
import Derived.Sort.Walk0
namespace Go.Proofs.YtjfnokmpfekniaaGreatDoor
open Go
set_option linter.unusedVariables false
set_option linter.unusedSimpArgs false
theorem NR (S u:Ag) (cs:List Aa) (g:Bool):Aw.mk S ((S.length:Int)-u.length) cs g=DK S u cs g:=rfl
theorem NQ {o:Out (Bool×Aw) Unit} {r:Bool×Aw} {K:Unit→Option (Bool×Aw)} (h:o = .ret r):B6 K o=some r:=by rw[h];rfl
theorem KD {α:Type} {n:Nat} {x:Option α} (h:n≤1000000):AN (Dw 40 n) x=x:=B3 (AcI (by omega))
theorem Tw {F P:Nat} {S u:Ag} {x16 D:List Aa} {k:Int} {g:Bool} (hS:S.length≤100000) (hs:Ea u S) (hk1:1≤k) (hk2:k≤200000) (hV:VOk F P S u (x16++⟨5,0,[],k-1⟩::D) g) :
  (∃q',LB2 F x16 (k,S,(S.length:Int)-u.length,x16++⟨5,0,[],k-1⟩::D,g)=some (.out (.ret (false,q')))∧(Gb true P u=none∨∃f s2,Gb true P u=some (f,s2)∧∀c s3,s2=c::s3→decide (c=Be false)=false∧decide (c=44)=false))∨
  ∃f s2,Gb true P u=some (f,s2)∧Ea s2 S∧((∃s3,s2=Be false::s3∧LB2 F x16 (k,S,(S.length:Int)-u.length,x16++⟨5,0,[],k-1⟩::D,g)=some (.out (.ret (true,DK S s3 (x16++⟨5,0,[],k⟩::(D++f.flat.map CV)) (g||f.flat.any Ca)))))∨
   (∃s3,s2=44::s3∧LB2 F x16 (k,S,(S.length:Int)-u.length,x16++⟨5,0,[],k-1⟩::D,g)=some (.next (k+1,S,(S.length:Int)-s3.length,x16++⟨5,0,[],k⟩::(D++f.flat.map CV),g||f.flat.any Ca)))):=by
 have hb:LB2 F x16 (k,S,(S.length:Int)-u.length,x16++⟨5,0,[],k-1⟩::D,g)=EY (C5 F) x16 k S ((S.length:Int)-u.length) (x16++⟨5,0,[],k-1⟩::D) g:=rfl
 rw[hb]
 unfold EY
 rw[NR]
 rcases hV with⟨f,s2,q1,q2,q3⟩ | ⟨q1,q',q2⟩
 ·have ec:(x16++⟨5,0,[],k-1⟩::D)++f.flat.map CV=x16++⟨5,0,[],k-1⟩::(D++f.flat.map CV):=by simp
  rw[ec] at q3
  rw[q3,AG rfl,Ay (p:=!true) rfl]
  have hin:Cu (x16.length:Int) (((x16++(⟨5,0,[],k-1⟩:Aa)::(D++f.flat.map CV)).length:Nat):Int)=true:=Md (by omega) (by rw[AcK,AcE];omega)
  have e1:(true,DK S s2 (x16++⟨5,0,[],k-1⟩::(D++f.flat.map CV)) (g||f.flat.any Ca)).2.fCells=x16++⟨5,0,[],k-1⟩::(D++f.flat.map CV):=rfl
  rw[e1,B3 hin,YK,TN,Gu]
  have e2:Aw.mk (true,DK S s2 (x16++⟨5,0,[],k-1⟩::(D++f.flat.map CV)) (g||f.flat.any Ca)).2.fS (true,DK S s2 (x16++⟨5,0,[],k-1⟩::(D++f.flat.map CV)) (g||f.flat.any Ca)).2.fAt (x16++⟨5,0,[],k⟩::(D++f.flat.map CV)) (true,DK S s2 (x16++⟨5,0,[],k-1⟩::(D++f.flat.map CV)) (g||f.flat.any Ca)).2.fGreat=DK S s2 (x16++⟨5,0,[],k⟩::(D++f.flat.map CV)) (g||f.flat.any Ca):=rfl
  rw[e2,Da hS q2,Jm]
  cases s2 with
  | nil=>
   simp only
   rw[AG rfl,Ay rfl,Da hS q2,Jm]
   exact .inl ⟨_,rfl,.inr ⟨f,[],q1,λc s3 e=>by cases e⟩⟩
  | cons c s3=>
   simp only
   cases ha:decide (c=93) with
   | true=>
    simp only[AcC] at ha
    subst ha
    exact .inr ⟨f,_,q1,q2,.inl ⟨s3,rfl,rfl⟩⟩
   | false=>
    simp only[AcF]
    rw[AG rfl,Ay rfl,Da hS q2,Jm]
    simp only
    cases hd:decide (c=44) with
    | true=>
     simp only[AcC] at hd
     subst hd
     simp only[AcJ]
     rw[AG rfl,Ay (p:=!true) rfl,A1 (by omega) (by omega)]
     exact .inr ⟨f,_,q1,q2,.inr ⟨s3,rfl,rfl⟩⟩
    | false=>
     exact .inl ⟨_,rfl,.inr ⟨f,_,q1,λc' s3' e=>by cases e;exact⟨ha,hd⟩⟩⟩
 ·rw[q2,AG rfl]
  exact .inl ⟨q',rfl,.inl q1⟩
theorem XF {F P:Nat} {S u:Ag} {x16 D:List Aa} {k:Int} {g b1 b2:Bool} {r:Ag×Bool×Aw} (hS:S.length≤100000) (hs:Ea u S) (hk1:1≤k) (hk2:k≤200000) (hD:x16.length+D.length≤200000) (hV:VOk F P S u (x16++⟨6,0,[],k-1⟩::(D++[⟨4,0,r.1,0⟩])) g) :
  (∃q',Cw (C5 F) x16 k r b1 b2 false S ((S.length:Int)-u.length) (x16++⟨6,0,[],k-1⟩::D) g=some (.out (.ret (false,q')))∧(Gb true P u=none∨∃f s2,Gb true P u=some (f,s2)∧∀c s3,s2=c::s3→decide (c=Be true)=false∧decide (c=44)=false))∨
  ∃f s2,Gb true P u=some (f,s2)∧Ea s2 S∧((∃s3,s2=Be true::s3∧Cw (C5 F) x16 k r b1 b2 false S ((S.length:Int)-u.length) (x16++⟨6,0,[],k-1⟩::D) g=some (.out (.ret (true,DK S s3 (x16++⟨6,0,[],k⟩::(D++([⟨4,0,r.1,0⟩]++f.flat.map CV))) (g||f.flat.any Ca)))))∨
   (∃s3,s2=44::s3∧Cw (C5 F) x16 k r b1 b2 false S ((S.length:Int)-u.length) (x16++⟨6,0,[],k-1⟩::D) g=some (.next (r.1,k+1,S,(S.length:Int)-s3.length,x16++⟨6,0,[],k⟩::(D++([⟨4,0,r.1,0⟩]++f.flat.map CV)),g||f.flat.any Ca)))):=by
 unfold Cw
 have e0:(x16++⟨6,0,[],k-1⟩::D)++([⟨4,0,r.1,0⟩]:List Aa)=x16++⟨6,0,[],k-1⟩::(D++[⟨4,0,r.1,0⟩]):=by simp
 rw[Ay rfl,KD (by rw[AcK,AcE,List.length_singleton];omega),e0,NR]
 rcases hV with⟨f,s2,q1,q2,q3⟩ | ⟨q1,q',q2⟩
 ·have ec:(x16++⟨6,0,[],k-1⟩::(D++[⟨4,0,r.1,0⟩]))++f.flat.map CV=x16++⟨6,0,[],k-1⟩::(D++([⟨4,0,r.1,0⟩]++f.flat.map CV)):=by simp
  rw[ec] at q3
  rw[q3,AG rfl,Ay (p:=!true) rfl]
  have hin:Cu (x16.length:Int) (((x16++(⟨6,0,[],k-1⟩:Aa)::(D++([⟨4,0,r.1,0⟩]++f.flat.map CV))).length:Nat):Int)=true:=Md (by omega) (by rw[AcK,AcE];omega)
  have e1:(true,DK S s2 (x16++⟨6,0,[],k-1⟩::(D++([⟨4,0,r.1,0⟩]++f.flat.map CV))) (g||f.flat.any Ca)).2.fCells=x16++⟨6,0,[],k-1⟩::(D++([⟨4,0,r.1,0⟩]++f.flat.map CV)):=rfl
  rw[e1,B3 hin,YK,TN,Gu]
  have e2:Aw.mk (true,DK S s2 (x16++⟨6,0,[],k-1⟩::(D++([⟨4,0,r.1,0⟩]++f.flat.map CV))) (g||f.flat.any Ca)).2.fS (true,DK S s2 (x16++⟨6,0,[],k-1⟩::(D++([⟨4,0,r.1,0⟩]++f.flat.map CV))) (g||f.flat.any Ca)).2.fAt (x16++⟨6,0,[],k⟩::(D++([⟨4,0,r.1,0⟩]++f.flat.map CV))) (true,DK S s2 (x16++⟨6,0,[],k-1⟩::(D++([⟨4,0,r.1,0⟩]++f.flat.map CV))) (g||f.flat.any Ca)).2.fGreat=DK S s2 (x16++⟨6,0,[],k⟩::(D++([⟨4,0,r.1,0⟩]++f.flat.map CV))) (g||f.flat.any Ca):=rfl
  rw[e2,Da hS q2,Jm]
  cases s2 with
  | nil=>
   simp only
   rw[AG rfl,Ay rfl,Da hS q2,Jm]
   exact .inl ⟨_,rfl,.inr ⟨f,[],q1,λc s3 e=>by cases e⟩⟩
  | cons c s3=>
   simp only
   cases ha:decide (c=125) with
   | true=>
    simp only[AcC] at ha
    subst ha
    exact .inr ⟨f,_,q1,q2,.inl ⟨s3,rfl,rfl⟩⟩
   | false=>
    simp only[AcF]
    rw[AG rfl,Ay rfl,Da hS q2,Jm]
    simp only
    cases hb:decide (c=44) with
    | true=>
     simp only[AcC] at hb
     subst hb
     simp only[AcJ]
     rw[AG rfl,Ay (p:=!true) rfl,A1 (by omega) (by omega)]
     exact .inr ⟨f,_,q1,q2,.inr ⟨s3,rfl,rfl⟩⟩
    | false=>
     exact .inl ⟨_,rfl,.inr ⟨f,_,q1,λc' s3' e=>by cases e;exact⟨ha,hb⟩⟩⟩
 ·rw[q2,AG rfl]
  exact .inl ⟨q',rfl,.inl q1⟩
def Aai (t:Ag):Ag→Option (Option Ag×Ag)
 | []=>none
 | d::u'=>bif decide (d=58) then some (some t,u') else none
theorem Mb (b:Bool) (last:Option Ag) (r:Ag):DD b true last (34::r)=match C6 b r with
  | none=>none
  | some (k,u)=>bif b&&!B1 true last (some k) then none else Aai k u:=by
 show(match C6 b r with
   | none=>none
   | some (k,u)=>bif b&&!B1 true last (some k) then none else(match u with
    | []=>none
    | d::u'=>bif decide (d=58) then some (some k,u') else none))=_
 cases C6 b r with
 | none=>rfl
 | some q=>obtain⟨k,u⟩:=q;cases u<;>rfl
theorem Ut (b:Bool) (last:Option Ag) {u:Ag} (h:∀r,u=34::r→C6 b r=none):DD b true last u=none:=by
 cases u with
 | nil=>rfl
 | cons c r=>
  by_cases hc:c=34
  ·subst hc
   rw[Mb,h r rfl]
  ·show(bif decide (c=34) then _ else none)=none
   rw[AcG hc];rfl
theorem PV {F:Nat} {S w t:Ag} {x16 cs:List Aa} {k:Int} {g:Bool} (b1 b2:Bool) (hS:S.length≤100000) (hw:Ea w S) :
  (∃q',Bn (Ej (t,true,DK S w cs g).2.2 ([58]:Ag)) (λha=>Cw (C5 F) x16 k (t,true,DK S w cs g) b1 b2 (!ha.1) ha.2.fS ha.2.fAt ha.2.fCells ha.2.fGreat)=some (.out (.ret (false,q')))∧Aai t w=none)∨
  ∃s1,w=58::s1∧Aai t w=some (some t,s1)∧Bn (Ej (t,true,DK S w cs g).2.2 ([58]:Ag)) (λha=>Cw (C5 F) x16 k (t,true,DK S w cs g) b1 b2 (!ha.1) ha.2.fS ha.2.fAt ha.2.fCells ha.2.fGreat)=Cw (C5 F) x16 k (t,true,DK S w cs g) b1 b2 false S ((S.length:Int)-s1.length) cs g:=by
 rw[show(t,true,DK S w cs g).2.2=DK S w cs g from rfl,Da hS hw,Jm]
 cases w with
 | nil=>exact .inl ⟨_,rfl,rfl⟩
 | cons d s1=>
  by_cases hd:d=58
  ·subst hd;exact .inr ⟨s1,rfl,rfl,rfl⟩
  ·simp only[AcG hd,AcF]
   refine .inl ⟨_,rfl,?_⟩
   show(bif decide (d=58) then _ else none)=none
   rw[AcG hd];rfl
theorem ZB {F:Nat} {S u last:Ag} {x16 cs:List Aa} {k:Int} {g:Bool} (hS:S.length≤100000) (hs:Ea u S) (hF:S.length<F) :
  (DD true true (bif decide (1<k) then some last else none) u=none∧∃q',LB3 F x16 (last,k,S,(S.length:Int)-u.length,cs,g)=some (.out (.ret (false,q'))))∨
  ∃t s1 b1 b2 q0,DD true true (bif decide (1<k) then some last else none) u=some (some t,s1)∧Ea s1 S∧s1.length+2≤u.length∧LB3 F x16 (last,k,S,(S.length:Int)-u.length,cs,g)=Cw (C5 F) x16 k (t,true,q0) b1 b2 false S ((S.length:Int)-s1.length) cs g:=by
 have hb:LB3 F x16 (last,k,S,(S.length:Int)-u.length,cs,g)=EX F (C5 F) x16 last k S ((S.length:Int)-u.length) cs g:=rfl
 rw[hb]
 unfold EX
 rw[NR]
 rcases Ry (cs:=cs) (g:=g) hS hs hF with⟨r,t,w,q1,q2,q3,q4⟩ | ⟨q1,q',q2⟩
 ·rw[q4,AG rfl,Ay (p:=!true) rfl]
  subst q1
  have hok:=Zt _ r t w rfl q2
  have hwl:=IF true _ r t w rfl q2
  rw[Mb,q2]
  simp only[AcN]
  cases h1:decide (1<k) with
  | true=>
   rw[AA rfl]
   simp only[AcJ]
   have hko:B1 true (some last) (some t) = !(Ci t last||decide (t=last)):=by simp[B1,hok]
   rw[hko,Bool.not_not]
   cases hlt:(Ci t last||decide (t=last)) with
   | true=>
    rw[AA rfl]
    exact .inl ⟨rfl,_,rfl⟩
   | false=>
    rw[Ay rfl]
    simp only[AcF]
    rcases PV (F:=F) (cs:=cs) (g:=g) (x16:=x16) (k:=k) (t:=t) false false hS q3 with⟨q',c1,c2⟩ | ⟨s1,c1,c2,c3⟩
    ·exact .inl ⟨c2,q',c1⟩
    ·subst c1
     exact .inr ⟨t,s1,false,false,DK S (58::s1) cs g,c2,q3.tail,by simp only[AcE] at hwl ⊢;omega,c3⟩
  | false=>
   rw[Ay rfl]
   simp only[AcF]
   have hko:B1 true none (some t)=true:=by simp[B1,hok]
   rw[hko]
   simp only[AcO,AcF]
   rcases PV (F:=F) (cs:=cs) (g:=g) (x16:=x16) (k:=k) (t:=t) false false hS q3 with⟨q',c1,c2⟩ | ⟨s1,c1,c2,c3⟩
   ·exact .inl ⟨c2,q',c1⟩
   ·subst c1
    exact .inr ⟨t,s1,false,false,DK S (58::s1) cs g,c2,q3.tail,by simp only[AcE] at hwl ⊢;omega,c3⟩
 ·rw[q2,AG rfl]
  exact .inl ⟨Ut _ _ q1,_,rfl⟩
def Pj (b:Bool) (F:Nat) (m:Bool):Ag→Option (Fo×Ag)
 | []=>none
 | d::r'=>bif decide (d=Be m) then some (nd m .nil,r') else(match Dp b F m none (d::r') with
  | none=>none
  | some (g,u)=>some (nd m g,u))
theorem HE (b:Bool) (F:Nat) (m:Bool) (d:UInt8) (r':Ag):Pj b F m (d::r')=bif decide (d=Be m) then some (nd m .nil,r') else(match Dp b F m none (d::r') with
  | none=>none
  | some (g,u)=>some (nd m g,u)):=rfl
theorem Ts (b:Bool) (F:Nat) (r:Ag) (m:Bool):Gb b (F+1) ((bif m then 123 else 91)::r)=Pj b F m r:=by
 rw[D5]
 cases m<;>cases r<;>rfl
theorem XJ {S:Ag} (hS:S.length≤100000):∀n:Nat,
  (∀(F P:Nat) (u:Ag) (cs:List Aa) (g:Bool),u.length=n→Ea u S→S.length+n+5<F→2*n+2≤P→cs.length+n≤S.length→VOk F P S u cs g)∧
  (∀(F P L:Nat) (u:Ag) (x16 D:List Aa) (k:Int) (g:Bool),u.length=n→Ea u S→S.length+n+5<F→2*n+3≤P→n<L→x16.length+1+D.length+n≤S.length→1≤k→k+n≤S.length+1→∃o,BF (LB2 F x16) L (k,S,(S.length:Int)-u.length,x16++⟨5,0,[],k-1⟩::D,g)=some o∧Wg P false none S u x16 D k g o)∧
  (∀(F P L:Nat) (u last:Ag) (x16 D:List Aa) (k:Int) (g:Bool),u.length=n→Ea u S→S.length+n+5<F→2*n+3≤P→n<L→x16.length+1+D.length+n≤S.length→1≤k→k+n≤S.length+1→∃o,BF (LB3 F x16) L (last,k,S,(S.length:Int)-u.length,x16++⟨6,0,[],k-1⟩::D,g)=some o∧Wg P true (bif decide (1<k) then some last else none) S u x16 D k g o):=by
 intro n
 induction n using Nat.strongRecOn with
 | ind n ih=>
 have hV:∀(F P:Nat) (u:Ag) (cs:List Aa) (g:Bool),u.length=n→Ea u S→S.length+n+5<F→2*n+2≤P→cs.length+n≤S.length→VOk F P S u cs g:=by
  intro F P u cs g hn hs hF hP hcs
  obtain⟨F,rfl⟩:∃K,F=K+1:=⟨F-1,by omega⟩
  obtain⟨P,rfl⟩:∃K,P=K+1:=⟨P-1,by omega⟩
  unfold VOk
  rw[C5]
  unfold Lz
  rw[Da hS hs,Jm]
  have hsc:(∀c r,u=c::r→(decide (c=91)||decide (c=123))=false)→∀r1:Bool×Aw,(∃f w,Gb true (P+1) u=some (f,w)∧Ea w S∧Ek F (C5 F) r1 true S ((S.length:Int)-u.length) cs g=some (true,DK S w (cs++f.flat.map CV) (g||f.flat.any Ca)))∨(Gb true (P+1) u=none∧∃q',Ek F (C5 F) r1 true S ((S.length:Int)-u.length) cs g=some (false,q')):=λhc r1=>by
   rw[Xo true P hc]
   unfold Ek
   rw[AA rfl,NR]
   rcases Rz (F:=F) (cs:=cs) (g:=g) hS hs (by omega) (by omega) with⟨f,w,q1,q2,q3⟩ | ⟨q1,q',q2⟩
   ·rw[q3,AG rfl];exact .inl ⟨f,w,q1,q2,rfl⟩
   ·rw[q2,AG rfl];exact .inr ⟨q1,q',rfl⟩
  have hsl:=hs.len
  cases u with
  | nil=>
   simp only
   rw[AG rfl,AA (p:=!false) rfl,show(false,DK S [] cs g).2=DK S [] cs g from rfl,Da hS hs,Jm,AG rfl]
   exact hsc (λc r e=>by cases e) _
  | cons c r=>
   simp only[AcE] at hn hsl
   simp only
   have hbr:∀m:Bool,c=(bif m then 123 else 91)→∀body:Option (Bool×Aw),body=(AN (Dw 40 (cs.length+([⟨bif m then 6 else 5,0,[],0⟩]:List Aa).length))<|Bn (Ej (DK S r (cs++[⟨bif m then 6 else 5,0,[],0⟩]) g) ([Be m]:Ag)) λha=>Bd ha.1 (some (true,ha.2)) (bif m then Bn (BF (LB3 F cs) F ([],1,ha.2.fS,ha.2.fAt,ha.2.fCells,ha.2.fGreat)) (B6 λ_=>HL) else Bn (BF (LB2 F cs) F (1,ha.2.fS,ha.2.fAt,ha.2.fCells,ha.2.fGreat)) (B6 λ_=>HM)))→
     (∃f w,Gb true (P+1) (c::r)=some (f,w)∧Ea w S∧body=some (true,DK S w (cs++f.flat.map CV) (g||f.flat.any Ca)))∨(Gb true (P+1) (c::r)=none∧∃q',body=some (false,q')):=λm hc body hbody=>by
    rw[hbody,hc,Ts,KD (by rw[List.length_singleton];omega),Da hS hs.tail,Jm]
    have hfh:CV ⟨bif m then 6 else 5,0,[],0⟩=⟨bif m then 6 else 5,0,[],0⟩∧∀N,Ca ⟨bif m then 6 else 5,0,[],N⟩=false:=by cases m<;>exact⟨rfl,λ_=>rfl⟩
    have hfn:∀N,CV ⟨bif m then 6 else 5,0,[],N⟩=⟨bif m then 6 else 5,0,[],N⟩:=λN=>by cases m<;>rfl
    have hloop:∀o:Out (Bool×Aw) Unit,Wg P m none S r cs [] 1 g o→(r=[]∨∃d r',r=d::r'∧decide (d=Be m)=false)→
      (∃f w,Pj true P m r=some (f,w)∧Ea w S∧o = .ret (true,DK S w (cs++f.flat.map CV) (g||f.flat.any Ca)))∨(Pj true P m r=(none:Option (Fo×Ag))∧∃q',o = .ret (false,q')):=λo ho hr=>by
     rcases hr with rfl | ⟨d,r',rfl,hd⟩
     ·rcases ho with⟨G,w,q1,_,_⟩ | ⟨_,q2⟩
      ·exact absurd ((DW true P).2 _ _ _ _ _ q1).1 (by simp)
      ·exact .inr ⟨rfl,q2⟩
     ·rw[HE,hd]
      simp only[AcF]
      rcases ho with⟨G,w,q1,q2,q3⟩ | ⟨q1,q2⟩
      ·rw[q1]
       refine .inl ⟨_,w,rfl,q2,?_⟩
       rw[q3,Jo _ _ Ip,Adt,List.any_cons,hfn,hfh.2,AcQ,Adh,show(1:Int)-1+(G.cnt:Int)=G.cnt from by omega]
      ·rw[q1];exact .inr ⟨rfl,q2⟩
    have hrest:(r=[]∨∃d r',r=d::r'∧decide (d=Be m)=false)→(∃f w,Pj true P m r=some (f,w)∧Ea w S∧(bif m then Bn (BF (LB3 F cs) F ([],1,S,(S.length:Int)-r.length,cs++[⟨bif m then 6 else 5,0,[],0⟩],g)) (B6 λ_=>HL) else Bn (BF (LB2 F cs) F (1,S,(S.length:Int)-r.length,cs++[⟨bif m then 6 else 5,0,[],0⟩],g)) (B6 λ_=>HM))=some (true,DK S w (cs++f.flat.map CV) (g||f.flat.any Ca)))∨(Pj true P m r=(none:Option (Fo×Ag))∧∃q',(bif m then Bn (BF (LB3 F cs) F ([],1,S,(S.length:Int)-r.length,cs++[⟨bif m then 6 else 5,0,[],0⟩],g)) (B6 λ_=>HL) else Bn (BF (LB2 F cs) F (1,S,(S.length:Int)-r.length,cs++[⟨bif m then 6 else 5,0,[],0⟩],g)) (B6 λ_=>HM))=some (false,q')):=λhr=>by
     cases m with
     | true=>
      obtain⟨o,ho1,ho2⟩:=(ih r.length (by omega)).2.2 F P F r [] cs [] 1 g rfl hs.tail (by omega) (by omega) (by omega) (by simp;omega) (by decide) (by omega)
      simp only[AcJ]
      have ho1':BF (LB3 F cs) F ([],1,S,(S.length:Int)-r.length,cs++[⟨6,0,[],0⟩],g)=some o:=ho1
      rw[AG ho1']
      rcases hloop o ho2 hr with⟨f,w,q1,q2,q3⟩ | ⟨q1,q',q2⟩
      ·exact .inl ⟨f,w,q1,q2,NQ q3⟩
      ·exact .inr ⟨q1,q',NQ q2⟩
     | false=>
      obtain⟨o,ho1,ho2⟩:=(ih r.length (by omega)).2.1 F P F r cs [] 1 g rfl hs.tail (by omega) (by omega) (by omega) (by simp;omega) (by decide) (by omega)
      simp only[AcF]
      have ho1':BF (LB2 F cs) F (1,S,(S.length:Int)-r.length,cs++[⟨5,0,[],0⟩],g)=some o:=ho1
      rw[AG ho1']
      rcases hloop o ho2 hr with⟨f,w,q1,q2,q3⟩ | ⟨q1,q',q2⟩
      ·exact .inl ⟨f,w,q1,q2,NQ q3⟩
      ·exact .inr ⟨q1,q',NQ q2⟩
    cases r with
    | nil=>
     simp only
     rw[AG rfl,Ay rfl]
     exact hrest (.inl rfl)
    | cons d r'=>
     simp only
     cases hd:decide (d=Be m) with
     | true=>
      simp only[AcJ]
      rw[AG rfl,AA rfl]
      refine .inl ⟨_,r',by rw[HE,hd];rfl,hs.tail.tail,?_⟩
      rw[Jo _ _ Ip]
      simp only[Fo.flat,Fo.cnt,Adt,List.map_nil,List.any_cons,List.any_nil,AcX]
      rw[show((0:Nat):Int)=0 from rfl,hfh.1,hfh.2,AcX]
     | false=>
      simp only[AcF]
      rw[AG rfl,Ay rfl]
      exact hrest (.inr ⟨d,r',rfl,hd⟩)
   cases he:decide (c=91) with
   | true=>
    simp only[AcC] at he
    simp only[AcJ]
    rw[AG rfl,Ay (p:=!true) rfl]
    exact hbr false he _ rfl
   | false=>
    simp only[AcF]
    rw[AG rfl,AA (p:=!false) rfl,show(false,DK S (c::r) cs g).2=DK S (c::r) cs g from rfl,Da hS hs,Jm]
    simp only
    cases hg:decide (c=123) with
    | true=>
     simp only[AcC] at hg
     simp only[AcJ]
     rw[AG rfl]
     exact hbr true hg _ rfl
    | false=>
     simp only[AcF]
     rw[AG rfl]
     exact hsc (λc' r' e=>by cases e;rw[he,hg];rfl) _
 refine⟨hV,?_,?_⟩
 ·intro F P L u x16 D k g hn hs hF hP hL hb hk1 hk2
  obtain⟨P,rfl⟩:∃K,P=K+1:=⟨P-1,by omega⟩
  obtain⟨L,rfl⟩:∃K,L=K+1:=⟨L-1,by omega⟩
  have hsl:=hs.len
  have hv:=hV F P u (x16++⟨5,0,[],k-1⟩::D) g hn hs hF (by omega) (by simp;omega)
  have hkp:DD true false none u=some (none,u):=rfl
  rcases Tw hS hs hk1 (by omega) hv with⟨q',hb1,hf⟩ | ⟨f,s2,q1,q2,h⟩
  ·refine⟨_,Dd hb1,?_⟩
   rcases hf with hf | ⟨f,s2,hf,hno⟩
   ·refine .inr ⟨?_,q',rfl⟩
    rw[Dl,hkp]
    simp only[hf]
   ·exact Wg.join hkp hf ((DW true P).1 _ _ _ hf).2 (.inr (.inr ⟨hno,q',rfl⟩))
  ·obtain⟨l1,ho⟩:=(DW true P).1 _ _ _ q1
   have l2:=(Ew true P).1 _ _ _ q1
   rcases h with⟨s3,e,hb1⟩ | ⟨s3,e,hb1⟩
   ·subst e
    exact⟨_,Dd hb1,Wg.join hkp q1 ho (.inl ⟨s3,rfl,q2.tail,rfl⟩)⟩
   ·subst e
    simp only[AcE] at l1 l2
    obtain⟨o,ho1,ho2⟩:=(ih s3.length (by omega)).2.1 F P L s3 x16 (D++f.flat.map CV) (k+1) (g||f.flat.any Ca) rfl q2.tail (by omega) (by omega) (by omega) (by rw[AcK,AcY];omega) (by omega) (by omega)
    rw[show k+1-1=k from by omega] at ho1
    exact⟨o,G8 hb1 ho1,Wg.join hkp q1 ho (.inr (.inl ⟨s3,rfl,ho2⟩))⟩
 ·intro F P L u last x16 D k g hn hs hF hP hL hb hk1 hk2
  obtain⟨P,rfl⟩:∃K,P=K+1:=⟨P-1,by omega⟩
  obtain⟨L,rfl⟩:∃K,L=K+1:=⟨L-1,by omega⟩
  have hsl:=hs.len
  rcases ZB (last:=last) (x16:=x16) (cs:=x16++⟨6,0,[],k-1⟩::D) (k:=k) (g:=g) hS hs (F:=F) (by omega) with⟨hk,q',hb1⟩ | ⟨t,s1,b1,b2,q0,hk,hs1,hl1,hb0⟩
  ·refine⟨_,Dd hb1,.inr ⟨?_,q',rfl⟩⟩
   rw[Dl,hk]
  ·have hv:=(ih s1.length (by omega)).1 F P s1 (x16++⟨6,0,[],k-1⟩::(D++[⟨4,0,t,0⟩])) g rfl hs1 (by omega) (by omega) (by simp;omega)
   rcases XF (r:=(t,true,q0)) (b1:=b1) (b2:=b2) hS hs1 hk1 (by omega) (by omega) hv with⟨q',hb1,hf⟩ | ⟨f,s2,q1,q2,h⟩
   ·refine⟨_,Dd (hb0.trans hb1),?_⟩
    rcases hf with hf | ⟨f,s2,hf,hno⟩
    ·refine .inr ⟨?_,q',rfl⟩
     rw[Dl,hk]
     simp only[hf]
    ·exact Wg.join hk hf ((DW true P).1 _ _ _ hf).2 (.inr (.inr ⟨hno,q',rfl⟩))
   ·obtain⟨l1,ho⟩:=(DW true P).1 _ _ _ q1
    have l2:=(Ew true P).1 _ _ _ q1
    rcases h with⟨s3,e,hb1⟩ | ⟨s3,e,hb1⟩
    ·subst e
     exact⟨_,Dd (hb0.trans hb1),Wg.join hk q1 ho (.inl ⟨s3,rfl,q2.tail,rfl⟩)⟩
    ·subst e
     simp only[AcE] at l1 l2
     obtain⟨o,ho1,ho2⟩:=(ih s3.length (by omega)).2.2 F P L s3 t x16 (D++([⟨4,0,t,0⟩]++f.flat.map CV)) (k+1) (g||f.flat.any Ca) rfl q2.tail (by omega) (by omega) (by omega) (by rw[AcK,AcK,AcY,List.length_singleton];omega) (by omega) (by omega)
     rw[show k+1-1=k from by omega] at ho1
     rw[show decide (1<k+1)=true from AcI (by omega)] at ho2
     exact⟨o,G8 (hb0.trans hb1) ho1,Wg.join hk q1 ho (.inr (.inl ⟨s3,rfl,ho2⟩))⟩
theorem SY {S:Ag} (hS:S.length≤100000) {F P:Nat} (hF:2*S.length+6≤F) (hP:2*S.length+2≤P):VOk F P S S [] false:=
 (XJ hS S.length).1 F P S [] false rfl ⟨[],rfl⟩ (by omega) hP (by simp)
theorem CX {S u w:Ag} (hS:S.length≤100000) (hw:w.length≤100) (h:Ea u S):Bu S ((S.length:Int)-u.length) w=some (pre w u).isSome:=by
 have hl:=h.len
 unfold Bu
 rw[A1 (by omega) (by omega)]
 have e:∀b:Bool,(decide ((S.length:Int)-u.length+w.length≤(S.length:Int))=true→b=true)→imp (decide ((S.length:Int)-u.length+w.length≤(S.length:Int))) b=true:=λb hb=>by
  cases hd:decide ((S.length:Int)-u.length+w.length≤(S.length:Int)) with
  | false=>rfl
  | true=>rw[hb hd];rfl
 rw[B3 (e _ λhd=>by simp only[AcC] at hd;exact ZN (by omega) (by omega)),B3 (e _ λhd=>by simp only[AcC] at hd;exact ZN (by omega) (by omega))]
 rw[h.drop,← O6,show Int.toNat ((S.length:Int)-u.length+w.length)-Int.toNat ((S.length:Int)-u.length)=Int.toNat (w.length:Int) from by omega]
 have:decide ((S.length:Int)-u.length+w.length≤(S.length:Int))=decide ((w.length:Int)≤(u.length:Int)):=by rw[Bool.eq_iff_iff];simp only[AcC];omega
 rw[this]
theorem Aao {S r:Ag} {c:UInt8} (h:Ea (c::r) S):List.take (Int.toNat ((S.length:Int)-r.length)-Int.toNat ((S.length:Int)-(c::r).length)) (List.drop (Int.toNat ((S.length:Int)-(c::r).length)) S)=[c]:=by
 have hl:=h.len
 rw[h.drop]
 simp only[AcE] at hl ⊢
 rw[show Int.toNat ((S.length:Int)-r.length)-Int.toNat ((S.length:Int)-((r.length+1:Nat):Int))=1 from by omega]
 rfl
theorem N1 {S:Ag} (hS:S.length≤100000):∀(n L:Nat) (u A:Ag),u.length=n→Ea u S→n<L→A.length≤S.length-n→
  ∃o,BF (λσ=>C7 S σ.1 σ.2) L (A,(S.length:Int)-u.length)=some o∧((∃t w,C6 false u=some (t,w)∧Ea w S∧B6 (λν=>CR S ν.1 ν.2) o=some (A++t,(S.length:Int)-w.length))∨(C6 false u=none∧B6 (λν=>CR S ν.1 ν.2) o=some ([],-1))):=by
 intro n
 induction n using Nat.strongRecOn with
 | ind n ih=>
  intro L u A hn hs hL hA
  obtain⟨L,rfl⟩:∃K,L=K+1:=⟨L-1,by omega⟩
  have hsl:=hs.len
  cases u with
  | nil=>
   have hgo:C7 S A ((S.length:Int)-([]:Ag).length)=some (.out (.go (A,(S.length:Int)-([]:Ag).length))):=by
    unfold C7
    have e:decide ((S.length:Int)-([]:Ag).length<(S.length:Int))=false:=by simp
    rw[e,B3 (p:=imp false _) rfl,Ay (p:=false&&_) rfl]
   refine⟨_,Dd hgo,.inr ⟨rfl,?_⟩⟩
   rw[CE]
   unfold CR
   rw[AA (AcI (by simp))]
  | cons c r=>
   have hb:AK S ((S.length:Int)-(c::r).length)=c.toNat:=Dv hs.get
   have hpos:(S.length:Int)-(c::r).length+1=S.length-r.length:=by rw[AcE];omega
   have ht1:=Aao hs
   simp only[AcE] at hn hsl
   have hlt:(S.length:Int)-(c::r).length<S.length:=by rw[AcE];omega
   have h0:0≤(S.length:Int)-(c::r).length:=by rw[AcE];omega
   have l1:([c]:Ag).length=1:=rfl
   have hb1:C7 S A ((S.length:Int)-(c::r).length)=Bd (!decide (c=34)) (Bd (decide (c=92)) (AN (imp (!(decide ((S.length:Int)≤S.length-r.length))) (Cu (S.length-r.length) (S.length:Int)))<|Bd (((decide ((S.length:Int)≤S.length-r.length))||((!decide ((AK S (S.length-r.length))=34))&&(!decide ((AK S (S.length-r.length))=92))))) (some (.out (.ret (([]:Ag),(-1))))) (AN (Bl .i64 (((S.length:Int)-r.length)+1))<|AN (GJ ((S.length:Int)-r.length) (((S.length:Int)-r.length)+1))<|AN (GJ (((S.length:Int)-r.length)+1) (S.length:Int))<|AN (Bl .i64 ((A.length:Int)+((List.take (Int.toNat (((S.length:Int)-r.length)+1)-Int.toNat ((S.length:Int)-r.length)) (List.drop (Int.toNat ((S.length:Int)-r.length)) S)).length:Int)))<|some (.next (A++(List.take (Int.toNat (((S.length:Int)-r.length)+1)-Int.toNat ((S.length:Int)-r.length)) (List.drop (Int.toNat ((S.length:Int)-r.length)) S)),((S.length:Int)-r.length)+1)))) (some (.next (A++[c],(S.length:Int)-r.length)))) (some (.out (.go (A,(S.length:Int)-(c::r).length)))):=by
    unfold C7
    rw[AcI hlt,B3 (p:=imp true _) (by rw[Md h0 hlt];rfl),hb,Qe,AcN,AT h0 hlt,Uu,hpos]
    cases decide (c=34) with
    | true=>rfl
    | false=>
     rw[AA (p:=!false) rfl,AA (p:=!false) rfl]
     cases decide (c=92) with
     | true=>rw[AA rfl,AA rfl,A1 (by omega) (by omega)]
     | false=>rw[Ay rfl,Ay rfl,A1 (by omega) (by omega),BS (by omega) (by omega),BS (by omega) (by omega),ht1,l1,A1 (by omega) (by omega)]
   rw[D0]
   cases h1:decide (c=34) with
   | true=>
    rw[h1,Ay (p:=!true) rfl] at hb1
    refine⟨_,Dd hb1,.inl ⟨[],r,rfl,hs.tail,?_⟩⟩
    rw[CE]
    unfold CR
    rw[Ay (AcG (by omega)),hpos,A1 (by omega) (by omega),Adg]
   | false=>
    rw[h1,AA (p:=!false) rfl] at hb1
    simp only[AcF,AcT]
    cases h3:decide (c=92) with
    | true=>
     rw[h3,AA rfl] at hb1
     cases r with
     | nil=>
      have e:decide ((S.length:Int)≤S.length-([]:Ag).length)=true:=by simp
      rw[e,B3 (p:=imp (!true) _) rfl,AA (p:=true||_) rfl] at hb1
      exact⟨_,Dd hb1,.inr ⟨rfl,rfl⟩⟩
     | cons d r'=>
      have ht2:=Aao hs.tail
      simp only[AcE] at hn hsl
      have hbd:AK S ((S.length:Int)-(d::r').length)=d.toNat:=Dv hs.tail.get
      have hlt2:(S.length:Int)-(d::r').length<S.length:=by rw[AcE];omega
      have ha:0≤(S.length:Int)-(d::r').length:=by rw[AcE];omega
      have hpos2:(S.length:Int)-(d::r').length+1=S.length-r'.length:=by rw[AcE];omega
      have e:decide ((S.length:Int)≤S.length-(d::r').length)=false:=AcG (by omega)
      have l2:([d]:Ag).length=1:=rfl
      rw[e,Md ha hlt2,hbd,hpos2,Qe,Uu,B3 (p:=imp (!false) true) rfl,ht2,l2] at hb1
      simp only[AcJ]
      cases h4:(decide (d=34)||decide (d=92)) with
      | false=>
       have e4:(false||(!decide (d=34)&&!decide (d=92)))=true:=by rw[← Bool.not_or,h4];rfl
       rw[AA e4] at hb1
       exact⟨_,Dd hb1,.inr ⟨rfl,rfl⟩⟩
      | true=>
       have e4:(false||(!decide (d=34)&&!decide (d=92)))=false:=by rw[← Bool.not_or,h4];rfl
       rw[Ay e4,A1 (by omega) (by omega),BS (by omega) (by omega),BS (by omega) (by omega),A1 (by omega) (by omega)] at hb1
       obtain⟨o,ho1,ho2⟩:=ih r'.length (by omega) L r' (A++[d]) rfl hs.tail.tail (by omega) (by rw[ET];omega)
       refine⟨o,G8 hb1 ho1,?_⟩
       simp only[AcJ]
       rcases ho2 with⟨t,w,q1,q2,q3⟩ | ⟨q1,q2⟩
       ·rw[q1];exact .inl ⟨d::t,w,rfl,q2,by rw[q3];simp⟩
       ·rw[q1];exact .inr ⟨rfl,q2⟩
    | false=>
     rw[h3,Ay rfl] at hb1
     obtain⟨o,ho1,ho2⟩:=ih r.length (by omega) L r (A++[c]) rfl hs.tail (by omega) (by rw[ET];omega)
     refine⟨o,G8 hb1 ho1,?_⟩
     simp only[AcF]
     rcases ho2 with⟨t,w,q1,q2,q3⟩ | ⟨q1,q2⟩
     ·rw[q1];exact .inl ⟨c::t,w,rfl,q2,by rw[q3];simp⟩
     ·rw[q1];exact .inr ⟨rfl,q2⟩
theorem JG {F:Nat} {S u:Ag} (hS:S.length≤100000) (h:Ea u S) (hF:S.length<F) :
  (∃r t w,u=34::r∧C6 false r=some (t,w)∧Ea w S∧Dj F S ((S.length:Int)-u.length)=some (t,(S.length:Int)-w.length))∨((∀r,u=34::r→C6 false r=none)∧Dj F S ((S.length:Int)-u.length)=some ([],-1)):=by
 have hl:=h.len
 unfold Dj
 cases u with
 | nil=>
  have e:decide ((S.length:Int)≤(S.length:Int)-([]:Ag).length)=true:=by simp
  rw[e,B3 (p:=imp (!true) _) rfl,AA (p:=true||_) rfl]
  exact .inr ⟨(λr e=>by cases e),rfl⟩
 | cons c r=>
  have hb:AK S ((S.length:Int)-(c::r).length)=c.toNat:=Dv h.get
  have hpos:(S.length:Int)-(c::r).length+1=S.length-r.length:=by rw[AcE];omega
  simp only[AcE] at hl
  have hlt:(S.length:Int)-(c::r).length<S.length:=by rw[AcE];omega
  have h0:0≤(S.length:Int)-(c::r).length:=by rw[AcE];omega
  have e:decide ((S.length:Int)≤(S.length:Int)-(c::r).length)=false:=AcG (by omega)
  rw[e,B3 (p:=imp (!false) _) (by rw[Md h0 hlt];rfl),hb,Qe,hpos]
  cases hc:decide (c=34) with
  | false=>
   simp only[AcD] at hc
   exact .inr ⟨(λr' e=>by cases e;exact absurd rfl hc),rfl⟩
  | true=>
   simp only[AcC] at hc
   subst hc
   rw[Ay (p:=false||!true) rfl,A1 (by omega) (by omega)]
   obtain⟨o,ho1,ho2⟩:=N1 hS r.length F r [] rfl h.tail (by omega) (Adn _)
   rw[AG ho1]
   rcases ho2 with⟨t,w,q1,q2,q3⟩ | ⟨q1,q2⟩
   ·exact .inl ⟨r,t,w,rfl,q1,q2,q3⟩
   ·exact .inr ⟨(λr' e=>by cases e;exact q1),q2⟩
theorem V2 (d:Ag) (c:UInt8):Hx (d++[c])=10*Hx d+((c.toNat:Int)-48):=by simp[Hx]
theorem Um:∀(d:Ag),d.all BU=true→CF 0 d<10 ^ d.length:=by
 have key:∀(d:Ag) (a m:Nat),d.all BU=true→a<10 ^ m→CF a d<10 ^ (m+d.length):=by
  intro d
  induction d with
  | nil=>intro a m _ h;simpa[CF] using h
  | cons c d ih=>
   intro a m hd h
   simp only[Adm,AcH] at hd
   have hc:48≤c.toNat∧c.toNat≤57:=by have:=hd.1;simp[BU] at this;omega
   have:=ih (10*a+(c.toNat-48)) (m+1) hd.2 (by rw[Nat.pow_succ];omega)
   rw[AcE,show m+(d.length+1)=m+1+d.length from by omega]
   exact this
 intro d hd
 have:=key d 0 0 hd (by decide)
 simpa using this
theorem QI {d:Ag} (hd:d.all BU=true) (hl:d.length≤18):0≤Hx d∧Hx d<1000000000000000000:=by
 have h1:Hx d=(CF 0 d:Int):=IP d 0 hd
 have h2:=Um d hd
 have h3:10 ^ d.length≤10 ^ 18:=Nat.pow_le_pow_right (by decide) hl
 have:(10:Nat) ^ 18=1000000000000000000:=by decide
 omega
def Hl (d:Ag):Ag:=d.take 18
theorem Abo {D:Ag} {c:UInt8} (h:D.length<18):Hl D=D∧Hl (D++[c])=D++[c]:=by
 unfold Hl
 exact⟨List.take_of_length_le (by omega),List.take_of_length_le (by simp;omega)⟩
theorem Abp {D:Ag} {c:UInt8} (h : ¬ D.length<18):Hl (D++[c])=Hl D:=by
 unfold Hl
 rw[List.take_append_of_le_length (by omega)]
theorem Vh {S r D:Ag} {c:UInt8} {a:Int} (body:Int→Int→Option (Stp (Int×Int) (Out (List Aa×Int) (Int×Int)))) (hS:S.length≤100000) (hs:Ea (c::r) S) (hD:D.all BU=true) (hDm:D.length≤100000) (ha:(S.length:Int)-(c::r).length-a=D.length)
  (hb:∀x n,body x n=(AN (imp (decide (x<(S.length:Int))) (Cu x (S.length:Int)))<|Bd (((decide (x<(S.length:Int)))&&((decide (48≤(AK S x)))&&(decide ((AK S x)≤57))))) (AN (Bl .i64 (x-a))<|Bd (decide ((x-a)<18)) (AN (Bl .i64 (10*n))<|AN (Cu x (S.length:Int))<|AN (Bl .u8 ((AK S x)-48))<|AN (Bl .i64 ((AK S x)-48))<|AN (Bl .i64 ((10*n)+((AK S x)-48)))<|AN (Bl .i64 (x+1))<|some (.next (x+1,(10*n)+((AK S x)-48)))) (AN (Bl .i64 (x+1))<|some (.next (x+1,n)))) (some (.out (.go (x,n)))))) :
  body ((S.length:Int)-(c::r).length) (Hx (Hl D))=bif BU c then some (.next ((S.length:Int)-r.length,Hx (Hl (D++[c])))) else some (.out (.go ((S.length:Int)-(c::r).length,Hx (Hl D)))):=by
 have hsl:=hs.len
 have hbt:AK S ((S.length:Int)-(c::r).length)=c.toNat:=Dv hs.get
 have hpos:(S.length:Int)-(c::r).length+1=S.length-r.length:=by rw[AcE];omega
 simp only[AcE] at hsl
 have hlt:(S.length:Int)-(c::r).length<S.length:=by rw[AcE];omega
 have h0:0≤(S.length:Int)-(c::r).length:=by rw[AcE];omega
 rw[hb,AcI hlt,B3 (p:=imp true _) (by rw[Md h0 hlt];rfl),hbt,U5,AcN,ha,hpos]
 cases hd:BU c with
 | false=>rfl
 | true=>
  have hc:48≤c.toNat∧c.toNat≤57:=by simp[BU] at hd;omega
  rw[AA rfl]
  by_cases he:D.length<18
  ·obtain⟨e1,e2⟩:=Abo (c:=c) he
   have hbd:=QI hD (by omega)
   have hf:Hx D<100000000000000000:=by
    have h1:Hx D=(CF 0 D:Int):=IP D 0 hD
    have h2:=Um D hD
    have h3:10 ^ D.length≤10 ^ 17:=Nat.pow_le_pow_right (by decide) (by omega)
    have:(10:Nat) ^ 17=100000000000000000:=by decide
    omega
   rw[e1,e2,V2,A1 (by omega) (by omega),AA (AcI (by omega)),A1 (by omega) (by omega),AT h0 hlt,Hf (by omega) (by omega),A1 (by omega) (by omega),A1 (by omega) (by omega),A1 (by omega) (by omega)]
   rfl
  ·rw[Abp he]
   have hle:(D.length:Int)≤9223372036854775807:=by omega
   rw[A1 (by omega) hle,Ay (AcG (by omega)),A1 (by omega) (by omega)]
   rfl
theorem Oz {S:Ag} {a:Int} (body:Int→Int→Option (Stp (Int×Int) (Out (List Aa×Int) (Int×Int)))) (hS:S.length≤100000)
  (hb:∀x n,body x n=(AN (imp (decide (x<(S.length:Int))) (Cu x (S.length:Int)))<|Bd (((decide (x<(S.length:Int)))&&((decide (48≤(AK S x)))&&(decide ((AK S x)≤57))))) (AN (Bl .i64 (x-a))<|Bd (decide ((x-a)<18)) (AN (Bl .i64 (10*n))<|AN (Cu x (S.length:Int))<|AN (Bl .u8 ((AK S x)-48))<|AN (Bl .i64 ((AK S x)-48))<|AN (Bl .i64 ((10*n)+((AK S x)-48)))<|AN (Bl .i64 (x+1))<|some (.next (x+1,(10*n)+((AK S x)-48)))) (AN (Bl .i64 (x+1))<|some (.next (x+1,n)))) (some (.out (.go (x,n)))))) :
  ∀(r D:Ag) (L:Nat),Ea r S→D.all BU=true→(S.length:Int)-r.length-a=D.length→D.length+r.length≤S.length→r.length<L→
  BF (λσ=>body σ.1 σ.2) L ((S.length:Int)-r.length,Hx (Hl D))=some (.go ((S.length:Int)-(BL r).2.length,Hx (Hl (D++(BL r).1))))
 | [],D,L,hs,hD,ha,hDl,hL=>by
  obtain⟨L,rfl⟩:∃K,L=K+1:=⟨L-1,by omega⟩
  refine Dd ?_
  show body _ _=_
  have e:decide ((S.length:Int)-([]:Ag).length<(S.length:Int))=false:=by simp
  rw[hb,e,B3 (p:=imp false _) rfl,Ay (p:=false&&_) rfl]
  show _=some (Stp.out (Out.go ((S.length:Int)-([]:Ag).length,Hx (Hl (D++[])))))
  rw[Adg]
 | c::r,D,L,hs,hD,ha,hDl,hL=>by
  obtain⟨L,rfl⟩:∃K,L=K+1:=⟨L-1,by omega⟩
  have hst:=Vh body hS hs hD (by omega) ha hb
  simp only[AcE] at hL hDl
  rw[BL]
  cases hd:BU c with
  | false=>
   rw[hd] at hst
   simp only[AcF,Adg]
   exact Dd hst
  | true=>
   rw[hd] at hst
   simp only[AcJ]
   have:=Oz body hS hb r (D++[c]) L hs.tail (by simp[hD,hd]) (by rw[ET];simp only[AcE] at ha;omega) (by rw[ET];omega) (by omega)
   rw[Adb] at this
   exact G8 hst this
theorem RG {F:Nat} {S:Ag} {c0:UInt8} {r0:Ag} (hS:S.length≤100000) (h:Ea (c0::r0) S) (hF:S.length<F) :
  (∃f w,Hz (c0::r0)=some (f,w)∧Ea w S∧IH F S ((S.length:Int)-(c0::r0).length)=some (f.flat,(S.length:Int)-w.length))∨(Hz (c0::r0)=none∧IH F S ((S.length:Int)-(c0::r0).length)=some ([],-1)):=by
 have hl:=h.len
 have hbt:AK S ((S.length:Int)-(c0::r0).length)=c0.toNat:=Dv h.get
 have hpos:(S.length:Int)-(c0::r0).length+1=S.length-r0.length:=by rw[AcE];omega
 have hlt:(S.length:Int)-(c0::r0).length<S.length:=by rw[AcE];omega
 have h0:0≤(S.length:Int)-(c0::r0).length:=by omega
 have hf:decide ((c0.toNat:Int)=45)=decide ((c0::r0).head? =some 45):=by
  rw[Bool.eq_iff_iff]
  simp only[AcC,List.head?_cons,Option.some.injEq,← UInt8.toNat_inj]
  show(c0.toNat:Int)=45↔c0.toNat=45
  omega
 have fin:∀(neg:Bool) (r:Ag) (a:Int) (k:Int→Int→Option (List Aa×Int)),Ea r S→(S.length:Int)-r.length=a→(∀x n,a≤x→x≤S.length→k x n=(AN (imp (!(decide (x=a))) (imp (decide ((AK S a)=48)) (Bl .i64 (a+1))))<|Bd (((decide (x=a))||((decide ((AK S a)=48))&&((decide ((a+1)<x))||neg)))) (some (([]:List Aa),(-1))) (AN (Bl .i64 (x-a))<|Bd (decide (18<(x-a))) (Bd neg (some (([(Aa.mk 3 (-2000000000000) ([]:Ag) 0)]:List Aa),x)) (some (([(Aa.mk 3 2000000000000 ([]:Ag) 0)]:List Aa),x))) (Bd neg (AN (Bl .i64 (-n))<|some (([(Aa.mk 3 (-n) ([]:Ag) 0)]:List Aa),x)) (some (([(Aa.mk 3 n ([]:Ag) 0)]:List Aa),x))))))→
   k ((S.length:Int)-(BL r).2.length) (Hx (Hl (BL r).1))=bif DN neg (BL r).1 then some ([⟨3,J7 neg (BL r).1,[],0⟩],(S.length:Int)-(BL r).2.length) else some ([],-1):=λneg r a k hr ha hk=>by
  have hrl:=hr.len
  have hsplit:=Io r
  have hlen:r.length=(BL r).1.length+(BL r).2.length:=by conv=>lhs;rw[hsplit,AcK]
  have hd:=IY r
  rw[hk _ _ (by omega) (by omega),B3 (by
   cases decide ((S.length:Int)-(BL r).2.length=a)<;>cases decide (AK S a=48)<;>simp only[imp,AcO,AcW,Adc,Ada,AcQ]
   exact EP (by omega) (by omega)),A1 (by omega) (by omega)]
  have hx:(S.length:Int)-(BL r).2.length-a=(BL r).1.length:=by omega
  rw[hx]
  have hc:(decide ((S.length:Int)-(BL r).2.length=a)||(decide (AK S a=48)&&(decide (a+1<(S.length:Int)-(BL r).2.length)||neg))) = !DN neg (BL r).1:=by
   unfold DN
   cases he:(BL r).1 with
   | nil=>
    rw[he] at hlen
    rw[AcI (show(S.length:Int)-(BL r).2.length=a by simp only[Adp] at hlen;omega)]
    rfl
   | cons c d=>
    rw[he] at hlen hsplit
    have hg:AK S a=c.toNat:=by
     rw[← ha]
     have hr':=hr
     rw[hsplit] at hr'
     have:=hr'.get
     have e:((S.length:Int)-r.length)=(S.length:Int)-((c::d)++(BL r).2).length:=by rw[← hsplit]
     rw[e]
     exact Dv this
    have hh:decide ((c.toNat:Int)=48)=decide ((c::d).head? =some 48):=by
     rw[Bool.eq_iff_iff]
     simp only[AcC,List.head?_cons,Option.some.injEq,← UInt8.toNat_inj]
     show(c.toNat:Int)=48↔c.toNat=48
     omega
    have h1:decide (a+1<(S.length:Int)-(BL r).2.length)=decide (1<(c::d).length):=by rw[Bool.eq_iff_iff];simp only[AcC];omega
    have h2:decide ((S.length:Int)-(BL r).2.length=a)=false:=AcG (by simp only[AcE] at hlen;omega)
    have h3:decide (c::d=([]:Ag))=false:=by simp
    rw[hg,hh,h1,h2,h3]
    simp
  rw[hc]
  cases hcan:DN neg (BL r).1 with
  | false=>rfl
  | true=>
   rw[Ay (p:=!true) rfl]
   unfold J7
   cases hb:decide (18<(BL r).1.length) with
   | true=>
    rw[AA (AcI (by simp only[AcC] at hb;omega))]
    cases neg<;>rfl
   | false=>
    simp only[AcD] at hb
    have e:Hl (BL r).1=(BL r).1:=List.take_of_length_le (by omega)
    have hbd:=QI hd (by omega)
    rw[Ay (AcG (by omega)),e]
    cases neg with
    | true=>rw[AA rfl,A1 (by omega) (by omega)];rfl
    | false=>rfl
 unfold IH
 rw[AT h0 hlt,hbt,hf,hpos]
 unfold Hz
 simp only
 cases hn:decide ((c0::r0).head? =some 45) with
 | true=>
  have hr:Ea r0 S:=h.tail
  have hl2:=hr.len
  have hlop:BF (λσ=>Gm S ((S.length:Int)-(c0::r0).length) σ.1 σ.2) F ((S.length:Int)-r0.length,0)=some (.go ((S.length:Int)-(BL r0).2.length,Hx (Hl ([]++(BL r0).1)))):=Oz (a:=(S.length:Int)-(c0::r0).length+1) (λx n=>Gm S ((S.length:Int)-(c0::r0).length) x n) hS (λx n=>rfl) r0 [] F hr rfl (by rw[hpos];simp) (by simp;omega) (by omega)
  rw[AA rfl,A1 (by omega) (by omega),AG hlop,CE]
  have:=fin true r0 ((S.length:Int)-(c0::r0).length+1) (Gk S ((S.length:Int)-(c0::r0).length)) hr (by rw[hpos]) (λx n hx1 hx2=>by
   unfold Gk
   have e1:decide ((S.length:Int)-(c0::r0).length<(S.length:Int)-(c0::r0).length+1)=true:=AcI (by omega)
   have e2:imp (!(decide (x=((S.length:Int)-(c0::r0).length+1)))) (Cu ((S.length:Int)-(c0::r0).length+1) (S.length:Int))=true:=by
    cases hd:decide (x=((S.length:Int)-(c0::r0).length+1)) with
    | true=>rfl
    | false=>
     simp only[AcD] at hd
     rw[Md (by omega) (by omega)];rfl
   have e3:∀y:Option (List Aa×Int),AN (Bl .i64 (-2000000000000)) y=y:=λy=>A1 (by decide) (by decide)
   rw[e1,B3 e2,e3])
  simp only[Adh]
  rw[this]
  have hw:Ea (BL r0).2 S:=by have:=Io r0;rw[this] at hr;exact hr.app
  simp only[AcJ,List.tail_cons]
  cases DN true (BL r0).1 with
  | true=>exact .inl ⟨_,_,rfl,hw,rfl⟩
  | false=>exact .inr ⟨rfl,rfl⟩
 | false=>
  have hl2:=h.len
  have hlop:BF (λσ=>Gl S ((S.length:Int)-(c0::r0).length) σ.1 σ.2) F ((S.length:Int)-(c0::r0).length,0)=some (.go ((S.length:Int)-(BL (c0::r0)).2.length,Hx (Hl ([]++(BL (c0::r0)).1)))):=Oz (a:=(S.length:Int)-(c0::r0).length) (λx n=>Gl S ((S.length:Int)-(c0::r0).length) x n) hS (λx n=>rfl) (c0::r0) [] F h rfl (by simp) (by simpa using hl) (by omega)
  rw[Ay rfl,AG hlop,CE]
  have:=fin false (c0::r0) ((S.length:Int)-(c0::r0).length) (Gj S ((S.length:Int)-(c0::r0).length)) h rfl (λx n hx1 hx2=>by
   unfold Gj
   have e1:decide ((S.length:Int)-(c0::r0).length<(S.length:Int)-(c0::r0).length)=false:=AcG (by omega)
   have e3:∀y:Option (List Aa×Int),AN (Bl .i64 (-2000000000000)) y=y:=λy=>A1 (by decide) (by decide)
   rw[e1,e3])
  simp only[Adh]
  rw[this]
  have hw:Ea (BL (c0::r0)).2 S:=by have:=Io (c0::r0);rw[this] at h;exact h.app
  simp only[AcF]
  cases DN false (BL (c0::r0)).1 with
  | true=>exact .inl ⟨_,_,rfl,hw,rfl⟩
  | false=>exact .inr ⟨rfl,rfl⟩
theorem P9 (b:Bool):∀(n:Nat) (s t u:Ag),s.length=n→C6 b s=some (t,u)→∃p,s=p++34::u:=by
 intro n
 induction n using Nat.strongRecOn with
 | ind n ih=>
  intro s t u hn h
  cases s with
  | nil=>cases h
  | cons c r=>
   simp only[AcE] at hn
   rw[D0] at h
   cases h1:decide (c=34) with
   | true=>
    rw[h1] at h;cases h
    simp only[AcC] at h1
    exact⟨[],by rw[h1];rfl⟩
   | false=>
    rw[h1] at h
    simp only[AcF] at h
    cases h2:(b&&!Ku c) with
    | true=>rw[h2] at h;cases h
    | false=>
     rw[h2] at h
     simp only[AcF] at h
     cases h3:decide (c=92) with
     | true=>
      rw[h3] at h
      cases r with
      | nil=>cases h
      | cons d r'=>
       simp only[AcJ] at h
       cases h4:(decide (d=34)||decide (d=92)) with
       | false=>rw[h4] at h;cases h
       | true=>
        rw[h4] at h
        simp only[AcJ] at h
        cases h5:C6 b r' with
        | none=>rw[h5] at h;cases h
        | some q=>
         obtain⟨t',u'⟩:=q
         rw[h5] at h;cases h
         simp only[AcE] at hn
         obtain⟨p,e⟩:=ih r'.length (by omega) r' t' u rfl h5
         exact⟨c::d::p,by rw[e];rfl⟩
     | false=>
      rw[h3] at h
      simp only[AcF] at h
      cases h5:C6 b r with
      | none=>rw[h5] at h;cases h
      | some q=>
       obtain⟨t',u'⟩:=q
       rw[h5] at h;cases h
       obtain⟨p,e⟩:=ih r.length (by omega) r t' u rfl h5
       exact⟨c::p,by rw[e];rfl⟩
theorem Ss {b m:Bool} {last key:Option Ag} {s u:Ag} (h:DD b m last s=some (key,u)):∃p,s=p++u:=by
 unfold DD at h
 cases m with
 | false=>cases h;exact⟨[],rfl⟩
 | true=>
  simp only[AcJ] at h
  cases s with
  | nil=>cases h
  | cons c r=>
   simp only at h
   cases h1:decide (c=34) with
   | false=>rw[h1] at h;cases h
   | true=>
    rw[h1] at h
    simp only[AcJ] at h
    cases h2:C6 b r with
    | none=>rw[h2] at h;cases h
    | some q=>
     obtain⟨k,w⟩:=q
     obtain⟨p,e⟩:=P9 b _ r k w rfl h2
     rw[h2] at h
     simp only at h
     cases h3:(b&&!B1 true last (some k)) with
     | true=>rw[h3] at h;cases h
     | false=>
      rw[h3] at h
      simp only[AcF] at h
      cases w with
      | nil=>cases h
      | cons d w'=>
       simp only at h
       cases h4:decide (d=58) with
       | false=>rw[h4] at h;cases h
       | true=>
        rw[h4] at h;cases h
        exact⟨c::(p++[34,d]),by rw[e];simp⟩
theorem RW (b:Bool):∀F:Nat,(∀s f u,Gb b F s=some (f,u)→∃p c,s=p++c::u∧c≠44)∧(∀m last s g u,Dp b F m last s=some (g,u)→∃p,s=p++Be m::u)
 | 0=>⟨(λs f u h=>by rw[Gb.eq_def] at h;cases h),(λm last s g u h=>by rw[Dp.eq_def] at h;cases h)⟩
 | F+1=>by
  obtain⟨ih1,ih2⟩:=RW b F
  have hcl:∀m,Be m≠44:=λm=>by cases m<;>decide
  constructor
  ·intro s f u h
   rw[D5] at h
   cases h1:pre [110,117,108,108] s with
   | some r=>rw[h1] at h;cases h;exact⟨[110,117,108],108,by have e:=Dg h1;exact e,by decide⟩
   | none=>
   rw[h1] at h;simp only at h
   cases h2:pre [116,114,117,101] s with
   | some r=>rw[h2] at h;cases h;exact⟨[116,114,117],101,by have e:=Dg h2;exact e,by decide⟩
   | none=>
   rw[h2] at h;simp only at h
   cases h3:pre [102,97,108,115,101] s with
   | some r=>rw[h3] at h;cases h;exact⟨[102,97,108,115],101,by have e:=Dg h3;exact e,by decide⟩
   | none=>
   rw[h3] at h;simp only at h
   cases s with
   | nil=>cases h
   | cons c r=>
   simp only at h
   cases h4:decide (c=34) with
   | true=>
    rw[h4] at h;simp only[AcJ] at h
    cases h5:C6 b r with
    | none=>rw[h5] at h;cases h
    | some q=>
     obtain⟨t,w⟩:=q
     rw[h5] at h;cases h
     obtain⟨p,e⟩:=P9 b _ r t u rfl h5
     exact⟨c::p,34,by rw[e];rfl,by decide⟩
   | false=>
   rw[h4] at h;simp only[AcF] at h
   cases h5:(decide (c=91)||decide (c=123)) with
   | false=>
    rw[h5] at h;simp only[AcF] at h
    unfold Hz at h
    simp only at h
    have hsr:∃p,c::r=p++(bif decide ((c::r).head? =some 45) then(c::r).tail else c::r):=by
     cases decide ((c::r).head? =some 45) with
     | true=>exact⟨[c],rfl⟩
     | false=>exact⟨[],rfl⟩
    generalize(bif decide ((c::r).head? =some 45) then(c::r).tail else c::r)=r2 at h hsr
    cases hc:DN (decide ((c::r).head? =some 45)) (BL r2).1 with
    | false=>rw[hc] at h;cases h
    | true=>
     rw[hc] at h
     simp only[AcJ,Option.some.injEq,Prod.mk.injEq] at h
     obtain⟨_,h⟩:=h
     obtain⟨p,e⟩:=hsr
     have hne:(BL r2).1≠[]:=by
      intro e'
      rw[e'] at hc
      cases decide ((c::r).head? =some 45)<;>cases hc
     have hd:=IY r2
     have hl:=List.dropLast_concat_getLast hne
     have hlast:BU ((BL r2).1.getLast hne)=true:=List.all_eq_true.1 hd _ (List.getLast_mem hne)
     refine⟨p++(BL r2).1.dropLast,(BL r2).1.getLast hne,?_,λe'=>by rw[e'] at hlast;cases hlast⟩
     rw[e,← h]
     conv=>lhs;rw[Io r2,← hl]
     simp
   | true=>
   rw[h5] at h;simp only[AcJ] at h
   cases r with
   | nil=>cases h
   | cons d r'=>
   simp only at h
   cases h6:decide (d=Be (decide (c=123))) with
   | true=>
    rw[h6] at h;cases h
    simp only[AcC] at h6
    exact⟨[c],d,rfl,by rw[h6];exact hcl _⟩
   | false=>
   rw[h6] at h;simp only[AcF] at h
   cases h7:Dp b F (decide (c=123)) none (d::r') with
   | none=>rw[h7] at h;cases h
   | some q=>
    obtain⟨g,w⟩:=q
    rw[h7] at h;cases h
    obtain⟨p,e⟩:=ih2 _ _ _ _ _ h7
    exact⟨c::p,_,by rw[e];rfl,hcl _⟩
  ·intro m last s g u h
   rw[Dl] at h
   cases h1:DD b m last s with
   | none=>rw[h1] at h;cases h
   | some q=>
   obtain⟨key,s1⟩:=q
   obtain⟨p1,e1⟩:=Ss h1
   rw[h1] at h;simp only at h
   cases h2:Gb b F s1 with
   | none=>rw[h2] at h;cases h
   | some q=>
   obtain⟨f,s2⟩:=q
   obtain⟨p2,c2,e2,_⟩:=ih1 _ _ _ h2
   rw[h2] at h;simp only at h
   cases s2 with
   | nil=>cases h
   | cons c s3=>
   simp only at h
   cases h3:decide (c=Be m) with
   | true=>
    rw[h3] at h;cases h
    simp only[AcC] at h3
    exact⟨p1++p2++[c2],by rw[e1,e2,h3];simp⟩
   | false=>
   rw[h3] at h;simp only[AcF] at h
   cases h4:decide (c=44) with
   | false=>rw[h4] at h;cases h
   | true=>
   rw[h4] at h;simp only[AcJ] at h
   cases h5:Dp b F m key s3 with
   | none=>rw[h5] at h;cases h
   | some q=>
    obtain⟨g',w⟩:=q
    rw[h5] at h;cases h
    obtain⟨p3,e3⟩:=ih2 _ _ _ _ _ h5
    exact⟨p1++p2++[c2,c]++p3,by rw[e1,e2,e3];simp⟩
def rMB (cl:Ag) (F:Nat) (s:Ag) (rec_rRead:Ag→Int→Option ((List Aa)×Int)) (hg:(List Aa)) (hb:Int) (ha:Aa):Option (Stp ((List Aa)×Int×Aa) (Out ((List Aa)×Int) ((List Aa)×Int×Aa))):=
 AN ((Bu s hb cl).isSome)<|AN (imp (!(!(ov (Bu s hb cl)))) (imp (decide (0<ha.fN)) (Bl .i64 (hb-1))))<|AN (imp (!(!(ov (Bu s hb cl)))) (imp (decide (0<ha.fN)) (Cu (hb-1) (s.length:Int))))<|Bd (((!(ov (Bu s hb cl)))||((decide (0<ha.fN))&&(decide ((AK s (hb-1))=44))))) (Bd (decide (ha.fKind=6)) (Bn (Dj F s hb) λhd=>AN (imp (!(decide (hd.2<0))) ((Bu s hd.2 ([58]:Ag)).isSome))<|Bd (((decide (hd.2<0))||(!(ov (Bu s hd.2 ([58]:Ag)))))) (some (.out (.ret (([]:List Aa),(-1))))) (AN (Dw 40 (hg.length+([(Aa.mk 4 0 hd.1 0)]:List Aa).length))<|AN (Bl .i64 (hd.2+1))<|Bn (rec_rRead s (hd.2+1)) λhe=>Bd (decide (he.2<0)) (some (.out (.ret (([]:List Aa),(-1))))) (AN (Dw 40 ((hg++([(Aa.mk 4 0 hd.1 0)]:List Aa)).length+he.1.length))<|AN (Bl .i64 (ha.fN+1))<|Bn (Bu s he.2 ([44]:Ag)) λhh=>Bd (hh) (AN (Bl .i64 (he.2+1))<|some (.next ((hg++([(Aa.mk 4 0 hd.1 0)]:List Aa))++he.1,he.2+1,(Aa.mk ha.fKind ha.fInt ha.fStr (ha.fN+1))))) (Bn (Bu s he.2 cl) λhi=>Bd (!hi) (some (.out (.ret (([]:List Aa),(-1))))) (some (.next ((hg++([(Aa.mk 4 0 hd.1 0)]:List Aa))++he.1,he.2,(Aa.mk ha.fKind ha.fInt ha.fStr (ha.fN+1))))))))) (Bn (rec_rRead s hb) λhf=>Bd (decide (hf.2<0)) (some (.out (.ret (([]:List Aa),(-1))))) (AN (Dw 40 (hg.length+hf.1.length))<|AN (Bl .i64 (ha.fN+1))<|Bn (Bu s hf.2 ([44]:Ag)) λhj=>Bd (hj) (AN (Bl .i64 (hf.2+1))<|some (.next (hg++hf.1,hf.2+1,(Aa.mk ha.fKind ha.fInt ha.fStr (ha.fN+1))))) (Bn (Bu s hf.2 cl) λhk=>Bd (!hk) (some (.out (.ret (([]:List Aa),(-1))))) (some (.next (hg++hf.1,hf.2,(Aa.mk ha.fKind ha.fInt ha.fStr (ha.fN+1))))))))) (some (.out (.go (hg,hb,ha))))
def ROk (F P:Nat) (S u:Ag):Prop:=
 (∃f w,Gb false P u=some (f,w)∧Ea w S∧Hi F S ((S.length:Int)-u.length)=some (f.flat,(S.length:Int)-w.length))∨(Gb false P u=none∧∃v,Hi F S ((S.length:Int)-u.length)=some (v,-1))
abbrev RLB (m:Bool) (F:Nat) (S:Ag) (G:Nat):List Aa×Int×Aa→Option (Stp (List Aa×Int×Aa) (Out (List Aa×Int) (List Aa×Int×Aa))):=λσ=>rMB [Be m] F S (Hi G) σ.1 σ.2.1 σ.2.2
def hd (m:Bool) (N:Int):Aa:=⟨bif m then 6 else 5,0,[],N⟩
theorem ZR (m:Bool) (N:Int):decide ((hd m N).fKind=6)=m:=by cases m<;>rfl
theorem Vf {m:Bool} {F G P:Nat} {S u:Ag} {out:List Aa} {N:Int} (hS:S.length≤100000) (hs:Ea u S) (hF:S.length<F) (hN0:0≤N) (hN:N≤200000) (ho:out.length+u.length≤S.length) (hA:(pre [Be m] u).isSome=false∨(0<N∧Ea (44::u) S))
  (hR:∀w,Ea w S→w.length≤u.length→ROk G P S w) :
  (∃v,RLB m F S G (out,(S.length:Int)-u.length,hd m N)=some (.out (.ret (v,-1)))∧(DD false m none u=none∨∃key s1,DD false m none u=some (key,s1)∧(Gb false P s1=none∨∃f s2,Gb false P s1=some (f,s2)∧∀c s3,s2=c::s3→decide (c=Be m)=false∧decide (c=44)=false)))∨
  ∃key s1 f s2,DD false m none u=some (key,s1)∧Gb false P s1=some (f,s2)∧Ea s2 S∧((∃s3,s2=Be m::s3∧RLB m F S G (out,(S.length:Int)-u.length,hd m N)=some (.next (out++(By key++f.flat),(S.length:Int)-s2.length,hd m (N+1))))∨(∃s3,s2=44::s3∧RLB m F S G (out,(S.length:Int)-u.length,hd m N)=some (.next (out++(By key++f.flat),(S.length:Int)-s3.length,hd m (N+1))))):=by
 have hsl:=hs.len
 have hb0:RLB m F S G (out,(S.length:Int)-u.length,hd m N)=rMB [Be m] F S (Hi G) out ((S.length:Int)-u.length) (hd m N):=rfl
 have hst:=CX (w:=[Be m]) hS (by simp) hs
 have htest:rMB [Be m] F S (Hi G) out ((S.length:Int)-u.length) (hd m N)=Bd m (Bn (Dj F S ((S.length:Int)-u.length)) λha=>AN (imp (!(decide (ha.2<0))) ((Bu S ha.2 ([58]:Ag)).isSome))<|Bd (((decide (ha.2<0))||(!(ov (Bu S ha.2 ([58]:Ag)))))) (some (.out (.ret (([]:List Aa),(-1))))) (AN (Dw 40 (out.length+([(Aa.mk 4 0 ha.1 0)]:List Aa).length))<|AN (Bl .i64 (ha.2+1))<|Bn (Hi G S (ha.2+1)) λhb=>Bd (decide (hb.2<0)) (some (.out (.ret (([]:List Aa),(-1))))) (AN (Dw 40 ((out++([(Aa.mk 4 0 ha.1 0)]:List Aa)).length+hb.1.length))<|AN (Bl .i64 (N+1))<|Bn (Bu S hb.2 ([44]:Ag)) λhi=>Bd (hi) (AN (Bl .i64 (hb.2+1))<|some (.next ((out++([(Aa.mk 4 0 ha.1 0)]:List Aa))++hb.1,hb.2+1,hd m (N+1)))) (Bn (Bu S hb.2 [Be m]) λhj=>Bd (!hj) (some (.out (.ret (([]:List Aa),(-1))))) (some (.next ((out++([(Aa.mk 4 0 ha.1 0)]:List Aa))++hb.1,hb.2,hd m (N+1)))))))) (Bn (Hi G S ((S.length:Int)-u.length)) λhe=>Bd (decide (he.2<0)) (some (.out (.ret (([]:List Aa),(-1))))) (AN (Dw 40 (out.length+he.1.length))<|AN (Bl .i64 (N+1))<|Bn (Bu S he.2 ([44]:Ag)) λhk=>Bd (hk) (AN (Bl .i64 (he.2+1))<|some (.next (out++he.1,he.2+1,hd m (N+1)))) (Bn (Bu S he.2 [Be m]) λhl=>Bd (!hl) (some (.out (.ret (([]:List Aa),(-1))))) (some (.next (out++he.1,he.2,hd m (N+1))))))):=by
  unfold rMB
  rw[hst,B3 (p:=(some (pre [Be m] u).isSome).isSome) rfl,GP,ZR]
  rcases hA with h0 | ⟨hp,hc⟩
  ·rw[h0,B3 (p:=imp (!(!false)) _) rfl,B3 (p:=imp (!(!false)) _) rfl,AA (p:=!false||_) rfl]
   rfl
  ·have hcl:=hc.len
   simp only[AcE] at hcl
   have hm:AK S ((S.length:Int)-u.length-1)=44:=by
    have:=Dv hc.get
    rw[AcE] at this
    rw[show(S.length:Int)-u.length-1=(S.length:Int)-((u.length+1:Nat):Int) from by omega]
    exact this
   have hN':decide (0<(hd m N).fN)=true:=AcI hp
   rw[hN',hm,EP (by omega) (by omega),Md (by omega) (by omega),B3 (p:=imp _ (imp true true)) (by cases(pre [Be m] u).isSome<;>rfl),B3 (p:=imp _ (imp true true)) (by cases(pre [Be m] u).isSome<;>rfl),AA (p:=_||(true&&decide ((44:Int)=44))) (by cases(pre [Be m] u).isSome<;>rfl)]
   rfl
 rw[hb0,htest]
 have hh:∀s2:Ag,(pre [44] s2).isSome=match s2 with | []=>false | c::_=>decide (c=44):=λs2=>by
  rw[Jm]
  cases s2 with
  | nil=>rfl
  | cons c s3=>simp only;cases decide (c=44)<;>rfl
 have pcl:∀s2:Ag,(pre [Be m] s2).isSome=match s2 with | []=>false | c::_=>decide (c=Be m):=λs2=>by
  rw[Jm]
  cases s2 with
  | nil=>rfl
  | cons c s3=>simp only;cases decide (c=Be m)<;>rfl
 have hcl44:decide (Be m=44)=false:=by cases m<;>rfl
 cases m with
 | false=>
  rw[Ay rfl]
  have hkp:DD false false none u=some (none,u):=rfl
  rcases hR u hs (Adf _) with⟨f,s2,q1,q2,q3⟩ | ⟨q1,v,q2⟩
  ·have hfl:=(Ew false P).1 _ _ _ q1
   have h2l:=q2.len
   rw[q3,AG rfl,Ay (AcG (by simp only;omega)),KD (by simp only;omega),A1 (by omega) (by omega),CX hS (by simp) q2,AG rfl,hh]
   cases s2 with
   | nil=>
    rw[Ay rfl,CX hS (by simp) q2,AG rfl,pcl]
    exact .inl ⟨[],rfl,.inr ⟨none,u,hkp,.inr ⟨f,[],q1,λc s3 e=>by cases e⟩⟩⟩
   | cons c s3=>
    simp only
    cases hf:decide (c=44) with
    | true=>
     simp only[AcC] at hf
     subst hf
     simp only[AcE] at h2l
     rw[AA rfl,A1 (by simp only[AcE];omega) (by simp only[AcE];omega)]
     refine .inr ⟨none,u,f,_,hkp,q1,q2,.inr ⟨s3,rfl,?_⟩⟩
     simp only[AcE,By,Adh]
     congr 4
     omega
    | false=>
     rw[Ay rfl,CX hS (by simp) q2,AG rfl,pcl]
     simp only
     cases hcc:decide (c=Be false) with
     | true=>
      simp only[AcC] at hcc
      subst hcc
      exact .inr ⟨none,u,f,_,hkp,q1,q2,.inl ⟨s3,rfl,rfl⟩⟩
     | false=>exact .inl ⟨[],rfl,.inr ⟨none,u,hkp,.inr ⟨f,_,q1,λc' s3' e=>by cases e;exact⟨hcc,hf⟩⟩⟩⟩
  ·rw[q2,AG rfl]
   exact .inl ⟨[],rfl,.inr ⟨none,u,hkp,.inl q1⟩⟩
 | true=>
  rw[AA rfl]
  rcases JG hS hs hF with⟨r,t,w,e1,e2,e3,e4⟩ | ⟨e1,e2⟩
  ·have hwl:=e3.len
   have hwl2:=IF false _ r t w rfl e2
   subst e1
   have hul:(34::r).length=r.length+1:=rfl
   rw[e4,AG rfl]
   have hkc:DD false true none (34::r)=Aai t w:=by rw[Mb,e2];rfl
   have hlt:decide ((S.length:Int)-w.length<0)=false:=AcG (by omega)
   simp only
   rw[hlt,CX hS (by simp) e3,B3 (p:=imp (!false) (some (pre [58] w).isSome).isSome) rfl,GP,Jm]
   cases w with
   | nil=>exact .inl ⟨[],rfl,.inl (by rw[hkc];rfl)⟩
   | cons d s1=>
    simp only
    cases hg:decide (d=58) with
    | false=>
     refine .inl ⟨[],rfl,.inl ?_⟩
     rw[hkc]
     show(bif decide (d=58) then _ else none)=none
     rw[hg];rfl
    | true=>
     simp only[AcC] at hg
     subst hg
     have hkp:DD false true none (34::r)=some (some t,s1):=hkc
     simp only[AcE] at hwl hwl2
     have hpos:(S.length:Int)-(58::s1).length+1=S.length-s1.length:=by rw[AcE];omega
     simp only[AcJ]
     rw[Ay (p:=false||!(some s1).isSome) rfl,KD (by rw[List.length_singleton];omega),hpos,A1 (by omega) (by omega)]
     rcases hR s1 e3.tail (by omega) with⟨f,s2,q1,q2,q3⟩ | ⟨q1,v,q2⟩
     ·have hfl:=(Ew false P).1 _ _ _ q1
      have h2l:=q2.len
      rw[q3,AG rfl,Ay (AcG (by simp only;omega)),KD (by simp only[AcK,List.length_singleton];omega),A1 (by omega) (by omega),CX hS (by simp) q2,AG rfl,hh]
      cases s2 with
      | nil=>
       rw[Ay rfl,CX hS (by simp) q2,AG rfl,pcl]
       exact .inl ⟨[],rfl,.inr ⟨some t,s1,hkp,.inr ⟨f,[],q1,λc s3 e=>by cases e⟩⟩⟩
      | cons c s3=>
       simp only
       cases hf:decide (c=44) with
       | true=>
        simp only[AcC] at hf
        subst hf
        simp only[AcE] at h2l
        rw[AA rfl,A1 (by simp only[AcE];omega) (by simp only[AcE];omega)]
        refine .inr ⟨some t,s1,f,_,hkp,q1,q2,.inr ⟨s3,rfl,?_⟩⟩
        simp only[AcE,By,Adb]
        congr 4
        omega
       | false=>
        rw[Ay rfl,CX hS (by simp) q2,AG rfl,pcl]
        simp only
        cases hcc:decide (c=Be true) with
        | true=>
         simp only[AcC] at hcc
         subst hcc
         exact .inr ⟨some t,s1,f,_,hkp,q1,q2,.inl ⟨s3,rfl,by rw[Adb];rfl⟩⟩
        | false=>exact .inl ⟨[],rfl,.inr ⟨some t,s1,hkp,.inr ⟨f,_,q1,λc' s3' e=>by cases e;exact⟨hcc,hf⟩⟩⟩⟩
     ·rw[q2,AG rfl]
      exact .inl ⟨[],rfl,.inr ⟨some t,s1,hkp,.inl q1⟩⟩
  ·rw[e2,AG rfl]
   refine .inl ⟨[],?_,.inl (Ut _ _ e1)⟩
   rfl
theorem VC (m:Bool) (last:Option Ag) (s:Ag):DD false m last s=DD false m none s:=by
 cases m with
 | false=>rfl
 | true=>
  cases s with
  | nil=>rfl
  | cons c r=>
   by_cases hc:c=34
   ·subst hc
    rw[Mb,Mb]
    cases C6 false r with
    | none=>rfl
    | some q=>rfl
   ·show(bif decide (c=34) then _ else none)=(bif decide (c=34) then _ else none)
    rw[AcG hc];rfl
theorem PG {m:Bool} {F G:Nat} {S w:Ag} {out:List Aa} {N:Int} (hS:S.length≤100000) (hs:Ea (Be m::w) S) (hN0:0≤N) (h:N=0∨∃c,c≠44∧Ea (c::Be m::w) S) :
  RLB m F S G (out,(S.length:Int)-(Be m::w).length,hd m N)=some (.out (.go (out,(S.length:Int)-(Be m::w).length,hd m N))):=by
 have hb0:RLB m F S G (out,(S.length:Int)-(Be m::w).length,hd m N)=rMB [Be m] F S (Hi G) out ((S.length:Int)-(Be m::w).length) (hd m N):=rfl
 rw[hb0]
 have hsl:=hs.len
 have hp:pre [Be m] (Be m::w)=some w:=by rw[Jm];simp
 unfold rMB
 rw[CX hS (by simp) hs,hp,B3 (p:=(some (some w).isSome).isSome) rfl,GP]
 rcases h with h0 | ⟨c,hc,hcs⟩
 ·subst h0
  have e:decide (0<(hd m 0).fN)=false:=rfl
  rw[e];rfl
 ·have hcl:=hcs.len
  simp only[AcE] at hcl hsl
  have hbt:AK S ((S.length:Int)-(Be m::w).length-1)=c.toNat:=by
   have:=Dv hcs.get
   rw[AcE] at this
   rw[show(S.length:Int)-(Be m::w).length-1=(S.length:Int)-(((Be m::w).length+1:Nat):Int) from by omega]
   exact this
  have ha:decide ((c.toNat:Int)=44)=false:=AcG (λe=>hc (by rw[← UInt8.toNat_inj];show c.toNat=44;omega))
  have i1:Bl .i64 ((S.length:Int)-(Be m::w).length-1)=true:=EP (by simp only[AcE];omega) (by simp only[AcE];omega)
  have i2:Cu ((S.length:Int)-(Be m::w).length-1) (S.length:Int)=true:=Md (by simp only[AcE];omega) (by omega)
  rw[i1,i2,hbt,ha]
  cases decide (0<(hd m N).fN)<;>rfl
def RLk (P:Nat) (m:Bool) (last:Option Ag) (S u:Ag) (out:List Aa) (N:Int) (o:Out (List Aa×Int) (List Aa×Int×Aa)):Prop:=
 (∃G w,Dp false P m last u=some (G,w)∧Ea (Be m::w) S∧o = .go (out++G.flat,(S.length:Int)-(Be m::w).length,hd m (N+(G.cnt:Int))))∨(Dp false P m last u=none∧∃v,o = .ret (v,-1))
theorem AbC {S:Ag} (hS:S.length≤100000):∀n:Nat,
  (∀(F P:Nat) (u:Ag),u.length=n→Ea u S→S.length+2*n+5<F→2*n+2≤P→ROk F P S u)∧
  (∀(m:Bool) (F G P L:Nat) (u:Ag) (last:Option Ag) (out:List Aa) (N:Int),u.length=n→Ea u S→S.length<F→S.length+2*n+5<G→2*n+3≤P→n+1<L→out.length+n≤S.length→0≤N→N+n≤S.length+1→((pre [Be m] u).isSome=false∨(0<N∧Ea (44::u) S))→
   ∃o,BF (RLB m F S G) L (out,(S.length:Int)-u.length,hd m N)=some o∧RLk P m last S u out N o):=by
 intro n
 induction n using Nat.strongRecOn with
 | ind n ih=>
 have hV:∀(F P:Nat) (u:Ag),u.length=n→Ea u S→S.length+2*n+5<F→2*n+2≤P→ROk F P S u:=by
  intro F P u hn hs hF hP
  obtain⟨F,rfl⟩:∃K,F=K+1:=⟨F-1,by omega⟩
  obtain⟨P,rfl⟩:∃K,P=K+1:=⟨P-1,by omega⟩
  have hsl:=hs.len
  unfold ROk
  rw[Hi]
  unfold Q3
  rw[D5]
  have word:∀(w:Ag) (k:Nat) (r:Ag),pre w u=some r→w.length=k→Ea r S∧(S.length:Int)-u.length+k=S.length-r.length:=λw k r hp hk=>by
   have e:=Dg hp
   have hl:u.length=w.length+r.length:=by rw[e];simp
   refine⟨?_,by omega⟩
   rw[e] at hs;exact hs.app
  by_cases hu:u=[]
  ·subst hu
   rw[AA (AcI (by simp))]
   exact .inr ⟨rfl,[],rfl⟩
  have hne:0<u.length:=List.length_pos_iff.2 hu
  rw[Ay (AcG (by omega)),CX hS (by decide) hs,AG rfl]
  cases h1:pre [110,117,108,108] u with
  | some r=>
   obtain⟨hr,hp⟩:=word _ 4 r h1 rfl
   have hp:(S.length:Int)-u.length+4=S.length-r.length:=hp
   rw[AA (p:=(some r).isSome) rfl,hp]
   refine .inl ⟨_,r,rfl,hr,?_⟩
   show(Bn (RI) λr9=>AN (Bl .i64 ((S.length:Int)-r.length))<|some (r9,(S.length:Int)-r.length))=_
   unfold RI
   rw[AG rfl,A1 (by omega) (by omega)];rfl
  | none=>
  rw[Ay (p:=(none:Option Ag).isSome) rfl,CX hS (by decide) hs,AG rfl]
  simp only
  cases h2:pre [116,114,117,101] u with
  | some r=>
   obtain⟨hr,hp⟩:=word _ 4 r h2 rfl
   have hp:(S.length:Int)-u.length+4=S.length-r.length:=hp
   rw[AA (p:=(some r).isSome) rfl,hp]
   refine .inl ⟨_,r,rfl,hr,?_⟩
   show(Bn (Nm true) λr9=>AN (Bl .i64 ((S.length:Int)-r.length))<|some (r9,(S.length:Int)-r.length))=_
   rw[show Nm true=some [⟨2,1,[],0⟩] from rfl,AG rfl,A1 (by omega) (by omega)];rfl
  | none=>
  rw[Ay (p:=(none:Option Ag).isSome) rfl,CX hS (by decide) hs,AG rfl]
  simp only
  cases h3:pre [102,97,108,115,101] u with
  | some r=>
   obtain⟨hr,hp⟩:=word _ 5 r h3 rfl
   have hp:(S.length:Int)-u.length+5=S.length-r.length:=hp
   rw[AA (p:=(some r).isSome) rfl,hp]
   refine .inl ⟨_,r,rfl,hr,?_⟩
   show(Bn (Nm false) λr9=>AN (Bl .i64 ((S.length:Int)-r.length))<|some (r9,(S.length:Int)-r.length))=_
   rw[show Nm false=some [⟨2,0,[],0⟩] from rfl,AG rfl,A1 (by omega) (by omega)];rfl
  | none=>
  rw[Ay (p:=(none:Option Ag).isSome) rfl]
  simp only
  cases u with
  | nil=>exact absurd rfl hu
  | cons c r=>
  have hbt:AK S ((S.length:Int)-(c::r).length)=c.toNat:=Dv hs.get
  have hpos:(S.length:Int)-(c::r).length+1=S.length-r.length:=by rw[AcE];omega
  simp only[AcE] at hn hsl
  have hlt:(S.length:Int)-(c::r).length<S.length:=by rw[AcE];omega
  have h0:0≤(S.length:Int)-(c::r).length:=by rw[AcE];omega
  rw[AT h0 hlt,hbt,Qe]
  simp only
  cases he:decide (c=34) with
  | true=>
   rw[AA rfl]
   simp only[AcC] at he
   subst he
   simp only[AcJ]
   rcases JG hS hs (F:=F) (by omega) with⟨r',t,w,e1,e2,e3,e4⟩ | ⟨e1,e2⟩
   ·cases e1
    rw[e4,e2,AG rfl]
    exact .inl ⟨_,w,rfl,e3,rfl⟩
   ·rw[e2,e1 r rfl,AG rfl]
    exact .inr ⟨rfl,_,rfl⟩
  | false=>
  rw[Ay rfl]
  simp only[AcF]
  have hi:decide ((c.toNat:Int)=91)=decide (c=91):=by
   rw[Bool.eq_iff_iff,decide_eq_true_iff,decide_eq_true_iff,← UInt8.toNat_inj]
   show _↔c.toNat=91
   omega
  have hh:decide ((c.toNat:Int)=123)=decide (c=123):=by
   rw[Bool.eq_iff_iff,decide_eq_true_iff,decide_eq_true_iff,← UInt8.toNat_inj]
   show _↔c.toNat=123
   omega
  rw[hi,hh]
  cases hb:(decide (c=91)||decide (c=123)) with
  | false=>
   rw[Ay rfl]
   simp only[AcF]
   rcases RG (F:=F) hS hs (by omega) with⟨f,w,e1,e2,e3⟩ | ⟨e1,e2⟩
   ·rw[e3,AG rfl];exact .inl ⟨f,w,e1,e2,rfl⟩
   ·rw[e2,AG rfl];exact .inr ⟨e1,_,rfl⟩
  | true=>
  rw[AA rfl]
  simp only[AcJ]
  obtain⟨F,rfl⟩:∃K,F=K+1:=⟨F-1,by omega⟩
  have hmany:∀m:Bool,decide (c=123)=m→(∃f w,Pj false P m r=some (f,w)∧Ea w S∧DI (F+1) S ((S.length:Int)-(c::r).length)=some (f.flat,(S.length:Int)-w.length))∨(Pj false P m r=none∧∃v,DI (F+1) S ((S.length:Int)-(c::r).length)=some (v,-1)):=λm hm=>by
   have hrun:DI (F+1) S ((S.length:Int)-(c::r).length)=Bn (BF (RLB m F S F) F ([],(S.length:Int)-r.length,hd m 0)) (B6 λν=>(AN (Dw 40 (([ν.2.2]:List Aa).length+ν.1.length))<|AN (Bl .i64 (ν.2.1+1))<|some (([ν.2.2]:List Aa)++ν.1,ν.2.1+1))):=by
    rw[DI]
    unfold Jj
    rw[AT h0 hlt,hbt,hh,hm,hpos]
    cases m with
    | true=>rw[AA rfl,A1 (by omega) (by omega)];rfl
    | false=>rw[Ay rfl,A1 (by omega) (by omega)];rfl
   have hend:∀(g:Fo) (w:Ag) (o:Out (List Aa×Int) (List Aa×Int×Aa)),Ea (Be m::w) S→g.flat.length≤200000→o = .go ([]++g.flat,(S.length:Int)-(Be m::w).length,hd m (0+(g.cnt:Int)))→B6 (λν:List Aa×Int×Aa=>(AN (Dw 40 (([ν.2.2]:List Aa).length+ν.1.length))<|AN (Bl .i64 (ν.2.1+1))<|some (([ν.2.2]:List Aa)++ν.1,ν.2.1+1))) o=some ((nd m g).flat,(S.length:Int)-w.length):=λg w o hsw hgl ho=>by
    have hwl:=hsw.len
    simp only[AcE] at hwl
    rw[ho,CE,Jo _ _ Ip,Adh]
    simp only
    rw[KD (by rw[List.length_singleton];omega),show(S.length:Int)-(Be m::w).length+1=S.length-w.length from by rw[AcE];omega,A1 (by omega) (by omega),Int.zero_add]
    rfl
   rw[hrun]
   by_cases hcl:∃w,r=Be m::w
   ·obtain⟨w,rfl⟩:=hcl
    obtain⟨F',rfl⟩:∃K,F=K+1:=⟨F-1,by omega⟩
    have hg:=PG (F:=F'+1) (G:=F'+1) (out:=[]) (N:=0) hS hs.tail (Ade 0) (.inl rfl)
    rw[AG (Dd hg)]
    refine .inl ⟨nd m .nil,w,?_,hs.tail.tail,?_⟩
    ·rw[HE,AcI rfl];rfl
    ·exact hend .nil w _ hs.tail (Adn _) rfl
   ·have hA:(pre [Be m] r).isSome=false:=by
     rw[Jm]
     cases r with
     | nil=>rfl
     | cons d r'=>
      simp only
      by_cases hd':d=Be m
      ·exact absurd ⟨r',by rw[hd']⟩ hcl
      ·rw[AcG hd'];rfl
    obtain⟨o,ho1,ho2⟩:=(ih r.length (by omega)).2 m F F P F r none [] 0 rfl hs.tail (by omega) (by omega) (by omega) (by omega) (by simp;omega) (Ade 0) (by omega) (.inl hA)
    rw[AG ho1]
    have hbk:Pj false P m r=match Dp false P m none r with
      | none=>none
      | some (g,u)=>some (nd m g,u):=by
     cases r with
     | nil=>
      have:Dp false P m none []=none:=by
       cases hp:Dp false P m none [] with
       | none=>rfl
       | some q=>obtain⟨g,u⟩:=q;exact absurd ((DW false P).2 _ _ _ _ _ hp).1 (by simp)
      rw[this];rfl
     | cons d r'=>
      rw[HE]
      by_cases hd':d=Be m
      ·exact absurd ⟨r',by rw[hd']⟩ hcl
      ·rw[AcG hd'];rfl
    rw[hbk]
    rcases ho2 with⟨g,w,q1,q2,q3⟩ | ⟨q1,v,q2⟩
    ·rw[q1]
     have hgl:=(Ew false P).2 _ _ _ _ _ q1
     exact .inl ⟨_,w,rfl,q2.tail,hend g w o q2 (by omega) q3⟩
    ·rw[q1,q2]
     exact .inr ⟨rfl,v,rfl⟩
  have hgoal:(∃f w,Pj false P (decide (c=123)) r=some (f,w)∧Ea w S∧(Bn (DI (F+1) S ((S.length:Int)-(c::r).length)) λha=>some (ha.1,ha.2))=some (f.flat,(S.length:Int)-w.length))∨(Pj false P (decide (c=123)) r=none∧∃v,(Bn (DI (F+1) S ((S.length:Int)-(c::r).length)) λha=>some (ha.1,ha.2))=some (v,-1)):=by
   rcases hmany (decide (c=123)) rfl with⟨f,w,q1,q2,q3⟩ | ⟨q1,v,q2⟩
   ·rw[q3,AG rfl];exact .inl ⟨f,w,q1,q2,rfl⟩
   ·rw[q2,AG rfl];exact .inr ⟨q1,v,rfl⟩
  cases r with
  | nil=>exact hgoal
  | cons d r'=>exact hgoal
 refine⟨hV,?_⟩
 intro m F G P L u last out N hn hs hF hG hP hL hb hN0 hN hA
 obtain⟨P,rfl⟩:∃K,P=K+1:=⟨P-1,by omega⟩
 obtain⟨L,rfl⟩:∃K,L=K+1:=⟨L-1,by omega⟩
 have hsl:=hs.len
 have hR:∀w,Ea w S→w.length≤u.length→ROk G P S w:=λw hw hwl=>by
  rcases Nat.lt_or_eq_of_le hwl with h | h
  ·exact(ih w.length (by omega)).1 G P w rfl hw (by omega) (by omega)
  ·exact hV G P w (by omega) hw (by omega) (by omega)
 unfold RLk
 rw[Dl,VC]
 rcases Vf (P:=P) (N:=N) (out:=out) hS hs hF hN0 (by omega) (by omega) hA hR with⟨v,hb1,hf⟩ | ⟨key,s1,f,s2,k1,k2,k3,h⟩
 ·refine⟨_,Dd hb1,.inr ⟨?_,v,rfl⟩⟩
  rcases hf with hf | ⟨key,s1,hk,hf | ⟨f,s2,hf,hno⟩⟩
  ·rw[hf]
  ·rw[hk];simp only[hf]
  ·rw[hk];simp only[hf]
   cases s2 with
   | nil=>rfl
   | cons c s3=>
    obtain⟨a,b⟩:=hno c s3 rfl
    simp only[a,b,AcF]
 ·obtain⟨l1,ho⟩:=(DW false P).1 _ _ _ k2
  have l2:=(Ew false P).1 _ _ _ k2
  have l3:=PY k1
  rw[k1]
  simp only[k2]
  rcases h with⟨s3,e,hb1⟩ | ⟨s3,e,hb1⟩
  ·subst e
   obtain⟨L,rfl⟩:∃K,L=K+1:=⟨L-1,by omega⟩
   obtain⟨pp,c,e,hc⟩:=(RW false P).1 _ _ _ k2
   obtain⟨p1,e1⟩:=Ss k1
   have hcs:Ea (c::Be m::s3) S:=by
    obtain⟨q,e2⟩:=hs
    exact⟨q++p1++pp,by rw[e2,e1,e];simp⟩
   have hg:=PG (F:=F) (G:=G) (out:=out++(By key++f.flat)) (N:=N+1) hS k3 (by omega) (.inr ⟨c,hc,hcs⟩)
   refine⟨_,G8 hb1 (Dd hg),.inl ⟨f.put key .nil,s3,?_,k3,?_⟩⟩
   ·simp only[decide_true,AcJ]
   ·rw[Ev ho,NK ho]
    simp only[Fo.flat,Fo.cnt,Adg]
    congr 4
  ·subst e
   have hj:decide ((44:UInt8)=Be m)=false:=by cases m<;>rfl
   simp only[AcE] at l1 l2
   obtain⟨o,ho1,ho2⟩:=(ih s3.length (by omega)).2 m F G P L s3 key (out++(By key++f.flat)) (N+1) rfl k3.tail hF (by omega) (by omega) (by omega) (by rw[AcK,AcK];omega) (by omega) (by omega) (.inr ⟨by omega,k3⟩)
   refine⟨o,G8 hb1 ho1,?_⟩
   simp only[hj,AcF,decide_true,AcJ]
   rcases ho2 with⟨g,w,q1,q2,q3⟩ | ⟨q1,v,q2⟩
   ·rw[q1]
    refine .inl ⟨f.put key g,w,rfl,q2,?_⟩
    rw[q3,Ev ho,NK ho]
    simp only[Adb]
    congr 4
    omega
   ·rw[q1];exact .inr ⟨rfl,v,q2⟩
theorem WV {S:Ag} (hS:S.length≤100000) {F P:Nat} (hF:3*S.length+6≤F) (hP:2*S.length+2≤P):ROk F P S S:=
 (AbC hS S.length).1 F P S rfl ⟨[],rfl⟩ (by omega) hP
theorem R6:∀(n:Nat) (s:Ag),s.length=n→C6 true s=match C6 false s with
  | none=>none
  | some (t,u)=>bif t.all Ku then some (t,u) else none:=by
 intro n
 induction n using Nat.strongRecOn with
 | ind n ih=>
  intro s hn
  cases s with
  | nil=>rfl
  | cons c r=>
   simp only[AcE] at hn
   rw[D0,D0]
   cases h1:decide (c=34) with
   | true=>rfl
   | false=>
    simp only[AcF,AcN,AcT]
    cases h3:decide (c=92) with
    | true=>
     have hc:Ku c=true:=by simp only[AcC] at h3;subst h3;rfl
     rw[hc]
     cases r with
     | nil=>rfl
     | cons d r'=>
      simp only[AcO,AcF,AcJ]
      simp only[AcE] at hn
      cases h4:(decide (d=34)||decide (d=92)) with
      | false=>rfl
      | true=>
       have hd:Ku d=true:=by
        simp only[Adi,AcC] at h4
        rcases h4 with e | e<;>subst e<;>rfl
       simp only[AcJ]
       rw[ih r'.length (by omega) r' rfl]
       cases C6 false r' with
       | none=>rfl
       | some q=>
        obtain⟨t,u⟩:=q
        simp only[Adm,hd,AcN]
        cases t.all Ku<;>rfl
    | false=>
     simp only[AcF]
     rw[ih r.length (by omega) r rfl]
     cases hc:Ku c with
     | false=>
      simp only[AcW,AcJ]
      cases C6 false r with
      | none=>rfl
      | some q=>obtain⟨t,u⟩:=q;simp[hc]
     | true=>
      simp only[AcO,AcF]
      cases C6 false r with
      | none=>rfl
      | some q=>
       obtain⟨t,u⟩:=q
       simp only[Adm,hc,AcN]
       cases t.all Ku<;>rfl
theorem XQ (m:Bool) (last:Option Ag) (s:Ag):DD true m last s=match DD false m none s with
  | none=>none
  | some (k,u)=>bif B1 m last k then some (k,u) else none:=by
 cases m with
 | false=>rfl
 | true=>
  cases s with
  | nil=>rfl
  | cons c r=>
   unfold DD
   simp only[AcJ,AcN,AcT,AcF]
   cases hc:decide (c=34) with
   | false=>rfl
   | true=>
    simp only[AcJ]
    rw[R6 _ r rfl]
    cases C6 false r with
    | none=>rfl
    | some q=>
     obtain⟨t,u⟩:=q
     simp only
     cases ht:t.all Ku with
     | false=>
      have hk:B1 true last (some t)=false:=by simp[B1,ht]
      simp only[AcF]
      cases u with
      | nil=>rfl
      | cons d u'=>
       simp only
       cases decide (d=58) with
       | false=>rfl
       | true=>simp only[AcJ,hk];rfl
     | true=>
      simp only[AcJ]
      cases u with
      | nil=>cases B1 true last (some t)<;>rfl
      | cons d u'=>
       simp only
       cases decide (d=58) with
       | false=>cases B1 true last (some t)<;>rfl
       | true=>cases hk:B1 true last (some t)<;>simp[hk]
def plr (c:Aa):Bool:=bif decide (c.fKind=4) then decide (c.fInt=0)&&decide (c.fN=0) else pl c
def Fo.rw:Bool→Fo→Bool
 | _,.nil=>true
 | m,.cell k c r=>(k.isSome ==m)&&plr c&&!decide (0<c.fN)&&r.rw m
 | m,.node k c kids r=>(k.isSome ==m)&&plr c&&decide (0<c.fN)&&decide (c.fN=kids.cnt)&&kids.rw (decide (c.fKind=6))&&r.rw m
theorem Ua {m:Bool} {last k:Option Ag} {r:List Aa} (h:(k.isSome ==m)=true):IO m last (By k++r)=bif B1 m last k then some (k,r) else none:=by
 cases hk:B1 m last k with
 | true=>exact QB hk
 | false=>
  cases k with
  | none=>
   have hm:m=false:=by cases m<;>simp_all
   subst hm
   cases hk
  | some s=>
   have hm:m=true:=by cases m<;>simp_all
   subst hm
   show(bif pl ⟨4,0,s,0⟩&&decide ((4:Int)=4)&&B1 true last (some s) then _ else none)=_
   rw[hk,AcV];rfl
theorem NM:∀(f:Fo) (m:Bool) (last:Option Ag) (ys:List Aa),f.rw m=true→N2 m last f.cnt (f.flat++ys)=bif f.wf m last then some (f,ys) else none
 | .nil,_,_,_,_=>rfl
 | .cell k c r,m,last,ys,hw=>by
  simp only[Fo.rw,AcH,AcS] at hw
  obtain⟨⟨⟨w1,w2⟩,w3⟩,w4⟩:=hw
  simp only[Fo.cnt,Fo.flat,Adb,List.cons_append]
  rw[Gp,Ua w1]
  simp only[Fo.wf,w3,AcW,AcR]
  cases B1 m last k with
  | false=>rfl
  | true=>
   simp only[AcJ,GI,w3,AcF,AcN]
   cases hp:pl c with
   | false=>rfl
   | true=>
    simp only[AcO,AcF,NM r m k ys w4,AcN]
    cases r.wf m k<;>rfl
 | .node k c kids r,m,last,ys,hw=>by
  simp only[Fo.rw,AcH,AcC] at hw
  obtain⟨⟨⟨⟨⟨w1,w2⟩,w3⟩,w5⟩,w6⟩,w4⟩:=hw
  simp only[Fo.cnt,Fo.flat,Adb,List.cons_append]
  rw[Gp,Ua w1]
  have e:c.fN.toNat=kids.cnt:=by omega
  have w5':decide (c.fN=kids.cnt)=true:=AcI w5
  simp only[Fo.wf,AcI w3,w5',AcR]
  cases B1 m last k with
  | false=>rfl
  | true=>
   simp only[AcJ,GI,AcI w3,AcN]
   cases hp:pl c with
   | false=>rfl
   | true=>
    simp only[AcO,AcF,e,NM kids _ none (r.flat++ys) w6,AcN]
    cases kids.wf (decide (c.fKind=6)) none with
    | false=>rfl
    | true=>
     simp only[AcJ,NM r m k ys w4,AcN]
     cases r.wf m k<;>rfl
theorem Xf {f:Fo} (h:f.one=true) (m:Bool) (last key:Option Ag) (r:Fo):(f.put key r).wf m last=(B1 m last key&&f.wf false none&&r.wf m key):=by
 cases f with
 | nil=>cases h
 | cell k c r'=>
  cases k with
  | some _=>cases h
  | none=>cases r' with
   | nil=>simp[Fo.put,Fo.wf,B1,Bool.and_assoc]
   | cell _ _ _=>cases h
   | node _ _ _ _=>cases h
 | node k c kids r'=>
  cases k with
  | some _=>cases h
  | none=>cases r' with
   | nil=>simp[Fo.put,Fo.wf,B1,Bool.and_assoc]
   | cell _ _ _=>cases h
   | node _ _ _ _=>cases h
theorem Xg {f:Fo} (h:f.one=true) (m:Bool) (key:Option Ag) (r:Fo):(f.put key r).rw m=((key.isSome ==m)&&f.rw false&&r.rw m):=by
 cases f with
 | nil=>cases h
 | cell k c r'=>
  cases k with
  | some _=>cases h
  | none=>cases r' with
   | nil=>simp[Fo.put,Fo.rw,Bool.and_assoc]
   | cell _ _ _=>cases h
   | node _ _ _ _=>cases h
 | node k c kids r'=>
  cases k with
  | some _=>cases h
  | none=>cases r' with
   | nil=>simp[Fo.put,Fo.rw,Bool.and_assoc]
   | cell _ _ _=>cases h
   | node _ _ _ _=>cases h
theorem Ul (m:Bool) (g:Fo):(nd m g).wf false none=g.wf m none∧(nd m g).rw false=g.rw m:=by
 unfold nd
 cases hd:decide (g.cnt=0) with
 | true=>
  simp only[AcC] at hd
  rw[Ip hd]
  cases m<;>exact⟨rfl,rfl⟩
 | false=>
  simp only[AcD] at hd
  have h1:decide ((0:Int)<(g.cnt:Int))=true:=AcI (by omega)
  have h2:decide ((0:Int)≤(g.cnt:Int))=true:=AcI (by omega)
  cases m<;>simp[Fo.wf,Fo.rw,B1,pl,plr]<;>omega
theorem VB {m:Bool} {last k:Option Ag} {s u:Ag} {b:Bool} (h:DD b m last s=some (k,u)):(k.isSome ==m)=true:=by
 unfold DD at h
 cases m with
 | false=>cases h;rfl
 | true=>
  simp only[AcJ] at h
  cases s with
  | nil=>cases h
  | cons c r=>
   simp only at h
   cases h1:decide (c=34) with
   | false=>rw[h1] at h;cases h
   | true=>
    rw[h1] at h
    simp only[AcJ] at h
    cases h2:C6 b r with
    | none=>rw[h2] at h;cases h
    | some q=>
     obtain⟨t,w⟩:=q
     rw[h2] at h
     simp only at h
     cases h3:(b&&!B1 true last (some t)) with
     | true=>rw[h3] at h;cases h
     | false=>
      rw[h3] at h
      simp only[AcF] at h
      cases w with
      | nil=>cases h
      | cons d w'=>
       simp only at h
       cases h4:decide (d=58) with
       | false=>rw[h4] at h;cases h
       | true=>rw[h4] at h;cases h;rfl
theorem NP:∀F:Nat,(∀s,Gb true F s=(match Gb false F s with
   | none=>none
   | some (f,u)=>bif f.wf false none then some (f,u) else none)∧∀f u,Gb false F s=some (f,u)→f.rw false=true)∧
  (∀m last last' s,Dp true F m last s=(match Dp false F m last' s with
   | none=>none
   | some (g,u)=>bif g.wf m last then some (g,u) else none)∧∀g u,Dp false F m last' s=some (g,u)→g.rw m=true)
 | 0=>⟨λs=>⟨by rw[Gb.eq_def,Gb.eq_def],(λf u h=>by rw[Gb.eq_def] at h;cases h)⟩,λm last last' s=>⟨by rw[Dp.eq_def,Dp.eq_def],(λg u h=>by rw[Dp.eq_def] at h;cases h)⟩⟩
 | F+1=>by
  obtain⟨ih1,ih2⟩:=NP F
  have lfw:∀k i t,pl ⟨k,i,t,0⟩=true→(lf k i t).wf false none=true:=λk i t h=>by simp[lf,Fo.wf,B1,h]
  have lfr:∀k i t,plr ⟨k,i,t,0⟩=true→(lf k i t).rw false=true:=λk i t h=>by simp[lf,Fo.rw,h]
  constructor
  ·intro s
   rw[D5,D5]
   cases h1:pre [110,117,108,108] s with
   | some r=>exact⟨rfl,λf u h=>by cases h;rfl⟩
   | none=>
   simp only
   cases h2:pre [116,114,117,101] s with
   | some r=>exact⟨rfl,λf u h=>by cases h;rfl⟩
   | none=>
   simp only
   cases h3:pre [102,97,108,115,101] s with
   | some r=>exact⟨rfl,λf u h=>by cases h;rfl⟩
   | none=>
   simp only
   cases s with
   | nil=>exact⟨rfl,λf u h=>by cases h⟩
   | cons c r=>
   simp only
   cases h4:decide (c=34) with
   | true=>
    simp only[AcJ]
    rw[R6 _ r rfl]
    cases hq:C6 false r with
    | none=>exact⟨rfl,λf u h=>by cases h⟩
    | some q=>
     obtain⟨t,u⟩:=q
     simp only
     have e:(lf 4 0 t).wf false none=t.all Ku:=by simp[lf,Fo.wf,B1,pl]
     rw[e]
     refine⟨by cases t.all Ku<;>rfl,λf u' h=>by cases h;exact lfr 4 0 t rfl⟩
   | false=>
   simp only[AcF]
   cases h5:(decide (c=91)||decide (c=123)) with
   | false=>
    simp only[AcF]
    cases hi:Hz (c::r) with
    | none=>exact⟨rfl,λf u h=>by cases h⟩
    | some q=>
     obtain⟨f,u⟩:=q
     have hf:f.wf false none=true∧f.rw false=true:=by
      unfold Hz at hi
      simp only at hi
      cases hc:DN (decide ((c::r).head? =some 45)) (BL (bif decide ((c::r).head? =some 45) then(c::r).tail else c::r)).1 with
      | false=>rw[hc] at hi;cases hi
      | true=>rw[hc] at hi;cases hi;exact⟨rfl,rfl⟩
     refine⟨by simp only[hf.1];rfl,λf' u' h=>by cases h;exact hf.2⟩
   | true=>
   simp only[AcJ]
   cases r with
   | nil=>exact⟨rfl,λf u h=>by cases h⟩
   | cons d r'=>
   simp only
   cases h6:decide (d=Be (decide (c=123))) with
   | true=>
    simp only[AcJ,(Ul _ _).1,Fo.wf]
    exact⟨trivial,λf u h=>by cases h;rw[(Ul _ _).2];rfl⟩
   | false=>
   simp only[AcF]
   obtain⟨e1,e2⟩:=ih2 (decide (c=123)) none none (d::r')
   rw[e1]
   cases hq:Dp false F (decide (c=123)) none (d::r') with
   | none=>exact⟨rfl,λf u h=>by cases h⟩
   | some q=>
    obtain⟨g,u⟩:=q
    simp only[(Ul _ _).1]
    refine⟨by cases g.wf (decide (c=123)) none<;>rfl,λf u' h=>by cases h;rw[(Ul _ _).2];exact e2 g u hq⟩
  ·intro m last last' s
   rw[Dl,Dl,XQ m last s]
   have hkl:DD false m last' s=DD false m none s:=by
    cases m with
    | false=>rfl
    | true=>unfold DD;simp only[AcT]
   rw[hkl]
   cases hk:DD false m none s with
   | none=>exact⟨rfl,λf u h=>by cases h⟩
   | some q=>
   obtain⟨key,s1⟩:=q
   have hks:=VB hk
   simp only
   obtain⟨e1,e2⟩:=ih1 s1
   cases hf:Gb false F s1 with
   | none=>
    rw[hf] at e1
    refine⟨?_,λf u h=>by cases h⟩
    cases B1 m last key with
    | false=>rfl
    | true=>simp only[AcJ,e1]
   | some q=>
   obtain⟨f,s2⟩:=q
   have ho:=((DW false F).1 _ _ _ hf).2
   have hfr:=e2 f s2 hf
   rw[hf] at e1
   simp only at e1
   simp only
   cases s2 with
   | nil=>
    refine⟨?_,λf u h=>by cases h⟩
    cases B1 m last key with
    | false=>rfl
    | true=>simp only[AcJ,e1];cases f.wf false none<;>rfl
   | cons c s3=>
   simp only
   cases h3:decide (c=Be m) with
   | true=>
    simp only[AcJ,Xf ho,Fo.wf,AcR]
    refine⟨?_,λg u h=>by cases h;rw[Xg ho,hks,hfr];rfl⟩
    cases B1 m last key with
    | false=>rfl
    | true=>simp only[AcJ,e1,AcN];cases f.wf false none<;>simp[h3]
   | false=>
   simp only[AcF]
   cases h4:decide (c=44) with
   | false=>
    refine⟨?_,λg u h=>by cases h⟩
    cases B1 m last key with
    | false=>rfl
    | true=>simp only[AcJ,e1];cases f.wf false none<;>simp[h3,h4]
   | true=>
   simp only[AcJ]
   obtain⟨e3,e4⟩:=ih2 m key key s3
   cases hq:Dp false F m key s3 with
   | none=>
    rw[hq] at e3
    refine⟨?_,λg u h=>by cases h⟩
    cases B1 m last key with
    | false=>rfl
    | true=>simp only[AcJ,e1];cases f.wf false none<;>simp[h3,h4,e3]
   | some q=>
    obtain⟨g,u⟩:=q
    rw[hq] at e3
    simp only at e3
    simp only[Xf ho]
    refine⟨?_,λg' u' h=>by cases h;rw[Xg ho,hks,hfr,e4 g u hq];rfl⟩
    cases B1 m last key with
    | false=>rfl
    | true=>
     simp only[AcJ,e1,AcN]
     cases f.wf false none with
     | false=>rfl
     | true=>
      simp only[AcJ,h3,h4,AcF,e3,AcN]
      cases g.wf m key<;>rfl
def JY (K:Nat) (c:Aa):Prop:=c.fStr.length≤K∧Bl .i64 c.fInt=true∧c.fN≤(K:Int)
theorem JY.mono {K K':Nat} {c:Aa} (h:JY K c) (hk:K≤K'):JY K' c:=⟨by have:=h.1;omega,h.2.1,by have:=h.2.2;omega⟩
theorem P8 (b:Bool):∀(n:Nat) (s t u:Ag),s.length=n→C6 b s=some (t,u)→t.length≤s.length:=by
 intro n
 induction n using Nat.strongRecOn with
 | ind n ih=>
  intro s t u hn h
  cases s with
  | nil=>cases h
  | cons c r=>
   simp only[AcE] at hn ⊢
   rw[D0] at h
   cases h1:decide (c=34) with
   | true=>rw[h1] at h;cases h;simp
   | false=>
    rw[h1] at h
    simp only[AcF] at h
    cases h2:(b&&!Ku c) with
    | true=>rw[h2] at h;cases h
    | false=>
     rw[h2] at h
     simp only[AcF] at h
     cases h3:decide (c=92) with
     | true=>
      rw[h3] at h
      cases r with
      | nil=>cases h
      | cons d r'=>
       simp only[AcJ] at h
       cases h4:(decide (d=34)||decide (d=92)) with
       | false=>rw[h4] at h;cases h
       | true=>
        rw[h4] at h
        simp only[AcJ] at h
        cases h5:C6 b r' with
        | none=>rw[h5] at h;cases h
        | some q=>
         obtain⟨t',u'⟩:=q
         rw[h5] at h;cases h
         simp only[AcE] at hn ⊢
         have:=ih r'.length (by omega) r' t' u rfl h5
         omega
     | false=>
      rw[h3] at h
      simp only[AcF] at h
      cases h5:C6 b r with
      | none=>rw[h5] at h;cases h
      | some q=>
       obtain⟨t',u'⟩:=q
       rw[h5] at h;cases h
       have:=ih r.length (by omega) r t' u rfl h5
       simp only[AcE];omega
theorem VA {b m:Bool} {last:Option Ag} {s u:Ag} {t:Ag} (h:DD b m last s=some (some t,u)):t.length≤s.length:=by
 unfold DD at h
 cases m with
 | false=>cases h
 | true=>
  simp only[AcJ] at h
  cases s with
  | nil=>cases h
  | cons c r=>
   simp only at h
   cases h1:decide (c=34) with
   | false=>rw[h1] at h;cases h
   | true=>
    rw[h1] at h
    simp only[AcJ] at h
    cases h2:C6 b r with
    | none=>rw[h2] at h;cases h
    | some q=>
     obtain⟨k,w⟩:=q
     have:=P8 b _ r k w rfl h2
     rw[h2] at h
     simp only at h
     cases h3:(b&&!B1 true last (some k)) with
     | true=>rw[h3] at h;cases h
     | false=>
      rw[h3] at h
      simp only[AcF] at h
      cases w with
      | nil=>cases h
      | cons d w'=>
       simp only at h
       cases h4:decide (d=58) with
       | false=>rw[h4] at h;cases h
       | true=>rw[h4] at h;cases h;simp only[AcE];omega
theorem XX (neg:Bool) {d:Ag} (hd:d.all BU=true):Bl .i64 (J7 neg d)=true:=by
 unfold J7
 cases ha:decide (18<d.length) with
 | true=>
  cases neg with
  | true=>exact(by decide:Bl .i64 (-2000000000000)=true)
  | false=>exact(by decide:Bl .i64 2000000000000=true)
 | false=>
  simp only[AcD] at ha
  have hb:=QI hd (by omega)
  cases neg with
  | true=>exact EP (by simp only[AcF,AcJ];omega) (by simp only[AcF,AcJ];omega)
  | false=>exact EP (by simp only[AcF];omega) (by simp only[AcF];omega)
theorem X9 {m:Bool} {g:Fo} {K:Nat} (hg:∀c∈g.flat,JY K c) (hl:g.flat.length≤K):∀c∈(nd m g).flat,JY K c:=λc hc=>by
 rw[Jo _ _ Ip] at hc
 have hcf:=Cp g
 rcases List.mem_cons.1 hc with rfl | hc
 ·exact⟨Adn _,(by decide:Bl .i64 0=true),by show(g.cnt:Int)≤K;omega⟩
 ·exact hg c hc
theorem TX {f r:Fo} {K:Nat} {key:Option Ag} (ho:f.one=true) (hf:∀c∈f.flat,JY K c) (hr:∀c∈r.flat,JY K c) (hk:∀t,key=some t→t.length≤K):∀c∈(f.put key r).flat,JY K c:=λc hc=>by
 rw[Ev ho] at hc
 rcases List.mem_append.1 hc with h | h
 ·cases key with
  | none=>cases h
  | some t=>
   have:c=⟨4,0,t,0⟩:=by simpa[By] using h
   subst this
   exact⟨hk t rfl,(by decide:Bl .i64 0=true),by show(0:Int)≤K;omega⟩
 ·rcases List.mem_append.1 h with h | h
  ·exact hf c h
  ·exact hr c h
theorem Kt (b:Bool) (K:Nat):∀F:Nat,(∀s f u,s.length≤K→Gb b F s=some (f,u)→∀c∈f.flat,JY K c)∧(∀m last s g u,s.length≤K→Dp b F m last s=some (g,u)→∀c∈g.flat,JY K c)
 | 0=>⟨(λs f u _ h=>by rw[Gb.eq_def] at h;cases h),(λm last s g u _ h=>by rw[Dp.eq_def] at h;cases h)⟩
 | F+1=>by
  obtain⟨ih1,ih2⟩:=Kt b K F
  have lfc:∀k i t,t.length≤K→Bl .i64 i=true→∀c∈(lf k i t).flat,JY K c:=λk i t ht hi c hc=>by
   have:c=⟨k,i,t,0⟩:=by simpa[lf,Fo.flat,By] using hc
   subst this
   exact⟨ht,hi,by show(0:Int)≤K;omega⟩
  constructor
  ·intro s f u hs h
   rw[D5] at h
   cases h1:pre [110,117,108,108] s with
   | some r=>rw[h1] at h;cases h;exact lfc _ _ _ (Adn _) (by decide)
   | none=>
   rw[h1] at h;simp only at h
   cases h2:pre [116,114,117,101] s with
   | some r=>rw[h2] at h;cases h;exact lfc _ _ _ (Adn _) (by decide)
   | none=>
   rw[h2] at h;simp only at h
   cases h3:pre [102,97,108,115,101] s with
   | some r=>rw[h3] at h;cases h;exact lfc _ _ _ (Adn _) (by decide)
   | none=>
   rw[h3] at h;simp only at h
   cases s with
   | nil=>cases h
   | cons c r=>
   simp only[AcE] at hs
   simp only at h
   cases h4:decide (c=34) with
   | true=>
    rw[h4] at h;simp only[AcJ] at h
    cases h5:C6 b r with
    | none=>rw[h5] at h;cases h
    | some q=>
     obtain⟨t,w⟩:=q
     rw[h5] at h;cases h
     have:=P8 b _ r t u rfl h5
     exact lfc _ _ _ (by omega) (by decide)
   | false=>
   rw[h4] at h;simp only[AcF] at h
   cases h5:(decide (c=91)||decide (c=123)) with
   | false=>
    rw[h5] at h;simp only[AcF] at h
    unfold Hz at h
    simp only at h
    cases hc:DN (decide ((c::r).head? =some 45)) (BL (bif decide ((c::r).head? =some 45) then(c::r).tail else c::r)).1 with
    | false=>rw[hc] at h;cases h
    | true=>
     rw[hc] at h;cases h
     exact lfc 3 _ [] (Adn _) (XX _ (IY _))
   | true=>
   rw[h5] at h;simp only[AcJ] at h
   cases r with
   | nil=>cases h
   | cons d r'=>
   simp only at h
   cases h6:decide (d=Be (decide (c=123))) with
   | true=>rw[h6] at h;cases h;exact X9 (λc hc=>by cases hc) (Adn _)
   | false=>
   rw[h6] at h;simp only[AcF] at h
   cases h7:Dp b F (decide (c=123)) none (d::r') with
   | none=>rw[h7] at h;cases h
   | some q=>
    obtain⟨g,w⟩:=q
    rw[h7] at h;cases h
    have:=(Ew b F).2 _ _ _ _ _ h7
    exact X9 (ih2 _ _ _ _ _ (by omega) h7) (by omega)
  ·intro m last s g u hs h
   rw[Dl] at h
   cases h1:DD b m last s with
   | none=>rw[h1] at h;cases h
   | some q=>
   obtain⟨key,s1⟩:=q
   have l1:=Sr h1
   have hkt:∀t,key=some t→t.length≤K:=λt e=>by subst e;have:=VA h1;omega
   rw[h1] at h;simp only at h
   cases h2:Gb b F s1 with
   | none=>rw[h2] at h;cases h
   | some q=>
   obtain⟨f,s2⟩:=q
   obtain⟨l2,o2⟩:=(DW b F).1 _ _ _ h2
   have hf:=ih1 _ _ _ (by omega) h2
   rw[h2] at h;simp only at h
   cases s2 with
   | nil=>cases h
   | cons c s3=>
   simp only[AcE] at l2
   simp only at h
   cases h3:decide (c=Be m) with
   | true=>rw[h3] at h;cases h;exact TX o2 hf (λc hc=>by cases hc) hkt
   | false=>
   rw[h3] at h;simp only[AcF] at h
   cases h4:decide (c=44) with
   | false=>rw[h4] at h;cases h
   | true=>
   rw[h4] at h;simp only[AcJ] at h
   cases h5:Dp b F m key s3 with
   | none=>rw[h5] at h;cases h
   | some q=>
    obtain⟨g',w⟩:=q
    rw[h5] at h;cases h
    exact TX o2 hf (ih2 _ _ _ _ _ (by omega) h5) hkt
theorem Yr:∀l:List Aa,l.any Ca=false→l.map CV=l
 | [],_=>rfl
 | c::l,h=>by
  simp only[List.any_cons,AcZ] at h
  simp only[Adt,Yr l h.2,CV,h.1,AcF]
def Lq (s:Ag):Option (List Aa×Int):=
 bif decide (4000<s.length) then some ([],3) else match Gb true 10000 s with
  | some (f,[])=>some (bif decide (Gd f=0) then(f.flat,0) else([],Gd f))
  | _=>some ([],1)
theorem Pu (s:Ag):Aw.mk s 0 [] false=DK s s [] false:=by simp[DK]
theorem Yx {f:Fo} (h:f.flat.any Ca=true):Gd f=2:=by unfold Gd;rw[h];rfl
theorem R3 {F:Nat} (hF:20000≤F) {s:Ag}:L3 F s=Lq s:=by
 unfold L3 Lq
 have a1:decide ((4000:Int)<(s.length:Int))=decide (4000<s.length):=by rw[Bool.eq_iff_iff];simp;omega
 rw[a1]
 cases h4:decide (4000<s.length) with
 | true=>rfl
 | false=>
  simp only[AcD] at h4
  rw[Ay rfl,Pu]
  simp only[AcF]
  rcases SY (S:=s) (by omega) (F:=F) (P:=10000) (by omega) (by omega) with⟨f,w,q1,q2,q3⟩ | ⟨q1,q',q2⟩
  ·rw[q3,q1,AG rfl,Ay (p:=!true) rfl]
   obtain⟨_,hone⟩:=(DW true 10000).1 _ _ _ q1
   have hwl:=q2.len
   have hcells:=(Kt true 4000 10000).1 _ _ _ (by omega) q1
   have hfl:=(Ew true 10000).1 _ _ _ q1
   unfold GG
   have hat:(true,DK s w ([]++f.flat.map CV) (false||f.flat.any Ca)).2.fAt=(s.length:Int)-w.length:=rfl
   rw[hat]
   cases w with
   | cons c w'=>
    have hd:decide ((s.length:Int)-(c::w').length=(s.length:Int))=false:=AcG (by simp only[AcE];omega)
    rw[hd];rfl
   | nil=>
    have hd:decide ((s.length:Int)-([]:Ag).length=(s.length:Int))=true:=AcI (by simp)
    rw[hd,Ay (p:=!true) rfl]
    change _=some (bif decide (Gd f=0) then(f.flat,0) else([],Gd f))
    have hgr:(true,DK s [] ([]++f.flat.map CV) (false||f.flat.any Ca)).2.fGreat=f.flat.any Ca:=rfl
    have hce:(true,DK s [] ([]++f.flat.map CV) (false||f.flat.any Ca)).2.fCells=f.flat.map CV:=rfl
    rw[hgr,hce]
    cases ho:f.flat.any Ca with
    | true=>rw[Yx ho];rfl
    | false=>
     rw[Ay rfl,Yr _ ho]
     have hA:I7 4000 f.flat:=⟨by decide,by omega,λc hc=>by obtain⟨c1,c2,c3⟩:=hcells c hc;exact⟨c1,c2,by omega⟩⟩
     have hwf:f.wf false none=true:=by
      have:=((NP 10000).1 s).1
      rw[q1] at this
      cases hp:Gb false 10000 s with
      | none=>rw[hp] at this;cases this
      | some q=>
       obtain⟨f',u'⟩:=q
       rw[hp] at this
       simp only at this
       cases hw:f'.wf false none with
       | false=>rw[hw] at this;cases this
       | true=>rw[hw] at this;cases this;exact hw
     have hev:HX f.flat=Gd f:=by unfold HX;rw[Lw hone hwf]
     unfold L5
     rw[M0 hA (by decide) (by omega),AG rfl,hev]
     cases decide (Gd f=0)<;>rfl
  ·rw[q2,q1];rfl
theorem RM {F:Nat} (hF:20000≤F) {s:Ag}:LD F s=Lq s:=by
 unfold LD Lq
 have a1:decide ((4000:Int)<(s.length:Int))=decide (4000<s.length):=by rw[Bool.eq_iff_iff];simp;omega
 rw[a1]
 cases h4:decide (4000<s.length) with
 | true=>rfl
 | false=>
  simp only[AcD] at h4
  rw[Ay rfl]
  simp only[AcF]
  obtain⟨e1,e2⟩:=(NP 10000).1 s
  have hr:=WV (S:=s) (by omega) (F:=F) (P:=10000) (by omega) (by omega)
  unfold ROk at hr
  rw[Int.sub_self] at hr
  rcases hr with⟨f,w,q1,q2,q3⟩ | ⟨q1,v,q2⟩
  ·rw[q1] at e1
   simp only at e1
   obtain⟨_,hone⟩:=(DW false 10000).1 _ _ _ q1
   have hwl:=q2.len
   have hcells:=(Kt false 4000 10000).1 _ _ _ (by omega) q1
   have hfl:=(Ew false 10000).1 _ _ _ q1
   rw[q3,AG rfl,e1]
   cases w with
   | cons c w'=>
    have hd:decide ((s.length:Int)-(c::w').length=(s.length:Int))=false:=AcG (by simp only[AcE];omega)
    simp only
    rw[hd]
    cases f.wf false none<;>rfl
   | nil=>
    have hd:decide ((s.length:Int)-([]:Ag).length=(s.length:Int))=true:=AcI (by simp)
    simp only
    rw[hd,Ay (p:=!true) rfl]
    have hA:I7 4000 f.flat:=⟨by decide,by omega,λc hc=>by obtain⟨c1,c2,c3⟩:=hcells c hc;exact⟨c1,c2,by omega⟩⟩
    unfold LE
    rw[M8 hA (by decide) (by omega),AG rfl]
    cases hwf:f.wf false none with
    | true=>
     have hev:HX f.flat=Gd f:=by unfold HX;rw[Lw hone hwf]
     rw[hev]
     simp only[AcJ]
     cases decide (Gd f=0)<;>rfl
    | false=>
     have hwh:whole f.flat=none:=by
      have h1:=NM f false none [] (e2 f [] q1)
      rw[hwf,LR hone,Adg] at h1
      have h2:Iz f.flat=none:=h1
      unfold whole
      rw[h2]
     have hev:HX f.flat=1:=by unfold HX;rw[hwh]
     rw[hev];rfl
  ·rw[q1] at e1
   simp only at e1
   rw[q2,AG rfl,e1]
   simp only
   rw[AA (p:=!decide ((-1:Int)=(s.length:Int))) (by rw[AcG (by omega)];rfl)]
theorem Kv {x:Nat} (h:x<10):(UInt8.ofNat (48+x)).toNat=48+x:=by simp;omega
theorem Qd {x:Nat} (h:x<10):BU (UInt8.ofNat (48+x))=true:=by
 unfold BU;rw[Kv h];simp;omega
theorem PR (d:Ag) (c:UInt8) (a:Nat):CF a (d++[c])=10*CF a d+(c.toNat-48):=by simp[CF]
theorem QV {u:Nat} (h:u<10):Lib.decDigits u=[UInt8.ofNat (48+u)]:=by rw[Lib.decDigits,dif_pos h]
theorem Y5 {u:Nat} (h : ¬ u<10):Lib.decDigits u=Lib.decDigits (u/10)++[UInt8.ofNat (48+u % 10)]:=by
 rw[Lib.decDigits,dif_neg h]
theorem Qp:∀u:Nat,(Lib.decDigits u).all BU=true∧Lib.decDigits u≠[]∧CF 0 (Lib.decDigits u)=u∧((Lib.decDigits u).head? =some 48→u=0):=by
 intro u
 induction u using Nat.strongRecOn with
 | ind u ih=>
  by_cases h:u<10
  ·rw[QV h]
   refine⟨by simp only[Adm,List.all_nil,Qd h,Bool.and_self],by simp,?_,?_⟩
   ·show 10*0+((UInt8.ofNat (48+u)).toNat-48)=u
    rw[Kv h];omega
   ·intro e
    simp only[List.head?_cons,Option.some.injEq] at e
    have:=congrArg UInt8.toNat e
    rw[Kv h] at this
    have ha:(48:UInt8).toNat=48:=rfl
    omega
  ·obtain⟨a,b,c,d⟩:=ih (u/10) (by omega)
   rw[Y5 h]
   refine⟨by simp only[List.all_append,a,Adm,List.all_nil,Qd (show u % 10<10 by omega),Bool.and_self],by simp,?_,?_⟩
   ·rw[PR,c,Kv (by omega)];omega
   ·intro e
    cases hd:Lib.decDigits (u/10) with
    | nil=>exact absurd hd b
    | cons x r=>
     rw[hd] at e
     have:=d (by rw[hd];simpa using e)
     omega
theorem Pe:∀(n:Nat) (d:Ag),d.length=n→d.all BU=true→d≠[]→(d.head? =some 48→d.length=1)→Lib.decDigits (CF 0 d)=d:=by
 intro n
 induction n with
 | zero=>intro d hn _ hne;exact absurd (List.eq_nil_of_length_eq_zero hn) hne
 | succ n ih=>
  intro d hn ha hne hh
  obtain⟨d',c,rfl⟩:∃d' c,d=d'++[c]:=⟨d.dropLast,d.getLast hne,(List.dropLast_concat_getLast hne).symm⟩
  rw[List.all_append] at ha
  simp only[Adm,List.all_nil,AcR,AcH] at ha
  have hc:48≤c.toNat∧c.toNat≤57:=by have:=ha.2;simp[BU] at this;omega
  have ec:UInt8.ofNat (48+(c.toNat-48))=c:=by rw[show 48+(c.toNat-48)=c.toNat from by omega];simp
  rw[PR]
  cases hd:d' with
  | nil=>
   show Lib.decDigits (10*0+(c.toNat-48))=[c]
   rw[QV (by omega),show 48+(10*0+(c.toNat-48))=48+(c.toNat-48) from by omega,ec]
  | cons x r=>
   rw[← hd]
   have hne':d'≠[]:=by rw[hd];simp
   have h1:d'.head?≠some 48:=λe=>by
    have:=hh (by rw[hd] at e ⊢;simpa using e)
    rw[hd] at this;simp at this
   have ih':=ih d' (by simp at hn;omega) ha.1 hne' (λe=>absurd e h1)
   have hpos:1≤CF 0 d':=by
    rw[hd]
    show 1≤CF (10*0+(x.toNat-48)) r
    have hx:48≤x.toNat∧x.toNat≤57:=by have:=ha.1;rw[hd] at this;simp[BU] at this;omega
    have hx2:x.toNat≠48:=λe=>h1 (by rw[hd];simp;rw[← UInt8.toNat_inj];exact e)
    exact Nat.le_trans (by omega) (IQ r _)
   rw[Y5 (by omega),show(10*CF 0 d'+(c.toNat-48))/10=CF 0 d' from by omega,show(10*CF 0 d'+(c.toNat-48)) % 10=c.toNat-48 from by omega,ih',ec]
theorem Pd:∀(d w:Ag),d.all BU=true→(∀c r,w=c::r→BU c=false)→BL (d++w)=(d,w)
 | [],w,_,hw=>by
  cases w with
  | nil=>rfl
  | cons c r=>simp[BL,hw c r rfl]
 | c::d,w,ha,hw=>by
  simp only[Adm,AcH] at ha
  simp[BL,ha.1,Pd d w ha.2 hw]
theorem VI {n:Int} {w:Ag} (h0 : -1000000000000≤n) (h1:n≤1000000000000) (hw:∀c r,w=c::r→BU c=false):Hz (Lib.itoa n++w)=some (.cell none ⟨3,n,[],0⟩ .nil,w):=by
 have key:∀(u:Nat) (neg:Bool),u≤1000000000000→(neg=true→1≤u)→Hz (Hn neg (Lib.decDigits u)++w)=some (.cell none ⟨3,bif neg then -(u:Int) else u,[],0⟩ .nil,w):=λu neg hu hneg=>by
  obtain⟨a,b,c,d⟩:=Qp u
  have hl:(Lib.decDigits u).length≤18:=by
   cases hdd:Lib.decDigits u with
   | nil=>simp
   | cons x r=>
    by_cases ha:(x::r).length≤18
    ·exact ha
    ·exfalso
     have hx:48≤x.toNat∧x.toNat≤57:=by rw[hdd] at a;simp[BU] at a;omega
     have hr:18≤r.length:=by simp only[AcE] at ha;omega
     by_cases hb:x=48
     ·have:=d (by rw[hdd,hb];rfl)
      subst this
      have e0:Lib.decDigits 0=[UInt8.ofNat 48]:=QV (by omega)
      rw[e0] at hdd;cases hdd;simp at hr
     ·have hx2:x.toNat≠48:=λe=>hb (by rw[← UInt8.toNat_inj];exact e)
      rw[hdd] at c
      have c':CF (10*0+(x.toNat-48)) r=u:=c
      have:=Si r (10*0+(x.toNat-48)) (by omega)
      have h2:10 ^ 18≤10 ^ r.length:=Nat.pow_le_pow_right (by omega) hr
      omega
  have hhead:∀(x:UInt8) (r:Ag),Lib.decDigits u=x::r→x≠45:=λx r e=>by
   rw[e] at a
   intro e2;subst e2;simp[BU] at a
  have hcan:DN neg (Lib.decDigits u)=true:=by
   unfold DN
   have e1:decide (Lib.decDigits u=[])=false:=AcG b
   rw[e1]
   by_cases hh:(Lib.decDigits u).head? =some 48
   ·have hu0:=d hh
    subst hu0
    have:neg=false:=by cases neg with
     | false=>rfl
     | true=>have:=hneg rfl;omega
    subst this
    rw[QV (by omega)];rfl
   ·rw[AcG hh];rfl
  have hv:J7 neg (Lib.decDigits u)=bif neg then -(u:Int) else u:=by
   have hn:Hx (Lib.decDigits u)=(u:Int):=by
    have:=IP (Lib.decDigits u) 0 a
    rw[c] at this;exact this
   unfold J7
   rw[AcG (by omega),hn];rfl
  unfold Hz Hn
  cases neg with
  | true=>
   have e1:decide ((45::(Lib.decDigits u++w)).head? =some 45)=true:=rfl
   simp only[AcJ,List.cons_append,e1,List.tail_cons,Pd _ _ a hw,hcan,hv]
  | false=>
   have e1:decide ((((bif false then 45::Lib.decDigits u else Lib.decDigits u)++w).head?)=some 45)=false:=by
    cases hdd:Lib.decDigits u with
    | nil=>exact absurd hdd b
    | cons x r=>simp[hhead x r hdd]
   simp only[AcF] at e1
   simp only[AcF,e1,Pd _ _ a hw,hcan,hv,AcJ]
 by_cases hneg:n<0
 ·have e:Lib.itoa n=Hn true (Lib.decDigits n.natAbs):=by
   have:=Lib.itoa_neg n.natAbs (by omega)
   rw[show -(n.natAbs:Int)=n from by omega] at this
   rw[this];rfl
  have:=key n.natAbs true (by omega) (λ_=>by omega)
  rw[e,this]
  show some (Fo.cell none ⟨3,-(n.natAbs:Int),[],0⟩ .nil,w)=_
  rw[show -(n.natAbs:Int)=n from by omega]
 ·have e:Lib.itoa n=Hn false (Lib.decDigits n.natAbs):=by
   have:=Lib.itoa_nonneg n.natAbs
   rw[show(n.natAbs:Int)=n from by omega] at this
   rw[this];rfl
  have:=key n.natAbs false (by omega) (λh=>by cases h)
  rw[e,this]
  show some (Fo.cell none ⟨3,(n.natAbs:Int),[],0⟩ .nil,w)=_
  rw[show(n.natAbs:Int)=n from by omega]
theorem VJ {s u:Ag} {f:Fo} (h:Hz s=some (f,u)):∃n,f = .cell none ⟨3,n,[],0⟩ .nil∧(Ca ⟨3,n,[],0⟩=false→s=Lib.itoa n++u):=by
 unfold Hz at h
 simp only at h
 have key:∀(neg:Bool) (r:Ag),s=(bif neg then 45::r else r)→DN neg (BL r).1=true→Ca ⟨3,J7 neg (BL r).1,[],0⟩=false→s=Lib.itoa (J7 neg (BL r).1)++(BL r).2:=λneg r es hcan hout=>by
  have hd:=IY r
  have he:=Io r
  generalize(BL r).1=d at *
  generalize(BL r).2=w at *
  unfold DN at hcan
  simp only[AcH,AcS,AcD] at hcan
  obtain⟨hne,hz⟩:=hcan
  have hl:d.length≤18:=by
   by_cases ha:d.length≤18
   ·exact ha
   ·exfalso
    unfold J7 at hout
    rw[AcI (by omega)] at hout
    cases neg<;>simp[Ca] at hout
  have hn:J7 neg d=bif neg then -(CF 0 d:Int) else(CF 0 d:Int):=by
   have:=IP d 0 hd
   unfold J7
   rw[AcG (by omega)]
   show(bif neg then -(Hx d) else Hx d)=_
   rw[show Hx d=(CF 0 d:Int) from this]
  have hback:=Pe d.length d rfl hd hne (λe=>by
   cases h1:decide (1<d.length) with
   | true=>rw[AcI e,h1] at hz;simp at hz
   | false=>
    simp only[AcD] at h1
    cases d with
    | nil=>exact absurd rfl hne
    | cons x y=>simp only[AcE] at h1 ⊢;omega)
  rw[hn]
  cases neg with
  | true=>
   have hpos:1≤CF 0 d:=by
    cases d with
    | nil=>exact absurd rfl hne
    | cons x y=>
     have hx:48≤x.toNat∧x.toNat≤57:=by simp[BU] at hd;omega
     have hx2:x.toNat≠48:=λe=>by
      have:x=48:=by rw[← UInt8.toNat_inj];exact e
      rw[this] at hz;simp at hz
     show 1≤CF (10*0+(x.toNat-48)) y
     exact Nat.le_trans (by omega) (IQ y _)
   have:=Lib.itoa_neg (CF 0 d) hpos
   simp only[AcJ] at es ⊢
   rw[this,hback,es,List.cons_append,← he]
  | false=>
   have:=Lib.itoa_nonneg (CF 0 d)
   simp only[AcF] at es ⊢
   rw[this,hback,es,← he]
 cases hneg:decide (s.head? =some 45) with
 | true=>
  rw[hneg] at h
  simp only[AcJ] at h
  cases hcan:DN true (BL s.tail).1 with
  | false=>rw[hcan] at h;cases h
  | true=>
   rw[hcan] at h
   simp only[AcJ,Option.some.injEq,Prod.mk.injEq] at h
   obtain⟨rfl,rfl⟩:=h
   refine⟨_,rfl,λhout=>key true s.tail ?_ hcan hout⟩
   cases s with
   | nil=>simp at hneg
   | cons c r=>
    simp at hneg
    subst hneg;rfl
 | false=>
  rw[hneg] at h
  simp only[AcF] at h
  cases hcan:DN false (BL s).1 with
  | false=>rw[hcan] at h;cases h
  | true=>
   rw[hcan] at h
   simp only[AcJ,Option.some.injEq,Prod.mk.injEq] at h
   obtain⟨rfl,rfl⟩:=h
   exact⟨_,rfl,λhout=>key false s rfl hcan hout⟩
theorem Oq:∀(s w:Ag),s.all Ku=true→C6 true (E0 s++34::w)=some (s,w)
 | [],w,_=>by
  show C6 true (34::w)=_
  rw[D0];rfl
 | c::s,w,ha=>by
  simp only[Adm,AcH] at ha
  have ih:=Oq s w ha.2
  have e:E0 (c::s)=(bif (decide (c=34)||decide (c=92)) then[92,c] else[c])++E0 s:=by simp[E0]
  rw[e]
  cases hq:(decide (c=34)||decide (c=92)) with
  | true=>
   simp only[AcJ,List.cons_append,Adh]
   rw[D0,show decide ((92:UInt8)=34)=false from by decide,show(true&&!Ku 92)=false from by decide,show decide ((92:UInt8)=92)=true from by decide]
   simp only[AcF,AcJ,hq,ih]
  | false=>
   simp only[AcF,List.cons_append,Adh]
   simp only[AcZ] at hq
   rw[D0,hq.1,ha.1,hq.2]
   simp only[AcO,AcV,AcF,ih]
theorem PA:∀(n:Nat) (s t u:Ag),s.length=n→C6 true s=some (t,u)→s=E0 t++34::u:=by
 intro n
 induction n using Nat.strongRecOn with
 | ind n ih=>
  intro s t u hn h
  cases s with
  | nil=>cases h
  | cons c r=>
   simp only[AcE] at hn
   rw[D0] at h
   cases h1:decide (c=34) with
   | true=>
    rw[h1] at h;cases h
    rw[AcM h1];rfl
   | false=>
    rw[h1] at h
    simp only[AcF] at h
    cases h2:(true&&!Ku c) with
    | true=>rw[h2] at h;cases h
    | false=>
     rw[h2] at h
     simp only[AcF] at h
     cases h3:decide (c=92) with
     | true=>
      rw[h3] at h
      cases r with
      | nil=>cases h
      | cons d r'=>
       simp only[AcJ] at h
       cases h4:(decide (d=34)||decide (d=92)) with
       | false=>rw[h4] at h;cases h
       | true=>
        rw[h4] at h
        simp only[AcJ] at h
        cases h5:C6 true r' with
        | none=>rw[h5] at h;cases h
        | some q=>
         obtain⟨t',u'⟩:=q
         rw[h5] at h;cases h
         simp only[AcE] at hn
         have:=ih r'.length (by omega) r' t' u rfl h5
         rw[AcM h3,this]
         simp[E0,h4]
     | false=>
      rw[h3] at h
      simp only[AcF] at h
      cases h5:C6 true r with
      | none=>rw[h5] at h;cases h
      | some q=>
       obtain⟨t',u'⟩:=q
       rw[h5] at h;cases h
       have:=ih r.length (by omega) r t' u rfl h5
       rw[this]
       simp only[AcD] at h1 h3
       simp[E0,h1,h3]
theorem RU {s:Ag} (h:BA s=0):Lib.itoa (AJ s)=s:=by
 unfold BA at h
 unfold AJ
 cases hd:EQ s with
 | false=>rw[hd] at h;simp at h
 | true=>
  simp only[hd,if_true] at h ⊢
  have hdec:=hd
  simp only[EQ,AcH,AcS,AcZ,AcD] at hdec
  obtain⟨⟨hne,hz⟩,hall⟩:=hdec
  rw[MU] at hall
  cases hs:s with
  | nil=>subst hs;exact absurd (show Dz []=[] by simp[Dz,Gy]) hne
  | cons c r=>
   subst hs
   by_cases hc:c=45
   ·subst hc
    have hdg:Dz (45::r)=r:=by simp[Dz,Gy,AK]
    rw[hdg] at hne hall hz
    have he:AK r 0≠48:=by
     intro e;rw[e] at hz;simp at hz
    rw[Lib.atoiAll_minus] at h ⊢
    have hpm:Lib.parseMag r=Lib.parseUint10 0 r:=by unfold Lib.parseMag;rw[Adj hne]
    rw[hpm] at h ⊢
    have hpos:1≤CF 0 r:=by
     cases r with
     | nil=>exact absurd rfl hne
     | cons x y=>
      have hx:48≤x.toNat∧x.toNat≤57:=by simp[BU] at hall;omega
      have hx2:x.toNat≠48:=λe=>he (by show((x.toNat:Nat):Int)=48;omega)
      show 1≤CF (10*0+(x.toNat-48)) y
      exact Nat.le_trans (by omega) (IQ y _)
    rcases QD r 0 hall with e | ⟨e,_⟩
    ·rw[e] at h ⊢
     simp only[Lib.signed] at h ⊢
     by_cases hbig:9223372036854775808<CF 0 r
     ·rw[Adq hbig] at h;simp at h
     ·rw[Adj hbig] at h ⊢
      simp only at h ⊢
      cases hv:Dn (-(CF 0 r:Int)) with
      | false=>rw[hv] at h;simp at h
      | true=>
       rw[Adq rfl,Lib.itoa_neg _ hpos,Pe r.length r rfl hall hne (λha=>?_)]
       cases r with
       | nil=>exact absurd rfl hne
       | cons x y=>
        simp only[List.head?_cons,Option.some.injEq] at ha
        subst ha;exact absurd rfl he
    ·rw[e] at h
     simp[Lib.signed] at h
   ·have hb : ¬ AK (c::r) 0=45:=by
     intro e;exact hc (UInt8.toNat_inj.1 (by have:((c.toNat:Nat):Int)=45:=e;simp;omega))
    have hdg:Dz (c::r)=c::r:=by simp[Dz,Gy,hb]
    rw[hdg] at hne hall hz
    have hf:48≤c.toNat:=by simp[BU] at hall;omega
    rw[Lib.atoiAll_plain c r (by omega) (by omega)] at h ⊢
    have hpm:Lib.parseMag (c::r)=Lib.parseUint10 0 (c::r):=by unfold Lib.parseMag;rw[Adj hne]
    rw[hpm] at h ⊢
    rcases QD (c::r) 0 hall with e | ⟨e,_⟩
    ·rw[e] at h ⊢
     simp only[Lib.signless] at h ⊢
     by_cases hbig:9223372036854775808≤CF 0 (c::r)
     ·rw[Adq hbig] at h;simp at h
     ·rw[Adj hbig] at h ⊢
      simp only at h ⊢
      cases hv:Dn (CF 0 (c::r):Int) with
      | false=>rw[hv] at h;simp at h
      | true=>
       rw[Adq rfl,Lib.itoa_nonneg]
       refine Pe (c::r).length (c::r) rfl hall hne (λha=>?_)
       simp only[List.head?_cons,Option.some.injEq] at ha
       subst ha
       have:AK (48::r) 0=48:=rfl
       rw[this] at hz
       simp only[decide_true,AcN,Ado,AcC] at hz
       rw[hz];rfl
    ·rw[e] at h
     simp[Lib.signless] at h
theorem Kq {f:Fo} (h:f.one=true) (key:Option Ag) (r:Fo) (b:Bool):(f.put key r).txt b=CP b++(G9 key++(f.txt true++r.txt false)):=by
 cases f with
 | nil=>cases h
 | cell k c s=>cases k with
  | some _=>cases h
  | none=>cases s with
   | nil=>simp[Fo.put,Fo.txt,CP,G9]
   | _=>cases h
 | node k c kids s=>cases k with
  | some _=>cases h
  | none=>cases s with
   | nil=>simp[Fo.put,Fo.txt,CP,G9]
   | _=>cases h
theorem QA {f:Fo} (h:f.one=true) (key:Option Ag) (r:Fo):(f.put key r).flat.any Ca=(f.flat.any Ca||r.flat.any Ca):=by
 rw[Ev h,List.any_append,List.any_append,OI,AcQ]
theorem TC {m:Bool} {last:Option Ag} {g:Fo} (hw:g.wf m last=true):g = .nil∨∃ (k:Option Ag) (f r:Fo),g=f.put k r∧f.one=true∧f.wf false none=true∧B1 m last k=true∧r.wf m k=true:=by
 cases g with
 | nil=>exact .inl rfl
 | cell k c r=>
  simp only[Fo.wf,AcH,AcS] at hw
  obtain⟨⟨⟨w1,w2⟩,w3⟩,w4⟩:=hw
  exact .inr ⟨k,.cell none c .nil,r,rfl,rfl,ND w2 w3,w1,w4⟩
 | node k c kids r=>
  simp only[Fo.wf,AcH,AcC] at hw
  obtain⟨⟨⟨⟨⟨w1,w2⟩,w3⟩,w5⟩,w6⟩,w4⟩:=hw
  exact .inr ⟨k,.node none c kids .nil,r,rfl,rfl,NC w2 w3 w5 w6,w1,w4⟩
theorem W6 {m:Bool} {last:Option Ag} {g:Fo} (hw:g.wf m last=true) (hn:g≠.nil):g.txt false=44::g.txt true:=by
 rcases TC hw with h | ⟨k,f,r,rfl,h1,_⟩
 ·exact absurd h hn
 ·rw[Kq h1,Kq h1];rfl
theorem XR {m:Bool} {last k:Option Ag} {w:Ag} (h:B1 m last k=true):DD true m last (G9 k++w)=some (k,w):=by
 cases k with
 | none=>
  have:m=false:=by simpa[B1] using h
  subst this;rfl
 | some s=>
  have h':=h
  simp only[B1,AcH] at h
  obtain⟨⟨h1,h2⟩,h3⟩:=h
  subst h1
  have e:G9 (some s)++w=34::(E0 s++34::(58::w)):=by simp[G9,Eu]
  rw[e]
  unfold DD
  simp only[AcJ,decide_true,Oq s (58::w) h2,h',AcO,AcV,AcF]
theorem PZ {m:Bool} {last k:Option Ag} {s w:Ag} (h:DD true m last s=some (k,w)):s=G9 k++w:=by
 unfold DD at h
 cases m with
 | false=>cases h;rfl
 | true=>
  simp only[AcJ] at h
  cases s with
  | nil=>cases h
  | cons c r=>
   simp only at h
   cases h1:decide (c=34) with
   | false=>rw[h1] at h;cases h
   | true=>
    rw[h1] at h
    simp only[AcJ] at h
    cases h2:C6 true r with
    | none=>rw[h2] at h;cases h
    | some q=>
     obtain⟨t,u⟩:=q
     have:=PA _ r t u rfl h2
     rw[h2] at h
     simp only at h
     cases h3:(true&&!B1 true last (some t)) with
     | true=>rw[h3] at h;cases h
     | false=>
      rw[h3] at h
      simp only[AcF] at h
      cases u with
      | nil=>cases h
      | cons d u'=>
       simp only at h
       cases h4:decide (d=58) with
       | false=>rw[h4] at h;cases h
       | true=>
        rw[h4] at h;cases h
        rw[AcM h1,this,AcM h4]
        simp[G9,Eu]
def okH (c:UInt8):Prop:=c=110∨c=116∨c=102∨c=34∨c=91∨c=123∨c=45∨BU c=true
theorem PN {c:UInt8} (h:okH c) (m:Bool):decide (c=Be m)=false:=by
 refine AcG λe=>?_
 subst e
 cases m<;>revert h<;>unfold okH BU Be<;>decide
theorem Qc (n:Int):∃c r,Lib.itoa n=c::r∧(c=45∨BU c=true):=by
 obtain⟨a,b,_,_⟩:=Qp n.natAbs
 by_cases hneg:n<0
 ·have:=Lib.itoa_neg n.natAbs (by omega)
  rw[show -(n.natAbs:Int)=n from by omega] at this
  exact⟨45,_,this,.inl rfl⟩
 ·have:=Lib.itoa_nonneg n.natAbs
  rw[show(n.natAbs:Int)=n from by omega] at this
  cases hd:Lib.decDigits n.natAbs with
  | nil=>exact absurd hd b
  | cons x r=>
   rw[hd] at a
   simp only[Adm,AcH] at a
   exact⟨x,r,by rw[this,hd],.inr a.1⟩
theorem Tx {c:Aa}:∃x r,DL c=x::r∧okH x:=by
 unfold DL
 cases decide (c.fKind=1) with
 | true=>exact⟨_,_,rfl,.inl rfl⟩
 | false=>
 cases decide (c.fKind=2) with
 | true=>cases decide (c.fInt=1) with
  | true=>exact⟨_,_,rfl,.inr (.inl rfl)⟩
  | false=>exact⟨_,_,rfl,.inr (.inr (.inl rfl))⟩
 | false=>
 cases decide (c.fKind=3) with
 | true=>
  obtain⟨x,r,e,h⟩:=Qc c.fInt
  exact⟨x,r,e,by unfold okH;rcases h with h | h<;>simp[h]⟩
 | false=>
 cases decide (c.fKind=4) with
 | true=>exact⟨_,_,rfl,.inr (.inr (.inr (.inl rfl)))⟩
 | false=>cases decide (c.fKind=6) with
  | true=>exact⟨_,_,rfl,.inr (.inr (.inr (.inr (.inr (.inl rfl)))))⟩
  | false=>exact⟨_,_,rfl,.inr (.inr (.inr (.inr (.inl rfl))))⟩
theorem Xq {f:Fo} (h:f.one=true):∃x r,f.txt true=x::r∧okH x:=by
 cases f with
 | nil=>cases h
 | cell k c s=>cases k with
  | some _=>cases h
  | none=>cases s with
   | nil=>
    obtain⟨x,r,e,ho⟩:=Tx (c:=c)
    exact⟨x,r,by simp[Fo.txt,CP,G9,e],ho⟩
   | _=>cases h
 | node k c kids s=>cases k with
  | some _=>cases h
  | none=>cases s with
   | nil=>
    simp only[Fo.txt,CP,G9,AcJ,Adh,Adg]
    unfold Nw
    cases decide (c.fKind=6) with
    | true=>exact⟨_,_,rfl,.inr (.inr (.inr (.inr (.inr (.inl rfl)))))⟩
    | false=>exact⟨_,_,rfl,.inr (.inr (.inr (.inr (.inl rfl))))⟩
   | _=>cases h
theorem W7 {m:Bool} {last:Option Ag} {g:Fo} (hw:g.wf m last=true) (hn:g≠.nil):∃x r,g.txt true=x::r∧okH x:=by
 rcases TC hw with h | ⟨k,f,r,rfl,h1,_⟩
 ·exact absurd h hn
 ·rw[Kq h1]
  cases k with
  | none=>
   obtain⟨x,y,e,ho⟩:=Xq h1
   exact⟨x,y++r.txt false,by simp[CP,G9,e],ho⟩
  | some s=>exact⟨34,_,by simp[CP,G9,Eu];rfl,.inr (.inr (.inr (.inl rfl)))⟩
theorem Tr {a b:UInt8} {x y:Ag} (h:a≠b):pre (a::x) (b::y)=none:=by
 rw[pre,AcG h];rfl
theorem Ks {F:Nat} {c:UInt8} {r:Ag} (h1:c≠110) (h2:c≠116) (h3:c≠102):Gb true (F+1) (c::r) =
  bif decide (c=34) then(match C6 true r with
   | none=>none
   | some (t,u)=>some (lf 4 0 t,u)) else
  bif decide (c=91)||decide (c=123) then(match r with
   | []=>none
   | d::r'=>bif decide (d=Be (decide (c=123))) then some (nd (decide (c=123)) .nil,r') else(match Dp true F (decide (c=123)) none (d::r') with
    | none=>none
    | some (g,u)=>some (nd (decide (c=123)) g,u))) else
  Hz (c::r):=by
 rw[D5,Tr (Ne.symm h1),Tr (Ne.symm h2),Tr (Ne.symm h3)];rfl
theorem Xp {F:Nat} {c:Aa} {w:Ag} (hp:pl c=true) (hn:decide (0<c.fN)=false) (ho:Ca c=false) (hw:∀x r,w=x::r→BU x=false):Gb true (F+1) (DL c++w)=some (.cell none c .nil,w):=by
 have hN:=Xk hp
 have h0:c.fN=0:=by simp only[AcD] at hn;omega
 cases c with
 | mk k n s N=>
 simp only at h0;subst h0
 unfold DL
 by_cases k1:k=1
 ·subst k1
  simp[pl] at hp
  obtain⟨rfl,rfl⟩:=hp
  show Gb true (F+1) ([110,117,108,108]++w)=_
  rw[D5,LL];rfl
 by_cases k2:k=2
 ·subst k2
  simp[pl] at hp
  obtain⟨hb,rfl⟩:=hp
  rcases hb with rfl | rfl
  ·show Gb true (F+1) ([102,97,108,115,101]++w)=_
   rw[D5,LL];rfl
  ·show Gb true (F+1) ([116,114,117,101]++w)=_
   rw[D5,LL];rfl
 by_cases k3:k=3
 ·subst k3
  simp[pl] at hp
  subst hp
  show Gb true (F+1) (Lib.itoa n++w)=_
  obtain⟨x,r,e,hx⟩:=Qc n
  have hx2:45≤x.toNat∧x.toNat≤57:=by
   rcases hx with rfl | hx
   ·decide
   ·simp[BU] at hx;omega
  have hne:∀y:UInt8,57<y.toNat∨y.toNat<45→x≠y:=λy hy e=>by subst e;omega
  rw[e,List.cons_append,Ks (hne 110 (by decide)) (hne 116 (by decide)) (hne 102 (by decide)),AcG (hne 34 (by decide)),AcG (hne 91 (by decide)),AcG (hne 123 (by decide))]
  simp only[Bool.or_self,AcF]
  rw[← List.cons_append,← e]
  simp[Ca] at ho
  exact VI (by omega) (by omega) hw
 by_cases k4:k=4
 ·subst k4
  simp[pl] at hp
  obtain⟨rfl,hs⟩:=hp
  have e:(bif decide ((4:Int)=1) then([110,117,108,108]:Ag) else bif decide ((4:Int)=2) then(bif decide ((0:Int)=1) then[116,114,117,101] else[102,97,108,115,101]) else bif decide ((4:Int)=3) then Lib.itoa 0 else bif decide ((4:Int)=4) then Eu s else bif decide ((4:Int)=6) then[123,125] else[91,93])=Eu s:=rfl
  show Gb true (F+1) (Eu s++w)=_
  have e2:Eu s++w=34::(E0 s++34::w):=by simp[Eu]
  rw[e2,Ks (by decide) (by decide) (by decide),AcI rfl]
  simp only[AcJ]
  rw[Oq s w (by rw[Adl];exact hs)];rfl
 by_cases k5:k=5
 ·subst k5
  simp[pl] at hp
  obtain⟨rfl,rfl⟩:=hp
  show Gb true (F+1) (91::93::w)=_
  rw[Ks (by decide) (by decide) (by decide)];rfl
 by_cases k6:k=6
 ·subst k6
  simp[pl] at hp
  obtain⟨rfl,rfl⟩:=hp
  show Gb true (F+1) (123::125::w)=_
  rw[Ks (by decide) (by decide) (by decide)];rfl
 exfalso
 simp[pl,k1,k2,k3,k4,k5,k6] at hp
theorem VZ (m:Bool):BU (Be m)=false:=by cases m<;>decide
theorem Zs:∀n:Nat,(∀f:Fo,f.flat.length=n→f.one=true→f.wf false none=true→f.flat.any Ca=false→∀(F:Nat) (w:Ag),2*n≤F→(∀x r,w=x::r→BU x=false)→Gb true F (f.txt true++w)=some (f,w))∧
  (∀(g:Fo) (m:Bool) (last:Option Ag),g.flat.length=n→g≠.nil→g.wf m last=true→g.flat.any Ca=false→∀(F:Nat) (w:Ag),2*n+1≤F→Dp true F m last (g.txt true++Be m::w)=some (g,w)):=by
 intro n
 induction n using Nat.strongRecOn with
 | ind n ih=>
  have hP:∀f:Fo,f.flat.length=n→f.one=true→f.wf false none=true→f.flat.any Ca=false→∀(F:Nat) (w:Ag),2*n≤F→(∀x r,w=x::r→BU x=false)→Gb true F (f.txt true++w)=some (f,w):=by
   intro f hn h1 hw ho F w hF hd
   have hl:=LQ h1
   obtain⟨F,rfl⟩:∃K,F=K+1:=⟨F-1,by omega⟩
   cases f with
   | nil=>cases h1
   | cell k c s=>cases k with
    | some _=>cases h1
    | none=>cases s with
     | nil=>
      simp only[Fo.wf,AcH,AcS] at hw
      simp[Fo.flat,By] at ho
      have e:(Fo.cell none c .nil).txt true=DL c:=by simp[Fo.txt,CP,G9]
      rw[e]
      exact Xp hw.1.1.2 hw.1.2 ho hd
     | _=>cases h1
   | node k c kids s=>cases k with
    | some _=>cases h1
    | none=>cases s with
     | nil=>
      simp only[Fo.wf,AcH,AcC] at hw
      obtain⟨⟨⟨⟨⟨w1,w2⟩,w3⟩,w5⟩,w6⟩,w4⟩:=hw
      have hfl:(Fo.node none c kids .nil).flat=c::kids.flat:=by simp[Fo.flat,By]
      rw[hfl] at hn ho
      simp only[AcE] at hn
      simp only[List.any_cons,AcZ] at ho
      have hne:kids≠.nil:=λe=>by subst e;simp[Fo.cnt] at w5;omega
      obtain⟨x,r,ex,hx⟩:=W7 w6 hne
      obtain⟨ha,hi,hs⟩:=Ii w2 w3
      have e:(Fo.node none c kids .nil).txt true=Nw c (kids.txt true):=by simp[Fo.txt,CP,G9]
      have ih2:=(ih kids.flat.length (by omega)).2 kids (decide (c.fKind=6)) none rfl hne w6 ho.2 F w (by omega)
      have hnd:nd (decide (c.fKind=6)) kids = .node none c kids .nil:=by
       unfold nd
       rw[AcG (by omega)]
       cases c with
       | mk a1 a2 a3 a4=>
        simp only at ha hi hs w5 ⊢
        subst hi;subst hs;subst w5
        rcases ha with rfl | rfl<;>rfl
      rw[e]
      unfold Nw
      cases hm:decide (c.fKind=6) with
      | true=>
       rw[hm] at ih2 hnd
       have e3:(bif true then 123::(kids.txt true++[125]) else 91::(kids.txt true++[93]))++w=(bif true then(123:UInt8) else 91)::(x::(r++125::w)):=by simp[ex]
       have ih3:Dp true F true none (x::(r++125::w))=some (kids,w):=by rw[ex] at ih2;exact ih2
       rw[e3,Ts,HE,PN hx true,AcF,ih3]
       show some (nd true kids,w)=_
       rw[hnd]
      | false=>
       rw[hm] at ih2 hnd
       have e3:(bif false then 123::(kids.txt true++[125]) else 91::(kids.txt true++[93]))++w=(bif false then(123:UInt8) else 91)::(x::(r++93::w)):=by simp[ex]
       have ih3:Dp true F false none (x::(r++93::w))=some (kids,w):=by rw[ex] at ih2;exact ih2
       rw[e3,Ts,HE,PN hx false,AcF,ih3]
       show some (nd false kids,w)=_
       rw[hnd]
     | _=>cases h1
  refine⟨hP,?_⟩
  intro g m last hn hne hw ho F w hF
  rcases TC hw with h | ⟨k,f,r,rfl,h1,h2,h3,h4⟩
  ·exact absurd h hne
  obtain⟨F,rfl⟩:∃K,F=K+1:=⟨F-1,by omega⟩
  have hl:=LQ h1
  rw[Ev h1,AcK,AcK] at hn
  rw[QA h1,AcZ] at ho
  rw[Kq h1,Dl]
  have e:(CP true++(G9 k++(f.txt true++r.txt false)))++Be m::w=G9 k++(f.txt true++(r.txt false++Be m::w)):=by simp[CP]
  rw[e,XR h3]
  simp only
  have hpar:∀v:Ag,(∀x y,v=x::y→BU x=false)→Gb true F (f.txt true++v)=some (f,v):=λv hv=>by
   rcases Nat.lt_or_ge f.flat.length n with hlt | hge
   ·exact(ih f.flat.length hlt).1 f rfl h1 h2 ho.1 F v (by omega) hv
   ·exact hP f (by omega) h1 h2 ho.1 F v (by omega) hv
  by_cases hr:r = .nil
  ·subst hr
   rw[hpar _ (λx y e=>by simp[Fo.txt] at e;rw[← e.1];exact VZ m)]
   simp[Fo.txt]
  ·rw[W6 h4 hr,List.cons_append,hpar _ (λx y e=>by cases e;decide)]
   simp only
   have hb:decide ((44:UInt8)=Be m)=false:=by cases m<;>decide
   have:=(ih r.flat.length (by omega)).2 r m k rfl hr h4 ho.2 F w (by omega)
   rw[hb,this];rfl
theorem RX:∀F:Nat,(∀s f u,Gb true F s=some (f,u)→f.flat.any Ca=false→s=f.txt true++u)∧(∀m last s g u,Dp true F m last s=some (g,u)→g.flat.any Ca=false→s=g.txt true++Be m::u)
 | 0=>⟨(λs f u h=>by rw[Gb.eq_def] at h;cases h),(λm last s g u h=>by rw[Dp.eq_def] at h;cases h)⟩
 | F+1=>by
  obtain⟨ih1,ih2⟩:=RX F
  obtain⟨pl1,pl2⟩:=DW true F
  constructor
  ·intro s f u h ho
   rw[D5] at h
   cases h1:pre [110,117,108,108] s with
   | some r=>rw[h1] at h;cases h;rw[Dg h1];rfl
   | none=>
   rw[h1] at h;simp only at h
   cases h2:pre [116,114,117,101] s with
   | some r=>rw[h2] at h;cases h;rw[Dg h2];rfl
   | none=>
   rw[h2] at h;simp only at h
   cases h3:pre [102,97,108,115,101] s with
   | some r=>rw[h3] at h;cases h;rw[Dg h3];rfl
   | none=>
   rw[h3] at h;simp only at h
   cases s with
   | nil=>cases h
   | cons c r=>
    simp only at h
    cases h4:decide (c=34) with
    | true=>
     rw[h4] at h
     simp only[AcJ] at h
     cases h5:C6 true r with
     | none=>rw[h5] at h;cases h
     | some q=>
      obtain⟨t,u'⟩:=q
      rw[h5] at h;cases h
      rw[AcM h4,PA _ r t _ rfl h5]
      simp[lf,Fo.txt,CP,G9,DL,Eu]
    | false=>
    rw[h4] at h
    simp only[AcF] at h
    cases h5:(decide (c=91)||decide (c=123)) with
    | true=>
     rw[h5] at h
     simp only[AcJ] at h
     have hopen:∀x:Ag,(c::x)=(bif decide (c=123) then(123:UInt8) else 91)::x:=λx=>by
      cases h6:decide (c=123) with
      | true=>rw[AcM h6];rfl
      | false=>rw[h6,AcX] at h5;rw[AcM h5];rfl
     rw[hopen]
     generalize decide (c=123)=m at *
     cases r with
     | nil=>cases h
     | cons d r'=>
      simp only at h
      cases h6:decide (d=Be m) with
      | true=>
       rw[h6] at h;cases h
       rw[AcM h6]
       cases m<;>simp[nd,Fo.cnt,Fo.txt,CP,G9,DL,Be]
      | false=>
       rw[h6] at h
       simp only[AcF] at h
       cases h7:Dp true F m none (d::r') with
       | none=>rw[h7] at h;cases h
       | some q=>
        obtain⟨g,u'⟩:=q
        rw[h7] at h;cases h
        have hc:=(pl2 _ _ _ _ _ h7).2
        rw[Jo _ _ Ip,List.any_cons,AcZ] at ho
        rw[ih2 _ _ _ _ _ h7 ho.2]
        unfold nd
        rw[AcG (by omega)]
        cases m<;>simp[Fo.txt,CP,G9,Nw,Be]
    | false=>
     rw[h5] at h
     simp only[AcF] at h
     obtain⟨n,rfl,hb⟩:=VJ h
     have ho':Ca ⟨3,n,[],0⟩=false:=by simpa[Fo.flat,By] using ho
     rw[hb ho']
     simp[Fo.txt,CP,G9,DL]
  ·intro m last s g u h ho
   rw[Dl] at h
   cases h1:DD true m last s with
   | none=>rw[h1] at h;cases h
   | some q=>
    obtain⟨key,s1⟩:=q
    rw[h1] at h;simp only at h
    cases h2:Gb true F s1 with
    | none=>rw[h2] at h;cases h
    | some q=>
     obtain⟨f,s2⟩:=q
     have hone:=(pl1 _ _ _ h2).2
     rw[h2] at h;simp only at h
     cases s2 with
     | nil=>cases h
     | cons c s3=>
      simp only at h
      cases h3:decide (c=Be m) with
      | true=>
       rw[h3] at h;cases h
       rw[QA hone,AcZ] at ho
       rw[PZ h1,ih1 _ _ _ h2 ho.1,Kq hone,AcM h3]
       simp[CP,Fo.txt]
      | false=>
       rw[h3] at h
       simp only[AcF] at h
       cases h4:decide (c=44) with
       | false=>rw[h4] at h;cases h
       | true=>
        rw[h4] at h
        simp only[AcJ] at h
        cases h5:Dp true F m key s3 with
        | none=>rw[h5] at h;cases h
        | some q=>
         obtain⟨g',w⟩:=q
         rw[h5] at h;cases h
         have hc:=(pl2 _ _ _ _ _ h5).2
         rw[QA hone,AcZ] at ho
         have e5:=ih2 _ _ _ _ _ h5 ho.2
         have e6:g'.txt false=44::g'.txt true:=by
          cases g' with
          | nil=>simp[Fo.cnt] at hc
          | cell k c r=>simp[Fo.txt,CP]
          | node k c kids r=>simp[Fo.txt,CP]
         rw[PZ h1,ih1 _ _ _ h2 ho.1,Kq hone,AcM h4,e5,e6]
         simp[CP]
open Go Go.RowKit
theorem OY {f:Fo} (h:Gd f=0):f.flat.any Ca=false∧f.flat.any Il=false∧f.flat.length≤200∧f.dep≤8∧(f.txt true).length≤4000:=by
 unfold Gd at h
 cases h1:f.flat.any Ca with
 | true=>rw[h1] at h;cases h
 | false=>
  rw[h1] at h
  cases h2:(f.flat.any Il||(decide (200<f.flat.length)||(decide (8<f.dep)||decide (4000<(f.txt true).length)))) with
  | true=>rw[h2] at h;cases h
  | false=>
   simp only[AcZ,AcD] at h2
   exact⟨rfl,h2.1,by omega,by omega,by omega⟩
theorem Aaa {f:Fo} (h1:f.one=true) (hw:f.wf false none=true) (he:Gd f=0):HX f.flat=0:=by
 unfold HX;rw[Lw h1 hw];exact he
theorem AaG {F:Nat} {s u:Ag} {f:Fo} (h:Gb true F s=some (f,u)):f.wf false none=true:=by
 have:=((NP F).1 s).1
 rw[h] at this
 cases h2:Gb false F s with
 | none=>rw[h2] at this;cases this
 | some q=>
  obtain⟨g,w⟩:=q
  rw[h2] at this
  simp only at this
  cases hw:g.wf false none with
  | true=>rw[hw] at this;cases this;exact hw
  | false=>rw[hw] at this;cases this
theorem Aab {v:List Aa} (h:(I2 v).2=0):Lq (I2 v).1=some (v,0):=by
 unfold I2 at h ⊢
 cases hw:whole v with
 | none=>rw[hw] at h;cases h
 | some f=>
  rw[hw] at h
  simp only at h
  cases he:decide (Gd f=0) with
  | false=>rw[he] at h;exact absurd h (Add he)
  | true=>
   obtain⟨x1,x2,x3⟩:=Jh hw
   obtain⟨h1,h2,h3,h4,h5⟩:=OY (AcM he)
   have hp:=(Zs f.flat.length).1 f rfl x3 x2 h1 10000 [] (by omega) (λx r e=>by cases e)
   rw[Adg] at hp
   simp only[he]
   show Lq (f.txt true)=_
   unfold Lq
   rw[AcG (by omega),AcF,hp]
   simp only
   rw[he,x1];rfl
theorem QW {s:Ag} {r:List Aa×Int} (h:Lq s=some r) (h0:r.2=0):I7 4000 r.1∧I2 r.1=(s,0)∧HX r.1=0:=by
 unfold Lq at h
 cases h4:decide (4000<s.length) with
 | true=>rw[h4] at h;cases h;cases h0
 | false=>
  rw[h4] at h
  simp only[AcD] at h4
  simp only[AcF] at h
  cases hp:Gb true 10000 s with
  | none=>rw[hp] at h;cases h;cases h0
  | some q=>
   obtain⟨f,w⟩:=q
   rw[hp] at h
   cases w with
   | cons _ _=>cases h;cases h0
   | nil=>
    simp only[Option.some.injEq] at h
    subst h
    cases he:decide (Gd f=0) with
    | false=>rw[he] at h0;exact absurd h0 (Add he)
    | true=>
     have hf:=AcM he
     have hw:=AaG hp
     have hone:=((DW true 10000).1 _ _ _ hp).2
     have hcells:=(Kt true 4000 10000).1 _ _ _ (by omega) hp
     have hfl:=(Ew true 10000).1 _ _ _ hp
     obtain⟨h1,h2,h3,_⟩:=OY hf
     have hb:=(RX 10000).1 _ _ _ hp h1
     rw[Adg] at hb
     refine⟨⟨by decide,by show f.flat.length≤4000;omega,λc hc=>?_⟩,?_,Aaa hone hw hf⟩
     ·obtain⟨a,b,c'⟩:=hcells c hc
      exact⟨a,b,by omega⟩
     ·show I2 f.flat=_
      unfold I2
      rw[Lw hone hw]
      simp only
      rw[he,hb];rfl
theorem KC (s:Ag):∃r,Lq s=some r:=by
 unfold Lq
 cases decide (4000<s.length) with
 | true=>exact⟨_,rfl⟩
 | false=>
  simp only[AcF]
  split<;>exact⟨_,rfl⟩
section
variable {M : Nat} {v : List Aa}
theorem Tj (hA:I7 M v) (hM:M≤1000000) {F:Nat} (hF:4*M+8<F):LC F v=some (I2 v):=by
 have hvM:=hA.hv
 unfold LC I2
 rw[M8 hA hM (by omega),AG rfl]
 unfold HX
 cases hwh:whole v with
 | none=>rfl
 | some f=>
  change Bd (!decide (Gd f=0)) _ _=some (bif decide (Gd f=0) then(f.txt true,0) else([],Gd f))
  cases he:decide (Gd f=0) with
  | false=>rw[AA (p:=!false) rfl];rfl
  | true=>
   obtain⟨h1,h2,h3⟩:=Jh hwh
   have hl:v.length=f.flat.length:=by rw[h1]
   have hc:∀c∈f.flat,c.fStr.length≤M∧Bl .i64 c.fInt=true∧c.fN≤9223372036854775807:=λc hc=>hA.hc c (by rw[h1];exact hc)
   have hb:=KE hM h2 (by omega) hc
   have htl:((f.txt true).length:Int)=f.byt:=by rw[If f false none true h2,LR h3];simp
   have hd0:v.drop (0:Int).toNat=f.flat++[]:=by rw[Adg];exact h1
   rw[Ay (p:=!true) rfl,RE hA (Ade 0) h3 h2 hd0 (by omega) (by omega),AG rfl];rfl
end
def HY (c:Ah):Int:=
 bif !S0 c.fKey then 4 else bif decide (c.fIfVersion<(-1))||decide (1000000000000<c.fIfVersion) then 2
 else bif c.fDelete&&decide (0<(c.fValue.length:Int)) then 7 else bif c.fDelete then 0 else HX c.fValue
def JW:List Ah→Int
 | []=>0
 | c::r=>bif decide (HY c=0) then JW r else HY c
def Mm (l:List Ah):Int:=bif decide (256<l.length) then 3 else JW l
theorem MK:∀{l:List Ah},JW l=0→∀c∈l,HY c=0
 | [],_,c,hc=>by cases hc
 | d::r,h,c,hc=>by
  unfold JW at h
  cases hd:decide (HY d=0) with
  | false=>rw[hd] at h;exact absurd h (Add hd)
  | true=>
   rw[hd] at h
   rcases List.mem_cons.1 hc with rfl | hc
   ·exact AcM hd
   ·exact MK h c hc
theorem OS:∀{l:List Ah},(∀c∈l,HY c=0)→JW l=0
 | [],_=>rfl
 | d::r,h=>by
  unfold JW
  rw[AcI (h d (by simp))]
  exact OS λc hc=>h c (by simp[hc])
def OQ (c:Ah):List Ag:=[c.fKey,bif c.fDelete then[49] else[48],bif c.fDelete then[] else(I2 c.fValue).1,Lib.itoa c.fIfVersion]
def Gq (c:Ah):Ag:=LM (OQ c)
def Mp (l:List Ah):Ag×Int:=bif decide (Mm l=0) then Qb (l.map Gq) else([],Mm l)
theorem Yz {v:List Aa} (h:HX v=0):(I2 v).1.length≤4000:=by
 unfold I2
 unfold HX at h
 cases hw:whole v with
 | none=>rw[hw] at h;cases h
 | some f=>
  rw[hw] at h
  simp only at h ⊢
  rw[h]
  exact(OY h).2.2.2.2
theorem Mn {c:Ah} (h:HY c=0):S0 c.fKey=true∧-1≤c.fIfVersion∧c.fIfVersion≤1000000000000∧(c.fDelete=true→c.fValue=[])∧(c.fDelete=false→HX c.fValue=0):=by
 unfold HY at h
 cases h1:S0 c.fKey with
 | false=>rw[h1] at h;cases h
 | true=>
  rw[h1] at h
  simp only[AcO,AcF] at h
  cases h2:(decide (c.fIfVersion<(-1))||decide (1000000000000<c.fIfVersion)) with
  | true=>rw[h2] at h;cases h
  | false=>
   rw[h2] at h
   simp only[AcF] at h
   simp only[AcZ,AcD] at h2
   cases h3:c.fDelete with
   | true=>
    rw[h3] at h
    simp only[AcN] at h
    cases h4:decide (0<(c.fValue.length:Int)) with
    | true=>rw[h4] at h;cases h
    | false=>
     simp only[AcD] at h4
     exact⟨rfl,by omega,by omega,λ_=>List.eq_nil_of_length_eq_zero (by omega),λh=>(by cases h)⟩
   | false=>
    rw[h3] at h
    exact⟨rfl,by omega,by omega,λh=>(by cases h),λ_=>h⟩
theorem VK {s:Ag} (h:S0 s=true):s.length≤64:=by
 unfold S0 at h
 simp only[AcH,AcC] at h
 exact h.2
theorem Sb {c:Ah} (h:HY c=0):Xt (OQ c)=true:=by
 obtain⟨h1,h2,h3,h4,h5⟩:=Mn h
 have a1:=VK h1
 have a2:=Sw c.fIfVersion (by omega) (by omega)
 unfold Xt OQ
 simp only[AcE,Adp,Adm,List.all_nil,AcR,AcH,AcC]
 refine⟨by omega,by omega,?_,?_,by omega⟩
 ·cases c.fDelete<;>simp
 ·cases hd:c.fDelete with
  | true=>simp
  | false=>exact Yz (h5 hd)
def zC:Ah:=Ah.mk [] false [] 0
def OR (l:List Ag):Bool:=decide ((l.length:Int)=4)&&((decide (Am l 1=[48])||decide (Am l 1=[49]))&&decide (BA (Am l 3)=0))
def ofC (l:List Ag):Ah×Bool:=
 bif decide (Am l 1=[49]) then(Ah.mk (Am l 0) true [] (AJ (Am l 3)),decide (Am l 2=[]))
 else(Ah.mk (Am l 0) false (ov (Lq (Am l 2))).1 (AJ (Am l 3)),decide ((ov (Lq (Am l 2))).2=0))
def Lu (b:Ag):Ah×Bool:=bif decide ((GH b).2=0)&&OR (GH b).1 then ofC (GH b).1 else(zC,false)
def HW (b:Ag):Bool:=(Lu b).2&&decide (HY (Lu b).1=0)
def I3 (s:Ag):Bool:=decide ((B8 s.length s).2=s.length)&&(decide ((B8 s.length s).1.length≤256)&&((B8 s.length s).1.all HW&&decide (s.length≤262144)))
def J8 (s:Ag):List Ah×Int:=bif I3 s then((B8 s.length s).1.map λb=>(Lu b).1,0) else([],13)
theorem TL {c:Ah} (h:HY c=0):Lu (Gq c)=(c,true):=by
 obtain⟨h1,h2,h3,h4,h5⟩:=Mn h
 have hu:=W3 (Sb h)
 unfold Lu Gq
 rw[hu]
 have e0:Am (OQ c) 0=c.fKey:=rfl
 have e1:Am (OQ c) 1=bif c.fDelete then[49] else[48]:=rfl
 have e2:Am (OQ c) 2=bif c.fDelete then[] else(I2 c.fValue).1:=rfl
 have e3:Am (OQ c) 3=Lib.itoa c.fIfVersion:=rfl
 have hp:BA (Lib.itoa c.fIfVersion)=0∧AJ (Lib.itoa c.fIfVersion)=c.fIfVersion:=by
  by_cases h0:0≤c.fIfVersion
  ·exact VH h0 h3
  ·have:c.fIfVersion = -1:=by omega
   rw[this];decide +kernel
 have hf:OR (OQ c)=true:=by
  unfold OR
  rw[e1,e3,hp.1]
  cases c.fDelete<;>rfl
 simp only[hf,decide_true,Bool.and_self,AcJ]
 unfold ofC
 rw[e0,e1,e2,e3,hp.2]
 obtain⟨k,d,v,iv⟩:=c
 cases d with
 | true=>
  have hv:v=[]:=h4 rfl
  subst hv;rfl
 | false=>
  have hv:Lq (I2 v).1=some (v,0):=Aab (by
   have:(I2 v).2=HX v:=by
    unfold I2 HX
    cases whole v with
    | none=>rfl
    | some f=>simp only;cases hh:decide (Gd f=0) with
     | true=>rw[AcM hh];rfl
     | false=>rfl
   rw[this];exact h5 rfl)
  show(bif decide (([48]:Ag)=[49]) then _ else _)=_
  rw[show decide (([48]:Ag)=[49])=false from by decide]
  simp only[AcF,hv,GP,decide_true]
theorem AbR {l:List Ag} (h:(l.length:Int)=4):∃a b c d,l=[a,b,c,d]:=by
 match l,h with
 | [a,b,c,d],_=>exact⟨a,b,c,d,rfl⟩
 | [],h=>simp at h
 | [_],h=>simp at h
 | [_,_],h=>simp at h
 | [_,_,_],h=>simp at h
 | _::_::_::_::_::_,h=>simp at h;omega
theorem TM {b:Ag} (h:(Lu b).2=true):(GH b).2=0∧OR (GH b).1=true∧Lu b=ofC (GH b).1:=by
 unfold Lu at h ⊢
 cases hc:(decide ((GH b).2=0)&&OR (GH b).1) with
 | false=>rw[hc] at h;cases h
 | true=>
  simp only[AcH,AcC] at hc
  exact⟨hc.1,hc.2,rfl⟩
theorem Z3 {b:Ag} (h:HW b=true):Gq (Lu b).1=b:=by
 unfold HW at h
 simp only[AcH,AcC] at h
 obtain⟨g1,g2⟩:=h
 obtain⟨u1,u2,u3⟩:=TM g1
 obtain⟨_,hpk⟩:=RY (s:=b) (l:=(GH b).1) (by rw[← u1])
 rw[u3] at g1 g2 ⊢
 generalize(GH b).1=l at *
 unfold OR at u2
 simp only[AcH,Adi,AcC] at u2
 obtain⟨v1,v2,v3⟩:=u2
 have hi:=RU v3
 obtain⟨k,f,t,m,rfl⟩:=AbR v1
 have e0:Am [k,f,t,m] 0=k:=rfl
 have e1:Am [k,f,t,m] 1=f:=rfl
 have e2:Am [k,f,t,m] 2=t:=rfl
 have e3:Am [k,f,t,m] 3=m:=rfl
 rw[e3] at hi
 unfold ofC at g1 g2 ⊢
 rw[e1] at v2
 simp only[e0,e1,e2,e3] at g1 g2 ⊢
 unfold Gq
 cases hf:decide (f=[49]) with
 | true=>
  have hf':=AcM hf
  rw[hf] at g1
  have ht:t=[]:=AcM g1
  subst hf' ht
  show LM [k,[49],[],Lib.itoa (AJ m)]=b
  rw[hi];exact hpk
 | false=>
  have hf':f=[48]:=by
   rcases v2 with v2 | v2
   ·exact v2
   ·exact absurd v2 (Add hf)
  rw[hf] at g1
  simp only[AcF] at g1 ⊢
  obtain⟨r,hr⟩:=KC t
  rw[hr,GP] at g1
  obtain⟨_,d2,_⟩:=QW hr (AcM g1)
  subst hf'
  show LM [k,[48],(I2 (ov (Lq t)).1).1,Lib.itoa (AJ m)]=b
  rw[hr,GP,d2,hi];exact hpk
theorem Mg (l:List Ag):l.length≤(l.flatMap Cc).length:=by
 induction l with
 | nil=>simp
 | cons b l ih=>rw[Adr,AcK,DH,AcE];omega
theorem Pa {l:List Ah} (h:(Mp l).2=0):J8 (Mp l).1=(l,0):=by
 unfold Mp at h ⊢
 cases he:decide (Mm l=0) with
 | false=>rw[he] at h;exact absurd h (Add he)
 | true=>
  rw[he] at h
  simp only[AcJ] at h ⊢
  unfold Qb at h ⊢
  cases hj:decide (((l.map Gq).flatMap Cc).length≤262144) with
  | false=>rw[hj] at h;cases h
  | true=>
   simp only[AcJ]
   have hlim:=AcM hj
   have he':=AcM he
   unfold Mm at he'
   cases ha:decide (256<l.length) with
   | true=>rw[ha] at he';cases he'
   | false=>
    rw[ha] at he'
    simp only[AcF] at he'
    have hall:=MK he'
    have hb:∀b∈l.map Gq,b.length≤262136:=λb hb=>by have:=KQ _ b hb;omega
    have hsp:=Ni (l.map Gq) ((l.map Gq).flatMap Cc).length hb (Mg _)
    have hmap:(l.map Gq).map (λb=>(Lu b).1)=l:=by
     rw[Adz]
     conv=>rhs;rw[← List.map_id l]
     exact List.map_congr_left λc hc=>by show(Lu (Gq c)).1=c;rw[TL (hall c hc)]
    have hgood:(l.map Gq).all HW=true:=by
     rw[List.all_map,Adl]
     intro c hc
     show HW (Gq c)=true
     unfold HW
     rw[TL (hall c hc)]
     simp only[AcN]
     exact AcI (hall c hc)
    unfold J8 I3
    rw[hsp,hgood]
    simp only[AcD] at ha
    rw[AcI rfl,AcI (by simp;omega),hj,hmap];rfl
theorem SH {s:Ag} (h:(J8 s).2=0):Mp (J8 s).1=(s,0):=by
 unfold J8 at h ⊢
 cases hg:I3 s with
 | false=>rw[hg] at h;cases h
 | true=>
  simp only[AcJ]
  unfold I3 at hg
  simp only[AcH,AcC] at hg
  obtain⟨g1,g2,g3,g4⟩:=hg
  obtain⟨_,s2,_⟩:=IG s.length s
  rw[g1,Adw] at s2
  generalize(B8 s.length s).1=l at *
  rw[Adl] at g3
  have hall:∀c∈l.map (λb=>(Lu b).1),HY c=0:=λc hc=>by
   obtain⟨b,hb,rfl⟩:=List.mem_map.1 hc
   have:=g3 b hb
   unfold HW at this
   simp only[AcH,AcC] at this
   exact this.2
  have hp:Mm (l.map λb=>(Lu b).1)=0:=by
   unfold Mm
   rw[AcG (by simp;omega)]
   exact OS hall
  have hm:(l.map λb=>(Lu b).1).map Gq=l:=by
   rw[Adz]
   conv=>rhs;rw[← List.map_id l]
   exact List.map_congr_left λb hb=>Z3 (g3 b hb)
  unfold Mp
  rw[hp,hm]
  unfold Qb
  rw[← s2,AcI g4];rfl
def tb (i:Nat):Int:=nv (Rg 8 (BitVec.ofNat 32 i))
def J5 (x:Nat):List Int:=(List.range 256).map λi=>if i<x then tb i else 0
theorem JF (x:Nat):(J5 x).length=256:=by simp[J5]
theorem W9 {x:Nat} (h:x<256):(J5 x).set x (tb x)=J5 (x+1):=by
 apply List.ext_getElem (by simp[J5])
 intro i h1 h2
 simp only[J5,List.getElem_set,List.getElem_map,List.getElem_range]
 by_cases e:x=i
 ·subst e;simp
 ·rw[Adj e]
  by_cases g:i<x
  ·rw[Adq g,Adq (by omega)]
  ·rw[Adj g,Adj (by omega)]
theorem AaA:J5 0=List.replicate 256 (0:Int):=by
 apply List.ext_getElem
 ·rw[JF,List.length_replicate]
 ·intro i h1 h2
  rw[List.getElem_replicate]
  simp only[J5,List.getElem_map,List.getElem_range,Nat.not_lt_zero,if_false]
theorem Abr {i:Nat} (h:i<256):Am (J5 256) (i:Int)=tb i:=by simp[Am,J5,h]
theorem Yd (k:Nat):∀(n:Nat) (b:BitVec 32) (x:Int),0≤x→x+k=8→k<n→BF (λσ:Int×Int=>GK σ.1 σ.2) n (nv b,x)=some (.go (nv (Rg k b),8,false)):=by
 induction k with
 | zero=>
  intro n b x h0 h hn
  obtain⟨n,rfl⟩:∃m,n=m+1:=⟨n-1,by omega⟩
  have:x=8:=by omega
  subst this;rfl
 | succ k ih=>
  intro n b x h0 h hn
  obtain⟨n,rfl⟩:∃m,n=m+1:=⟨n-1,by omega⟩
  have hb:GK (nv b) x=some (.next (nv (sB b),x+1)):=by
   unfold GK
   rw[AA (AcI (by omega)),A1 (by omega) (by omega),RA]
  rw[BF,hb]
  exact ih n (sB b) (x+1) (by omega) (by omega) (by omega)
theorem WS (k:Nat):∀(n:Nat) (b:BitVec 32) (x:Int),0≤x→x+k=8→k<n→BF (λσ:Int×Int=>HP σ.1 σ.2) n (nv b,x)=some (.go (nv (Rg k b),8,8,false)):=by
 induction k with
 | zero=>
  intro n b x h0 h hn
  obtain⟨n,rfl⟩:∃m,n=m+1:=⟨n-1,by omega⟩
  have:x=8:=by omega
  subst this;rfl
 | succ k ih=>
  intro n b x h0 h hn
  obtain⟨n,rfl⟩:∃m,n=m+1:=⟨n-1,by omega⟩
  have hb:HP (nv b) x=some (.next (nv (sB b),x+1)):=by
   unfold HP
   rw[AA (AcI (by omega)),A1 (by omega) (by omega),RA]
  rw[BF,hb]
  exact ih n (sB b) (x+1) (by omega) (by omega) (by omega)
theorem SU (n:Nat):IntKind.wrap .u32 (n:Int)=nv (BitVec.ofNat 32 n):=by
 unfold nv
 rw[BitVec.toNat_ofNat]
 simp[IntKind.wrap,IntKind.signed,IntKind.bits]
theorem S2 {F:Nat} (hF:8<F) (k:Nat):∀(n:Nat) (x:Nat),x+k=256→k<n→BF (λσ:Int×List Int=>GL F σ.1 σ.2) n ((x:Int),J5 x)=some (.go (J5 256)):=by
 induction k with
 | zero=>
  intro n x h hn
  obtain⟨n,rfl⟩:∃m,n=m+1:=⟨n-1,by omega⟩
  have:x=256:=by omega
  subst this;rfl
 | succ k ih=>
  intro n x h hn
  obtain⟨n,rfl⟩:∃m,n=m+1:=⟨n-1,by omega⟩
  have hb:GL F (x:Int) (J5 x)=some (.next (((x+1:Nat):Int),J5 (x+1))):=by
   unfold GL
   rw[AA (AcI (by omega)),SU,AG (Yd 8 F _ 0 (by omega) (by omega) hF),CE]
   unfold IS
   rw[show nv (Rg 8 (BitVec.ofNat 32 x))=tb x from rfl]
   rw[AT (by omega) (by omega),AT (by omega) (by rw[JF];omega),A1 (by omega) (by omega),Int.toNat_natCast,W9 (by omega)];rfl
  rw[BF,hb]
  exact ih n (x+1) (by omega) (by omega)
theorem VN {F:Nat} (hF:300<F):OP F=some (J5 256):=by
 unfold OP
 have:=S2 (F:=F) (by omega) 256 F 0 (by omega) (by omega)
 rw[AaA] at this
 rw[show((0:Int),List.replicate 256 (0:Int))=(((0:Nat):Int),List.replicate 256 (0:Int)) from rfl,AG this,CE]
 unfold IT
 rw[B3 (AcI (JF 256)),B3 (AcI List.length_replicate)]
theorem D8 {α:Type} [Inhabited α] {l:List α} {i:Nat} {b:α} {r:List α} (h:l.drop i=b::r):Am l (i:Int)=b∧i<l.length∧l.drop (i+1)=r:=by
 have hl:i<l.length:=by
  have:=congrArg List.length h
  simp only[Adv,AcE] at this;omega
 have hg:l[i]? =some b:=by
  have:=congrArg (λt=>t[0]?) h
  simpa using this
 refine⟨by simp[Am,hg],hl,?_⟩
 rw[← Adx,h];rfl
theorem YE (b:BitVec 32) (c:UInt8):EG .u8 (IntKind.wrap .u8 (nv b)) (c.toNat:Int)=(((b^^^Iq c).toNat % 256:Nat):Int):=by
 have hc:=c.toNat_lt
 have e1:IntKind.wrap .u8 (nv b)=((b.toNat % 256:Nat):Int):=by
  unfold nv;simp[IntKind.wrap,IntKind.signed,IntKind.bits]
 have h1:(BitVec.ofInt (IntKind.bits .u8) ((b.toNat % 256:Nat):Int)^^^BitVec.ofInt (IntKind.bits .u8) (c.toNat:Int)).toNat=(b^^^Iq c).toNat % 256:=by
  rw[BitVec.toNat_xor,BitVec.toNat_ofInt,BitVec.toNat_ofInt,BitVec.toNat_xor]
  have hbits:IntKind.bits .u8=8:=rfl
  have e1:(((b.toNat % 256:Nat):Int) % ((2 ^ 8:Nat):Int)).toNat=b.toNat % 256:=by omega
  have e2:(((c.toNat:Nat):Int) % ((2 ^ 8:Nat):Int)).toNat=c.toNat % 256:=by omega
  have e3:(Iq c).toNat=c.toNat:=by unfold Iq;rw[BitVec.toNat_ofNat];omega
  rw[hbits,e1,e2,e3]
  exact(Nat.xor_mod_two_pow (n:=8)).symm
 unfold EG
 rw[e1,h1]
 simp[IntKind.wrap,IntKind.signed,IntKind.bits]
theorem Od (b:BitVec 32) (c:UInt8):(b^^^Iq c)>>>8=b>>>8:=by
 rw[BitVec.ushiftRight_xor_distrib]
 have:Iq c>>>8=0#32:=by
  apply BitVec.eq_of_toNat_eq
  have hc:=c.toNat_lt
  rw[BitVec.toNat_ushiftRight,Nat.shiftRight_eq_div_pow]
  unfold Iq
  rw[BitVec.toNat_ofNat]
  show c.toNat % 4294967296/256=0
  omega
 rw[this];simp
theorem XG (z:BitVec 32):BitVec.ofNat 32 (z.toNat % 256)=z&&& 255#32:=by
 apply BitVec.eq_of_toNat_eq
 have hz:=z.isLt
 rw[BitVec.toNat_ofNat,BitVec.toNat_and]
 have:z.toNat&&& 255=z.toNat % 256:=Nat.and_two_pow_sub_one_eq_mod z.toNat 8
 show z.toNat % 256 % 4294967296=z.toNat&&& 255
 rw[this];omega
theorem YB (b:BitVec 32) (c:UInt8):EG .u32 (tb ((b^^^Iq c).toNat % 256)) (BQ .u32 (nv b) 8)=nv (Rg 8 (b^^^Iq c)):=by
 unfold tb
 have hs:BQ .u32 (nv b) 8=nv (b>>>8):=Uw (n:=8) (by omega) b
 rw[hs,NT,Pi,Pi,XG,← Od b c,← Va]
theorem X7 (b:BitVec 32):QP .u32 (nv b)=((~~~b).toNat:Int):=by
 show EG .u32 4294967295 (nv b)=_
 rw[NT,Pi]
 have:bv 4294967295=BitVec.allOnes 32:=by decide
 rw[this,BitVec.allOnes_xor];rfl
theorem Qg (s:Ag):∀(r:Ag) (n i:Nat) (b:BitVec 32),s.drop i=r→s.length≤1000000000→r.length<n→i≤s.length→BF (λσ:Int×Int=>H3 s (J5 256) σ.1 σ.2) n (nv b,(i:Int))=some (.go (nv (T7 b r)))
 | [],n,i,b,h,hs,hn,hi=>by
  obtain⟨n,rfl⟩:∃m,n=m+1:=⟨n-1,by simp at hn;omega⟩
  have:s.length≤i:=by simpa using h
  have hb:H3 s (J5 256) (nv b) (i:Int)=some (.out (.go (nv b))):=by
   unfold H3;rw[Ay (AcG (by omega))]
  rw[BF,hb];rfl
 | c::r,n,i,b,h,hs,hn,hi=>by
  obtain⟨n,rfl⟩:∃m,n=m+1:=⟨n-1,by simp at hn;omega⟩
  obtain⟨_,hl,hd⟩:=D8 h
  have hbt:=Mr h
  have hz:(b^^^Iq c).toNat % 256<256:=by omega
  have hb:H3 s (J5 256) (nv b) (i:Int)=some (.next (nv (Rg 8 (b^^^Iq c)),((i+1:Nat):Int))):=by
   unfold H3
   rw[AA (AcI (by omega)),AT (by omega) (by omega),hbt,YE,AT (by omega) (by omega),AT (by omega) (by rw[JF];omega),A1 (by omega) (by omega),Abr hz,YB];rfl
  rw[BF,hb]
  exact Qg s r n (i+1) _ hd hs (by simp at hn;omega) (by omega)
theorem Ux {F:Nat} {s:Ag} (hF:300<F) (hs:s.length<F) (hl:s.length≤1000000000):VO F s=some (Mq s:Int):=by
 unfold VO
 rw[AG (VN hF),B3 (AcI List.length_replicate),B3 (AcI (JF 256))]
 rw[show((4294967295:Int),(0:Int))=(nv 4294967295#32,((0:Nat):Int)) from rfl,AG (Qg s s F 0 _ rfl hl hs (by omega))]
 show some (QP .u32 (nv (T7 4294967295#32 s)))=_
 rw[X7];rfl
theorem O5 {F:Nat} (hF:8<F) (s:Ag):∀(r:Ag) (n i:Nat) (b:BitVec 32),s.drop i=r→s.length≤1000000000→r.length<n→i≤s.length→BF (λσ:Int×Int=>Gz F s σ.1 σ.2) n (nv b,(i:Int))=some (.go (nv (T7 b r)))
 | [],n,i,b,h,hs,hn,hi=>by
  obtain⟨n,rfl⟩:∃m,n=m+1:=⟨n-1,by simp at hn;omega⟩
  have:s.length≤i:=by simpa using h
  have hb:Gz F s (nv b) (i:Int)=some (.out (.go (nv b))):=by
   unfold Gz;rw[Ay (AcG (by omega))]
  rw[BF,hb];rfl
 | c::r,n,i,b,h,hs,hn,hi=>by
  obtain⟨n,rfl⟩:∃m,n=m+1:=⟨n-1,by simp at hn;omega⟩
  obtain⟨_,hl,hd⟩:=D8 h
  have hbt:=Mr h
  have e:EG .u32 (nv b) (IntKind.wrap .u32 (c.toNat:Int))=nv (b^^^Iq c):=by
   rw[SU,NT,Pi,Pi];rfl
  have hb:Gz F s (nv b) (i:Int)=some (.next (nv (Rg 8 (b^^^Iq c)),((i+1:Nat):Int))):=by
   unfold Gz
   rw[AA (AcI (by omega)),AT (by omega) (by omega),hbt,e,AG (WS 8 F _ 0 (by omega) (by omega) hF),CE]
   unfold JM
   rw[A1 (by omega) (by omega)];rfl
  rw[BF,hb]
  exact O5 hF s r n (i+1) _ hd hs (by simp at hn;omega) (by omega)
theorem RR {F:Nat} {s:Ag} (hF:300<F) (hs:s.length<F) (hl:s.length≤1000000000):PJ F s=some (Mq s:Int):=by
 unfold PJ
 rw[show((4294967295:Int),(0:Int))=(nv 4294967295#32,((0:Nat):Int)) from rfl,AG (O5 (by omega) s s F 0 _ rfl hl hs (by omega))]
 show some (QP .u32 (nv (T7 4294967295#32 s)))=_
 rw[X7];rfl
theorem WG (n k:Nat) (h:k≤32):BQ .u32 (n:Int) (k:Int)=((n/2 ^ k:Nat):Int):=by
 unfold BQ
 have e:min (k:Int).toNat (IntKind.bits .u32)=k:=by
  have:IntKind.bits .u32=32:=rfl
  rw[this];omega
 rw[e,Int.fdiv_eq_ediv_of_nonneg _ (Int.pow_nonneg (by omega))]
 simp
theorem S4 (n:Nat):([IntKind.wrap .u8 (BQ .u32 (n:Int) 24),IntKind.wrap .u8 (BQ .u32 (n:Int) 16),IntKind.wrap .u8 (BQ .u32 (n:Int) 8),IntKind.wrap .u8 (n:Int)]:List Int)=CM (SL n):=by
 have ha:BQ .u32 (n:Int) 24=((n/16777216:Nat):Int):=WG n 24 (by omega)
 have hb:BQ .u32 (n:Int) 16=((n/65536:Nat):Int):=WG n 16 (by omega)
 have h8:BQ .u32 (n:Int) 8=((n/256:Nat):Int):=WG n 8 (by omega)
 rw[ha,hb,h8,KL,KL,KL,KL];rfl
theorem OX (n:Nat):KB (n:Int)=some (SL n):=by
 unfold KB
 rw[S4,Jn]
theorem MA (n:Nat):Le (n:Int)=some (CM (SL n)):=by
 unfold Le
 rw[S4]
theorem Jf {n:Nat} (h:n<4294967296):IntKind.wrap .u32 (n:Int)=(n:Int):=by
 rw[SU];unfold nv;rw[BitVec.toNat_ofNat];omega
theorem Abf (x y:Int):Jd .u32 x y=nv (bv x||| bv y):=Qv (bv x||| bv y)
theorem QO {x y:Nat} (hx:x<4294967296) (hy:y<4294967296):Jd .u32 (x:Int) (y:Int)=((x||| y:Nat):Int):=by
 rw[Abf]
 unfold nv
 rw[BitVec.toNat_or]
 have e:∀z:Nat,z<4294967296→(bv (z:Int)).toNat=z:=λz hz=>by
  have:=Aat (x:=(z:Int)) ⟨by omega,by omega⟩
  unfold nv at this;exact Int.ofNat_inj.1 this
 rw[e x hx,e y hy]
theorem WH {n k:Nat} (h:k≤32) (hn:n*2 ^ k<4294967296):De .u32 (n:Int) (k:Int)=((n <<< k:Nat):Int):=by
 unfold De
 have e:min (k:Int).toNat (IntKind.bits .u32)=k:=by
  have:IntKind.bits .u32=32:=rfl
  rw[this];omega
 rw[e,Nat.shiftLeft_eq,show(n:Int)*2 ^ k=((n*2 ^ k:Nat):Int) from by simp,Jf hn]
theorem AaI {a b c d:Nat} (ha:a<256) (hb:b<256) (hc:c<256) (hd:d<256):((a <<< 24||| b <<< 16)||| c <<< 8)||| d=((a*256+b)*256+c)*256+d:=by
 have e1:a <<< 24||| b <<< 16=(a*256+b) <<< 16:=by
  rw[← Nat.shiftLeft_add_eq_or_of_lt (by rw[Nat.shiftLeft_eq];omega)]
  simp only[Nat.shiftLeft_eq];omega
 have e2:(a*256+b) <<< 16||| c <<< 8=((a*256+b)*256+c) <<< 8:=by
  rw[← Nat.shiftLeft_add_eq_or_of_lt (by rw[Nat.shiftLeft_eq];omega)]
  simp only[Nat.shiftLeft_eq];omega
 rw[e1,e2,← Nat.shiftLeft_add_eq_or_of_lt (by omega)]
 simp only[Nat.shiftLeft_eq]
theorem OV {s:Ag} (h:4≤s.length):K8 s=some (DC s:Int):=by
 match s,h with
 | a::b::c::d::r,_=>
  have ha:=a.toNat_lt
  have hb:=b.toNat_lt
  have hc:=c.toNat_lt
  have hd:=d.toNat_lt
  unfold K8
  rw[AT (by omega) (by simp only[AcE];omega),AT (by omega) (by simp only[AcE];omega),AT (by omega) (by simp only[AcE];omega),AT (by omega) (by simp only[AcE];omega)]
  have b0:AK (a::b::c::d::r) 0=(a.toNat:Int):=rfl
  have b1:AK (a::b::c::d::r) 1=(b.toNat:Int):=rfl
  have b2:AK (a::b::c::d::r) 2=(c.toNat:Int):=rfl
  have b3:AK (a::b::c::d::r) 3=(d.toNat:Int):=rfl
  have s1:De .u32 (a.toNat:Int) 24=((a.toNat <<< 24:Nat):Int):=WH (k:=24) (by omega) (by omega)
  have s2:De .u32 (b.toNat:Int) 16=((b.toNat <<< 16:Nat):Int):=WH (k:=16) (by omega) (by omega)
  have s3:De .u32 (c.toNat:Int) 8=((c.toNat <<< 8:Nat):Int):=WH (k:=8) (by omega) (by omega)
  have l1:a.toNat <<< 24<4294967296:=by rw[Nat.shiftLeft_eq];omega
  have l2:b.toNat <<< 16<4294967296:=by rw[Nat.shiftLeft_eq];omega
  have l3:c.toNat <<< 8<4294967296:=by rw[Nat.shiftLeft_eq];omega
  rw[b0,b1,b2,b3,Jf (by omega),Jf (by omega),Jf (by omega),Jf (by omega),s1,s2,s3,QO l1 l2,QO (Nat.or_lt_two_pow (n:=32) l1 l2) l3,QO (Nat.or_lt_two_pow (n:=32) (Nat.or_lt_two_pow (n:=32) l1 l2) l3) (by omega),AaI ha hb hc hd]
  rfl
theorem DF (n:Nat):(SL n).length=4:=rfl
theorem CO (s:Ag):(CM s).length=s.length:=by simp[CM]
theorem S5 {F:Nat} (hF:262200<F) (b:Ag):OU F b=some (bif decide (262136<b.length) then([],3) else(Cc b,0)):=by
 unfold OU
 cases h:decide (262136<b.length) with
 | true=>rw[AA (AcI (by have:=AcM h;omega))];rfl
 | false=>
  have h':=Add h
  rw[Ay (AcG (by omega)),Jf (by omega),AG (OX _),AG (Ux (by omega) (by omega) (by omega)),AG (OX _)]
  rw[A1 (by rw[DF,DF];omega) (by rw[DF,DF];omega),A1 (by rw[AcK,DF,DF];omega) (by rw[AcK,DF,DF];omega)];rfl
theorem Vq {F:Nat} (hF:262200<F) (b:Ag):M9 F b=some (bif decide (262136<b.length) then([],3) else(Cc b,0)):=by
 unfold M9
 cases h:decide (262136<b.length) with
 | true=>rw[AA (AcI (by have:=AcM h;omega))];rfl
 | false=>
  have h':=Add h
  rw[Ay (AcG (by omega)),Jf (by omega),AG (MA _),AG (RR (by omega) (by omega) (by omega)),AG (MA _)]
  rw[Jn,Jn,A1 (by rw[DF,DF];omega) (by rw[DF,DF];omega),A1 (by rw[AcK,DF,DF];omega) (by rw[AcK,DF,DF];omega)];rfl
theorem UJ {n:Nat} (h:n<4294967296):IntKind.wrap .i64 (n:Int)=(n:Int):=by rw[IntKind.wrap_i64];omega
theorem Y9 (s:Ag) (n:Nat):List.take (Int.toNat (8+(n:Int))-Int.toNat 8) (List.drop (Int.toNat 8) s)=(s.drop 8).take n:=by
 rw[show Int.toNat (8+(n:Int))-Int.toNat 8=n from by omega];rfl
theorem Yu {F:Nat} (hF:262200<F) {s:Ag} (hs:s.length≤1000000000):S7 F s=some (Db s):=by
 unfold S7 Db
 cases h1:decide (s.length<8) with
 | true=>rw[AA (AcI (by have:=AcM h1;omega))];rfl
 | false=>
  have h1':=Add h1
  have hn:=QJ s
  rw[Ay (AcG (by omega)),AG (OV (by omega)),UJ hn]
  simp only[AcF]
  cases h2:decide (262136<DC s) with
  | true=>rw[AA (AcI (by have:=AcM h2;omega))];rfl
  | false=>
   have h2':=Add h2
   rw[Ay (AcG (by omega)),A1 (by omega) (by omega)]
   simp only[AcF]
   cases h3:decide (s.length-8<DC s) with
   | true=>rw[AA (AcI (by have:=AcM h3;omega))];rfl
   | false=>
    have h3':=Add h3
    rw[Ay (AcG (by omega)),A1 (by omega) (by omega),BS (by omega) (by omega),BS (by omega) (by omega),Y9]
    have hl:((s.drop 8).take (DC s)).length=DC s:=by simp;omega
    rw[AG (Ux (by omega) (by rw[hl];omega) (by rw[hl];omega)),BS (by omega) (by omega),AG (OV (by simp;omega))]
    simp only[AcF]
    rw[show decide (((Mq ((s.drop 8).take (DC s)):Nat):Int)=((DC (List.drop (Int.toNat 4) s):Nat):Int))=decide (Mq ((s.drop 8).take (DC s))=DC (s.drop 4)) from by rw[Bool.eq_iff_iff];simp only[AcC];exact Int.ofNat_inj]
    cases decide (Mq ((s.drop 8).take (DC s))=DC (s.drop 4)) with
    | true=>rfl
    | false=>rfl
theorem Vr {F:Nat} (hF:262200<F) {s:Ag} (hs:s.length≤1000000000):O2 F s=some (Db s):=by
 unfold O2 Db
 cases h1:decide (s.length<8) with
 | true=>rw[AA (AcI (by have:=AcM h1;omega))];rfl
 | false=>
  have h1':=Add h1
  match s,h1',hs with
  | a::b::c::d::r,h1',hs=>
   have ha:=a.toNat_lt
   have hb:=b.toNat_lt
   have hc:=c.toNat_lt
   have hd:=d.toNat_lt
   generalize hS:a::b::c::d::r=s at *
   have b0:AK s 0=(a.toNat:Int):=by rw[← hS];rfl
   have b1:AK s 1=(b.toNat:Int):=by rw[← hS];rfl
   have b2:AK s 2=(c.toNat:Int):=by rw[← hS];rfl
   have b3:AK s 3=(d.toNat:Int):=by rw[← hS];rfl
   have hn:DC s=((a.toNat*256+b.toNat)*256+c.toNat)*256+d.toNat:=by rw[← hS];rfl
   have hnI:((((((a.toNat:Int)*256)+(b.toNat:Int))*256)+(c.toNat:Int))*256)+(d.toNat:Int)=((DC s:Nat):Int):=by rw[hn];omega
   have hlt:=QJ s
   have hlt2:=QJ (s.drop 4)
   rw[Ay (AcG (by omega)),b0,b1,b2,b3]
   rw[AT (by omega) (by omega),A1 (by omega) (by omega),A1 (by omega) (by omega),AT (by omega) (by omega),A1 (by omega) (by omega),A1 (by omega) (by omega),A1 (by omega) (by omega),AT (by omega) (by omega),A1 (by omega) (by omega),A1 (by omega) (by omega),A1 (by omega) (by omega),AT (by omega) (by omega),A1 (by omega) (by omega),A1 (by omega) (by omega)]
   rw[hnI]
   simp only[AcF]
   cases h2:decide (262136<DC s) with
   | true=>rw[AA (AcI (by have:=AcM h2;omega))];rfl
   | false=>
    have h2':=Add h2
    rw[Ay (AcG (by omega)),A1 (by omega) (by omega)]
    simp only[AcF]
    cases h3:decide (s.length-8<DC s) with
    | true=>rw[AA (AcI (by have:=AcM h3;omega))];rfl
    | false=>
     have h3':=Add h3
     rw[Ay (AcG (by omega)),A1 (by omega) (by omega),BS (by omega) (by omega),BS (by omega) (by omega),Y9]
     have hl:((s.drop 8).take (DC s)).length=DC s:=by simp;omega
     rw[AG (RR (by omega) (by rw[hl];omega) (by rw[hl];omega)),AG (MA _),BS (by omega) (by omega),BS (by omega) (by omega),Jn]
     simp only[AcF]
     rw[show List.take (Int.toNat 8-Int.toNat 4) (List.drop (Int.toNat 4) s)=SL (DC (s.drop 4)) from(Pk (by simp;omega)).symm]
     rw[show decide (SL (Mq ((s.drop 8).take (DC s)))=SL (DC (s.drop 4)))=decide (Mq ((s.drop 8).take (DC s))=DC (s.drop 4)) from by
      rw[Bool.eq_iff_iff];simp only[AcC]
      constructor
      ·intro e
       have e1:=LT (U7 ((s.drop 8).take (DC s))) []
       have e2:=LT hlt2 []
       rw[e] at e1
       exact e1.symm.trans e2
      ·intro e;rw[e]]
     cases decide (Mq ((s.drop 8).take (DC s))=DC (s.drop 4)) with
     | true=>rfl
     | false=>rfl
  | [],h1',_=>exact absurd (by simp) h1'
  | [_],h1',_=>exact absurd (by simp) h1'
  | [_,_],h1',_=>exact absurd (by simp) h1'
  | [_,_,_],h1',_=>exact absurd (by simp) h1'
theorem KY {O:Type} (s:Ag) (b:List Ag×Int→Option (Stp (List Ag×Int) O)) (e:List Ag→Int→O)
  (hb:∀(acc:List Ag) (x:Nat),x≤s.length→acc.length≤x→b (acc,(x:Int))=bif decide ((Db (s.drop x)).2.2=0) then some (.next (acc++[(Db (s.drop x)).1],(x:Int)+(Db (s.drop x)).2.1)) else some (.out (e acc (x:Int)))) :
  ∀(n m:Nat) (acc:List Ag) (x:Nat),x≤s.length→acc.length≤x→s.length-x≤n→n<m→BF b m (acc,(x:Int))=some (e (acc++(B8 n (s.drop x)).1) ((x+(B8 n (s.drop x)).2:Nat):Int))
 | n,0,acc,x,hx,ha,hn,hm=>by omega
 | n,m+1,acc,x,hx,ha,hn,hm=>by
  rw[BF,hb acc x hx ha]
  cases h:decide ((Db (s.drop x)).2.2=0) with
  | false=>
   have:B8 n (s.drop x)=([],0):=by
    cases n with
    | zero=>rfl
    | succ n=>rw[B8,h];rfl
   rw[this]
   simp only[AcF,Adg,Nat.add_zero]
  | true=>
   obtain⟨h1,h2,h3⟩:=LP (AcM h)
   have hl:=congrArg List.length h3
   rw[AcK,DH,Adv] at hl
   cases n with
   | zero=>omega
   | succ n=>
    rw[B8,h]
    simp only[AcJ]
    rw[h2,show(((8+(Db (s.drop x)).1.length:Nat):Int)).toNat=8+(Db (s.drop x)).1.length from by omega,Adx]
    rw[show(x:Int)+((8+(Db (s.drop x)).1.length:Nat):Int)=((x+(8+(Db (s.drop x)).1.length):Nat):Int) from by omega]
    rw[KY s b e hb n m _ (x+(8+(Db (s.drop x)).1.length)) (by omega) (by rw[AcK,List.length_singleton];omega) (by omega) (by omega)]
    rw[Adb,Nat.add_assoc x];rfl
theorem VU {F:Nat} (hF:262200<F) {s:Ag} (hs:s.length<F) (hl:s.length≤999999999):OT F s=some ((B8 s.length s).1,((B8 s.length s).2:Int)):=by
 unfold OT
 have:=KY s (λσ=>GM F s σ.1 σ.2) (λa x=>.go (a,x)) (λacc x hx ha=>by
  show GM F s acc (x:Int)=_
  unfold GM
  rw[Int.toNat_natCast]
  by_cases hx2:x<s.length
  ·rw[AA (AcI (by omega)),BS (by omega) (by omega),AG (Yu hF (by simp;omega))]
   cases h:decide ((Db (s.drop x)).2.2=0) with
   | false=>rfl
   | true=>
    obtain⟨h1,h2,h3⟩:=LP (AcM h)
    rw[Ay (p:=!true) rfl,GN (by simp;omega),A1 (by omega) (by omega)];rfl
  ·have:s.drop x=[]:=List.drop_eq_nil_of_le (by omega)
   rw[Ay (AcG (by omega)),this,RZ];rfl) s.length F [] 0 (by omega) (by simp) (by omega) hs
 rw[show(([]:List Ag),(0:Int))=([],((0:Nat):Int)) from rfl,AG this,CE]
 unfold IV
 rw[BS (by omega) (Ade _),Int.toNat_natCast,Adw,List.drop_zero,Adh,Nat.zero_add]
theorem Tq {F:Nat} (hF:262200<F) {s:Ag} (hs:s.length<F) (hl:s.length≤999999999):LG F s=some ((B8 s.length s).1,((B8 s.length s).2:Int)):=by
 unfold LG
 have:=KY s (λσ=>Ga F s σ.1 σ.2) (λa x=>.ret (a,x)) (λacc x hx ha=>by
  show Ga F s acc (x:Int)=_
  unfold Ga
  rw[Int.toNat_natCast,BS (by omega) (by omega),AG (Vr hF (by simp;omega))]
  cases h:decide ((Db (s.drop x)).2.2=0) with
  | false=>rfl
  | true=>
   obtain⟨h1,h2,h3⟩:=LP (AcM h)
   rw[Ay (p:=!true) rfl,GN (by simp;omega),A1 (by omega) (by omega)];rfl) s.length F [] 0 (by omega) (by simp) (by omega) hs
 rw[show(([]:List Ag),(0:Int))=([],((0:Nat):Int)) from rfl,AG this,LO,List.drop_zero,Adh,Nat.zero_add]
theorem OW {F:Nat} (hF:262200<F) (l:List Ag) (hl:l.length≤1000000000):∀(r:List Ag) (n i:Nat) (acc:Ag),l.drop i=r→i≤l.length→r.length<n→acc.length≤262144→
  Bn (BF (λσ:List Int×Int=>G4 F l σ.1 σ.2) n (CM acc,(i:Int))) (B6 λν=>JX ν)=some (bif decide ((acc++r.flatMap Cc).length≤262144) then(acc++r.flatMap Cc,0) else([],3))
 | [],n,i,acc,h,hi,hn,ha=>by
  obtain⟨n,rfl⟩:∃m,n=m+1:=⟨n-1,by simp at hn;omega⟩
  have:l.length≤i:=by simpa using h
  have hb:G4 F l (CM acc) (i:Int)=some (.out (.go (CM acc))):=by
   unfold G4;rw[Ay (AcG (by omega))]
  rw[BF,hb,List.flatMap_nil,Adg,AcI ha]
  show some (Id (CM acc),0)=_
  rw[Jn];rfl
 | c::r,n,i,acc,h,hi,hn,ha=>by
  obtain⟨n,rfl⟩:∃m,n=m+1:=⟨n-1,by simp at hn;omega⟩
  obtain⟨hat,hlt,hd⟩:=D8 h
  have hs:=DH c
  have hlen:(acc++(c::r).flatMap Cc).length=acc.length+(8+c.length)+(r.flatMap Cc).length:=by
   rw[Adr,AcK,AcK,hs];omega
  have hb:G4 F l (CM acc) (i:Int)=bif decide (acc.length+(8+c.length)≤262144) then some (.next (CM (acc++Cc c),((i+1:Nat):Int))) else some (.out (.ret ([],3))):=by
   unfold G4
   rw[AA (AcI (by omega)),AT (by omega) (by omega),hat]
   cases h1:decide (262136<c.length) with
   | true=>
    have hsl:OU F c=some ([],3):=by rw[S5 hF c,h1];rfl
    rw[AG hsl,AcG (p:=acc.length+(8+c.length)≤262144) (by have:=AcM h1;omega)];rfl
   | false=>
    have h1':=Add h1
    have hsl:OU F c=some (Cc c,0):=by rw[S5 hF c,h1];rfl
    have hk:Bl .i64 (((CM acc).length:Int)+((Cc c).length:Int))=true:=EP (by rw[CO,hs];omega) (by rw[CO,hs];omega)
    rw[AG hsl,B3 (by rw[hk];exact T3 _)]
    cases h2:decide (acc.length+(8+c.length)≤262144) with
    | false=>
     have h2':=Add h2
     have hx:decide ((262144:Int)<((CM acc).length:Int)+((Cc c).length:Int))=true:=AcI (by rw[CO,hs];omega)
     rw[AA (by rw[hx,Ada])];rfl
    | true=>
     have h2':=AcM h2
     have hx:decide ((262144:Int)<((CM acc).length:Int)+((Cc c).length:Int))=false:=AcG (by rw[CO,hs];omega)
     rw[Ay (by rw[hx];rfl),ES (by rw[CO,hs];omega),A1 (by omega) (by omega),Qx];rfl
  rw[BF,hb]
  cases h2:decide (acc.length+(8+c.length)≤262144) with
  | false=>
   have h2':=Add h2
   rw[AcG (p:=(acc++(c::r).flatMap Cc).length≤262144) (by rw[hlen];omega)];rfl
  | true=>
   have h2':=AcM h2
   have:=OW hF l hl r n (i+1) (acc++Cc c) hd (by omega) (by simp at hn;omega) (by rw[AcK,hs];omega)
   simp only[AcJ]
   rw[this,Adr,Adb]
theorem Yv {F:Nat} (hF:262200<F) {l:List Ag} (hl:l.length<F) (hb:l.length≤1000000000):S8 F l=some (Qb l):=by
 unfold S8
 have:=OW hF l hb l F 0 [] rfl (by omega) hl (by simp)
 rw[Adh] at this
 exact this
theorem LH {F:Nat} (hF:262200<F) (l:List Ag) (hb:∀b∈l,b.length≤262136) (hl:l.length≤1000000000):∀(r:List Ag) (n i:Nat) (acc:Ag),l.drop i=r→i≤l.length→r.length<n→(acc++r.flatMap Cc).length≤262144→
  Bn (BF (λσ:List Int×Int=>EC F l σ.1 σ.2) n (CM acc,(i:Int))) (B6 λν=>IM ν)=some (acc++r.flatMap Cc,0)
 | [],n,i,acc,h,hi,hn,ha=>by
  obtain⟨n,rfl⟩:∃m,n=m+1:=⟨n-1,by simp at hn;omega⟩
  have:l.length≤i:=by simpa using h
  have hb:EC F l (CM acc) (i:Int)=some (.out (.go (CM acc))):=by
   unfold EC;rw[Ay (AcG (by omega))]
  rw[BF,hb,List.flatMap_nil,Adg]
  show some (Id (CM acc),0)=_
  rw[Jn]
 | c::r,n,i,acc,h,hi,hn,ha=>by
  obtain⟨n,rfl⟩:∃m,n=m+1:=⟨n-1,by simp at hn;omega⟩
  obtain⟨hat,hlt,hd⟩:=D8 h
  have hs:=DH c
  have hc:c.length≤262136:=hb c (Adu (i:=i) (by rw[h];simp))
  have hlen:(acc++(c::r).flatMap Cc).length=acc.length+(8+c.length)+(r.flatMap Cc).length:=by
   rw[Adr,AcK,AcK,hs];omega
  rw[hlen] at ha
  have hbd:EC F l (CM acc) (i:Int)=some (.next (CM (acc++Cc c),((i+1:Nat):Int))):=by
   unfold EC
   rw[AA (AcI (by omega)),AT (by omega) (by omega),hat]
   have hsl:M9 F c=some (Cc c,0):=by rw[Vq hF c,AcG (p:=262136<c.length) (by omega)];rfl
   rw[AG hsl,ES (by rw[CO,hs];omega),A1 (by omega) (by omega),Qx];rfl
  rw[BF,hbd]
  have:=LH hF l hb hl r n (i+1) (acc++Cc c) hd (by omega) (by simp at hn;omega) (by rw[AcK,AcK,hs];omega)
  simp only
  rw[this,Adr,Adb]
theorem LI {F:Nat} (l:List Ag) (K:Int→Option (Ag×Int)) (hl:l.length≤1000000000):∀(r:List Ag) (n i z:Nat),l.drop i=r→i≤l.length→r.length<n→z≤262144→
  Bn (BF (λσ:Int×Int=>ED l σ.1 σ.2) n ((z:Int),(i:Int))) (B6 λν=>K ν)=bif decide (z+(r.flatMap Cc).length≤262144) then K ((z+(r.flatMap Cc).length:Nat):Int) else some ([],3)
 | [],n,i,z,h,hi,hn,hz=>by
  obtain⟨n,rfl⟩:∃m,n=m+1:=⟨n-1,by simp at hn;omega⟩
  have:l.length≤i:=by simpa using h
  have hb:ED l (z:Int) (i:Int)=some (.out (.go (z:Int))):=by
   unfold ED;rw[Ay (AcG (by omega))]
  rw[BF,hb,List.flatMap_nil,Adp,Nat.add_zero,AcI hz];rfl
 | c::r,n,i,z,h,hi,hn,hz=>by
  obtain⟨n,rfl⟩:∃m,n=m+1:=⟨n-1,by simp at hn;omega⟩
  obtain⟨hat,hlt,hd⟩:=D8 h
  have hlen:z+((c::r).flatMap Cc).length=z+(8+c.length)+(r.flatMap Cc).length:=by
   rw[Adr,AcK,DH];omega
  have hb:ED l (z:Int) (i:Int)=bif decide (z+(8+c.length)≤262144) then some (.next (((z+(8+c.length):Nat):Int),((i+1:Nat):Int))) else some (.out (.ret ([],3))):=by
   unfold ED
   rw[AA (AcI (by omega)),AT (by omega) (by omega),hat]
   cases h1:decide (262136<c.length) with
   | true=>
    have h1':=AcM h1
    rw[AcI (p:=(262136:Int)<(c.length:Int)) (by omega),AcG (p:=z+(8+c.length)≤262144) (by omega)];rfl
   | false=>
    have h1':=Add h1
    have hk1:Bl .i64 ((z:Int)+8)=true:=EP (by omega) (by omega)
    have hk2:Bl .i64 ((z:Int)+8+(c.length:Int))=true:=EP (by omega) (by omega)
    rw[AcG (p:=(262136:Int)<(c.length:Int)) (by omega),B3 (by rw[hk1];exact T3 _),B3 (by rw[hk2];exact T3 _)]
    cases h2:decide (z+(8+c.length)≤262144) with
    | false=>
     have h2':=Add h2
     rw[AA (by rw[AcI (p:=(262144:Int)<_) (by omega)];rfl)];rfl
    | true=>
     have h2':=AcM h2
     rw[Ay (by rw[AcG (p:=(262144:Int)<_) (by omega)];rfl),A1 (by omega) (by omega),A1 (by omega) (by omega),A1 (by omega) (by omega)]
     rw[show(z:Int)+8+(c.length:Int)=((z+(8+c.length):Nat):Int) from by omega];rfl
  rw[BF,hb,hlen]
  cases h2:decide (z+(8+c.length)≤262144) with
  | false=>
   have h2':=Add h2
   rw[AcG (p:=z+(8+c.length)+(r.flatMap Cc).length≤262144) (by omega)];rfl
  | true=>
   have h2':=AcM h2
   simp only[AcJ]
   exact LI (F:=F) l K hl r n (i+1) (z+(8+c.length)) hd (by omega) (by simp at hn;omega) h2'
theorem Vs {F:Nat} (hF:262200<F) {l:List Ag} (hl:l.length<F) (hb:l.length≤1000000000):O3 F l=some (Qb l):=by
 unfold O3
 have:=LI (F:=F) l (H9 F l) hb l F 0 0 rfl (by omega) hl (by omega)
 rw[Nat.zero_add] at this
 refine Eq.trans this ?_
 unfold Qb
 cases h:decide ((l.flatMap Cc).length≤262144) with
 | false=>rfl
 | true=>
  have h':=AcM h
  simp only[AcJ]
  unfold H9
  rw[Int.toNat_natCast,ES (by omega),B3 (AcI (by omega))]
  have:=LH hF l (λb hb=>by have:=KQ l b hb;omega) hb l F 0 [] rfl (by omega) hl (by rw[Adh];exact h')
  rw[Adh] at this
  exact this
theorem Qy:∀a:Ag,Ci a a=false
 | []=>rfl
 | x::a=>by
  show Op.bytesLess (x::a) (x::a)=false
  have h : ¬ x<x:=λh=>absurd h (by simp)
  have ih:Op.bytesLess a a=false:=Qy a
  simp[Op.bytesLess,h,ih]
theorem Qz (x y:UInt8) (a b:Ag):Ci (x::a) (y::b)=(decide (x<y)||(decide (x=y)&&Ci a b)):=by
 show Op.bytesLess (x::a) (y::b)=_
 simp only[Op.bytesLess]
 by_cases h:x<y
 ·simp[h]
 ·by_cases e:x=y
  ·subst e;simp[h]
  ·have:y<x:=by
    rcases Nat.lt_trichotomy x.toNat y.toNat with h1 | h1 | h1
    ·exact absurd (UInt8.lt_iff_toNat_lt.2 h1) h
    ·exact absurd (UInt8.toNat_inj.1 h1) e
    ·exact UInt8.lt_iff_toNat_lt.2 h1
   simp[h,e,this]
theorem Ou:∀{a b c:Ag},Ci a b=true→Ci b c=true→Ci a c=true
 | [],[],_,h,_=>by cases h
 | [],_::_,[],_,h=>by cases h
 | [],_::_,_::_,_,_=>rfl
 | _::_,[],_,h,_=>by cases h
 | _::_,_::_,[],_,h=>by cases h
 | x::a,y::b,z::c,h,h'=>by
  rw[Qz] at h h' ⊢
  simp only[Adi,AcC,AcH] at h h' ⊢
  have t:∀{u v:UInt8},u<v↔u.toNat<v.toNat:=UInt8.lt_iff_toNat_lt
  rcases h with h | ⟨rfl,h⟩
  ·rcases h' with h' | ⟨rfl,h'⟩
   ·exact .inl (t.2 (Nat.lt_trans (t.1 h) (t.1 h')))
   ·exact .inl h
  ·rcases h' with h' | ⟨rfl,h'⟩
   ·exact .inl h'
   ·exact .inr ⟨rfl,Ou h h'⟩
theorem R7:∀(a b:Ag),Ci a b=true∨a=b∨Ci b a=true
 | [],[]=>.inr (.inl rfl)
 | [],_::_=>.inl rfl
 | _::_,[]=>.inr (.inr rfl)
 | x::a,y::b=>by
  rw[Qz,Qz]
  simp only[Adi,AcC,AcH]
  rcases Nat.lt_trichotomy x.toNat y.toNat with h1 | h1 | h1
  ·exact .inl (.inl (UInt8.lt_iff_toNat_lt.2 h1))
  ·have e:=UInt8.toNat_inj.1 h1
   subst e
   rcases R7 a b with h | rfl | h
   ·exact .inl (.inr ⟨rfl,h⟩)
   ·exact .inr (.inl rfl)
   ·exact .inr (.inr (.inr ⟨rfl,h⟩))
  ·exact .inr (.inr (.inl (UInt8.lt_iff_toNat_lt.2 h1)))
section
variable {T : Type}
def Ms (xs:List (Ag×T)):Prop:=xs.Pairwise λp q=>Ci p.1 q.1=true
theorem Ms.nil:Ms ([]:List (Ag×T)):=List.Pairwise.nil
theorem LV {xs:List (Ag×T)} {k:Ag}:CZ xs k=none↔∀p∈xs,p.1≠k:=by
 induction xs with
 | nil=>simp[CZ]
 | cons p r ih=>
  rw[CZ]
  by_cases h:p.1=k
  ·rw[AcI h];simp[h]
  ·rw[AcG h];simp[h,ih]
theorem I0 {xs:List (Ag×T)} {k:Ag} {v:T} (h:CZ xs k=some v):(k,v)∈xs:=by
 induction xs with
 | nil=>cases h
 | cons p r ih=>
  rw[CZ] at h
  by_cases e:p.1=k
  ·rw[AcI e] at h;cases h;subst e;exact List.mem_cons_self ..
  ·rw[AcG e] at h;exact List.mem_cons_of_mem _ (ih h)
theorem OC {k:Ag} {v:T} {q:Ag×T}:∀{xs:List (Ag×T)},q∈mins k v xs→q=(k,v)∨q∈xs
 | [],h=>by simp[mins] at h;exact .inl h
 | p::r,h=>by
  rw[mins] at h
  cases hs:Ci k p.1 with
  | true=>rw[hs] at h;simpa using h
  | false=>
   rw[hs] at h
   rcases List.mem_cons.1 h with h | h
   ·exact .inr (by rw[h];exact List.mem_cons_self ..)
   ·rcases OC h with h | h
    ·exact .inl h
    ·exact .inr (List.mem_cons_of_mem _ h)
theorem Ms.mins {k:Ag} {v:T}:∀{xs:List (Ag×T)},Ms xs→CZ xs k=none→Ms (mins k v xs)
 | [],_,_=>List.pairwise_singleton ..
 | p::r,h,hk=>by
  obtain⟨h1,h2⟩:=List.pairwise_cons.1 h
  rw[CZ] at hk
  by_cases e:p.1=k
  ·rw[AcI e] at hk;cases hk
  ·rw[AcG e] at hk
   rw[Proofs.YtjfnokmpfekniaaGreatDoor.mins]
   cases hs:Ci k p.1 with
   | true=>exact List.pairwise_cons.2 ⟨λq hq=>by
     rcases List.mem_cons.1 hq with rfl | hq
     ·exact hs
     ·exact Ou hs (h1 q hq),h⟩
   | false=>
    have hp:Ci p.1 k=true:=by
     rcases R7 p.1 k with h | h | h
     ·exact h
     ·exact absurd h e
     ·rw[h] at hs;cases hs
    exact List.pairwise_cons.2 ⟨λq hq=>by
     rcases OC hq with rfl | hq
     ·exact hp
     ·exact h1 q hq,Ms.mins h2 hk⟩
theorem Ms.mput {xs:List (Ag×T)} (h:Ms xs) (k:Ag) (v:T):Ms (mput xs k v):=by
 unfold Proofs.YtjfnokmpfekniaaGreatDoor.mput
 unfold Ms
 rw[List.pairwise_map]
 refine h.imp fun {p q} hpq=>?_
 have e:∀p:Ag×T,(bif decide (p.1=k) then(k,v) else p).1=p.1:=λp=>by
  by_cases hp:p.1=k
  ·rw[AcI hp];exact hp.symm
  ·rw[AcG hp];rfl
 rw[e,e];exact hpq
theorem Ms.mset {xs:List (Ag×T)} (h:Ms xs) (k:Ag) (v:T):Ms (mset xs k v):=by
 unfold Proofs.YtjfnokmpfekniaaGreatDoor.mset IR
 cases hk:CZ xs k with
 | none=>exact h.mins hk
 | some w=>exact h.mput k v
theorem Ms.mdel {xs:List (Ag×T)} (h:Ms xs) (k:Ag):Ms (mdel xs k):=h.sublist (List.filter_sublist ..)
theorem Ms.ext:∀{xs ys:List (Ag×T)},Ms xs→Ms ys→(∀k,CZ xs k=CZ ys k)→xs=ys
 | [],[],_,_,_=>rfl
 | [],q::s,_,_,h=>by
  have:=h q.1
  rw[CZ,CZ,AcI rfl] at this;cases this
 | p::r,[],_,_,h=>by
  have:=h p.1
  rw[CZ,CZ,AcI rfl] at this;cases this
 | p::r,q::s,hx,hy,h=>by
  obtain⟨x1,x2⟩:=List.pairwise_cons.1 hx
  obtain⟨y1,y2⟩:=List.pairwise_cons.1 hy
  have hpq:p.1=q.1:=by
   have a1:=h p.1
   have a2:=h q.1
   rw[CZ,AcI rfl] at a1
   rw[show CZ (q::s) q.1=bif decide (q.1=q.1) then some q.2 else CZ s q.1 from rfl,AcI rfl] at a2
   simp only[AcJ] at a1 a2
   have m1:=I0 a1.symm
   have m2:=I0 a2
   rcases List.mem_cons.1 m1 with e | m1
   ·exact congrArg Prod.fst e
   ·rcases List.mem_cons.1 m2 with e | m2
    ·exact(congrArg Prod.fst e).symm
    ·have c1:=y1 _ m1
     have c2:=x1 _ m2
     have:=Ou c1 c2
     rw[Qy] at this;cases this
  have e:p=q:=by
   have a1:=h p.1
   rw[CZ,AcI rfl,CZ,AcI hpq.symm] at a1
   simp only[AcJ,Option.some.injEq] at a1
   exact Prod.ext hpq a1
  subst e
  rw[Ms.ext x2 y2 λk=>by
   have a1:=h k
   rw[CZ,CZ] at a1
   by_cases e:p.1=k
   ·have n1:CZ r k=none:=LV.2 λz hz e'=>by have:=x1 z hz;rw[e',← e,Qy] at this;cases this
    have n2:CZ s k=none:=LV.2 λz hz e'=>by have:=y1 z hz;rw[e',← e,Qy] at this;cases this
    rw[n1,n2]
   ·rw[AcG e] at a1;exact a1]
end
section
variable {T : Type}
def apF (del:T→Bool) (xs:List (Ag×T)) (p:Ag×T):List (Ag×T):=bif del p.2 then mdel xs p.1 else mset xs p.1 p.2
theorem Abs {del:T→Bool} {xs:List (Ag×T)} (h:Ms xs) (p:Ag×T):Ms (apF del xs p):=by
 unfold apF
 cases del p.2 with
 | true=>exact h.mdel _
 | false=>exact h.mset _ _
theorem UA {del:T→Bool}:∀(ord:List (Ag×T)) {xs:List (Ag×T)},Ms xs→Ms (ord.foldl (apF del) xs)
 | [],_,h=>h
 | p::r,_,h=>UA r (Abs h p)
end
theorem Aaq {R V:Type} (K:V→Option R) (v:V):B6 K (.go v)=K v:=rfl
theorem AaH {R V:Type} (K:V→Option R) (r:R):B6 K (.ret r)=some r:=rfl
theorem JR {α R U:Type} [Inhabited α] (l:List α) (P:α→Prop) (B:R→Prop) (u:U) (body:Int→Option (Stp Int (Out R U)))
  (h1:∀(x:Int) (c:α),0≤x→x<(l.length:Int)→c∈l→Am l x=c→(body x=some (.next (x+1))∧P c)∨∃q,body x=some (.out (.ret q))∧B q)
  (h2:body (l.length:Int)=some (.out (.go u))) {F:Nat} (hF:l.length<F) :
  ∃o,BF body F 0=some o∧((∃q,o = .ret q∧B q)∨(o = .go u∧∀c∈l,P c)):=by
 refine Ik (λx=>0≤x∧x≤(l.length:Int)∧∀c∈l.take x.toNat,P c) (λx=>l.length-x.toNat) _ (λx ⟨h0,hl,ha⟩=>?_) F 0 ⟨Ade 0,by omega,by simp⟩ (by show l.length-0<F;omega)
 by_cases hx:x<(l.length:Int)
 ·obtain⟨c,hc⟩:∃c,l[x.toNat]? =some c:=⟨l[x.toNat]'(by omega),List.getElem?_eq_getElem (by omega)⟩
  have hat:Am l x=c:=by simp[Am,hc]
  rcases h1 x c h0 hx (AcU hc) hat with⟨hb,hp⟩ | ⟨q,hb,hq⟩
  ·refine .inl ⟨x+1,hb,⟨by omega,by omega,λd hd=>?_⟩,by omega⟩
   rw[show(x+1).toNat=x.toNat+1 from by omega,List.take_add_one,hc] at hd
   simp only[Option.toList_some,List.mem_append,Ady,List.not_mem_nil,or_false] at hd
   rcases hd with hd | rfl
   ·exact ha d hd
   ·exact hp
  ·exact .inr ⟨.ret q,hb,.inl ⟨q,rfl,hq⟩⟩
 ·have e:x=(l.length:Int):=by omega
  subst e
  refine .inr ⟨.go u,h2,.inr ⟨rfl,λc hc=>ha c ?_⟩⟩
  rw[show((l.length:Int)).toNat=l.length from by omega,Adw];exact hc
structure SmC (c:Ah):Prop where
 key:c.fKey.length≤300
 val:c.fValue.length≤300
 cells:∀x∈c.fValue,x.fStr.length≤5000
structure SmP (l:List Ah):Prop where
 len:l.length≤300
 all:∀c∈l,SmC c
theorem XO {F:Nat} (hF:5000<F) (l:List Ah):∃b,Jq F l=some b∧(b=true→SmP l):=by
 unfold Jq
 by_cases hl:(300:Int)<(l.length:Int)
 ·rw[AA (AcI hl)]
  exact⟨false,rfl,λh=>by cases h⟩
 ·rw[Ay (AcG hl)]
  obtain⟨o,h1,h2⟩:=JR l SmC (λq=>q=false) () (λσ=>D2 F l σ) (λx c h0 hx hc hat=>by
   by_cases hk:(300:Int)<(c.fKey.length:Int)∨(300:Int)<(c.fValue.length:Int)
   ·refine .inr ⟨false,?_,rfl⟩
    show D2 F l x=_
    unfold D2
    rw[AA (AcI hx),AT h0 hx,hat,AA (by simpa using hk)]
   ·obtain⟨o,g1,g2⟩:=JR c.fValue (λy=>y.fStr.length≤5000) (λq=>q = .out (.ret false)) (((c.fValue.length:Int)),decide ((c.fValue.length:Int)<(c.fValue.length:Int))) (λσ=>DM l x σ) (λy d y0 yx yc yat=>by
     by_cases hd:(5000:Int)<(d.fStr.length:Int)
     ·refine .inr ⟨_,?_,rfl⟩
      show DM l x y=_
      unfold DM
      rw[hat,AA (AcI yx),AT y0 yx,yat,AA (AcI hd)]
     ·refine .inl ⟨?_,by omega⟩
      show DM l x y=_
      unfold DM
      rw[hat,AA (AcI yx),AT y0 yx,yat,Ay (AcG hd),A1 (by omega) (by omega)]) (by
     show DM l x _=_
     unfold DM
     rw[hat,Ay (AcG (by omega))]) (F:=F) (by omega)
    have hb:D2 F l x=Bn (some o) (B6 λν=>HA x ν.1 ν.2):=by
     unfold D2
     rw[AA (AcI hx),AT h0 hx,g1,hat,Ay (by simpa using hk)]
    rcases g2 with⟨q,rfl,rfl⟩ | ⟨rfl,g⟩
    ·exact .inr ⟨false,hb,rfl⟩
    ·refine .inl ⟨?_,⟨by omega,by omega,g⟩⟩
     show D2 F l x=_
     rw[hb,AG rfl,Aaq]
     unfold HA
     rw[A1 (by omega) (by omega)]) (by
   show D2 F l _=_
   unfold D2
   rw[Ay (AcG (by omega))]) (F:=F) (by omega)
  rw[AG h1]
  rcases h2 with⟨q,rfl,rfl⟩ | ⟨rfl,h⟩
  ·exact⟨false,rfl,λh=>by cases h⟩
  ·exact⟨true,rfl,λ_=>⟨by omega,h⟩⟩
structure OkC (c:Ah):Prop where
 iv : -9223372036854775808≤c.fIfVersion∧c.fIfVersion≤9223372036854775807
 cells:∀x∈c.fValue,Bl .i64 x.fInt=true∧x.fN≤9223372036854775807
def zI:AE:=⟨[],[],0⟩
theorem Sl {T:Type} {xs:List (Ag×T)} {k:Ag} {v:T} {p:Ag×T} (h:p∈mset xs k v):p=(k,v)∨p∈xs:=by
 unfold mset at h
 cases hh:IR xs k with
 | false=>rw[hh] at h;exact OC h
 | true=>
  rw[hh] at h
  obtain⟨q,hq,e⟩:=List.mem_map.1 h
  cases hk:decide (q.1=k) with
  | true=>rw[hk] at e;exact .inl e.symm
  | false=>rw[hk] at e;exact .inr (e▸hq)
theorem XD {T:Type} {xs:List (Ag×T)} {k:Ag} {p:Ag×T} (h:p∈mdel xs k):p∈xs:=(List.mem_filter.1 h).1
theorem ZA {T:Type} {del:T→Bool} {xs:List (Ag×T)} {q p:Ag×T} (h:p∈apF del xs q):p∈xs∨(p=q∧del p.2=false):=by
 unfold apF at h
 cases hd:del q.2 with
 | true=>rw[hd] at h;exact .inl (XD h)
 | false=>
  rw[hd] at h
  rcases Sl h with e | h
  ·exact .inr ⟨e,by rw[e];exact hd⟩
  ·exact .inl h
theorem LX {T:Type} {del:T→Bool} {p:Ag×T}:∀{ord xs:List (Ag×T)},p∈ord.foldl (apF del) xs→p∈xs∨(p∈ord∧del p.2=false)
 | [],xs,h=>.inl h
 | q::r,xs,h=>by
  rcases LX (ord:=r) h with h | ⟨h,h'⟩
  ·rcases ZA h with h2 | ⟨h2,h3⟩
   ·exact .inl h2
   ·exact .inr ⟨by rw[h2];exact List.mem_cons_self ..,h3⟩
  ·exact .inr ⟨List.mem_cons_of_mem _ h,h'⟩
structure YP (xs:List (Ag×AE)):Prop where
 ms:Ms xs
 ok:∀p∈xs,0≤p.2.fVersion∧p.2.fVersion≤1000000000000∧p.2.fValue.length≤300
theorem YP.nil:YP []:=⟨Ms.nil,λ_ h=>by cases h⟩
theorem YP.set {xs:List (Ag×AE)} (h:YP xs) {k:Ag} {v:AE} (hv:0≤v.fVersion∧v.fVersion≤1000000000000∧v.fValue.length≤300):YP (mset xs k v):=
 ⟨h.ms.mset k v,λp hp=>by
  rcases Sl hp with rfl | hp
  ·exact hv
  ·exact h.ok p hp⟩
theorem Ab8:0≤zI.fVersion∧zI.fVersion≤1000000000000∧zI.fValue.length≤300:=by decide
theorem YP.get {xs:List (Ag×AE)} (h:YP xs) (k:Ag):0≤((CZ xs k).getD zI).fVersion∧((CZ xs k).getD zI).fVersion≤1000000000000∧((CZ xs k).getD zI).fValue.length≤300:=by
 cases e:CZ xs k with
 | none=>exact Ab8
 | some v=>exact h.ok _ (I0 e)
def Abn (x:AE):Bool:=decide (x.fVersion=0)
structure QOk (q:Bs) (n:Nat):Prop where
 ok:YP q.fItems
 pos:∀p∈q.fItems,1≤p.2.fVersion
 len:q.fItems.length≤n
theorem QE {α:Type} [Inhabited α] (a:α):ov (some a)=a:=rfl
theorem AaF:∀a b d e f g h i j:Bool,(Bn (some a) λha=>Bd ha (some true) (Bd d (Bd e (some true) (Bn (some b) λhb=>Bd hb (some true) (Bd f (some true) (Bd g (some true) (Bd h (some true) (Bd i (some true) (some j))))))) (Bn (some b) λhd=>Bd hd (some true) (Bd f (some true) (Bd g (some true) (Bd h (some true) (Bd i (some true) (some j))))))))=some (a||b||(d&&e)||f||g||h||i||j):=by decide
theorem VM (c:Int):QR c=some (D6 c):=AaF (decide (97≤c)&&decide (c≤122)) (decide (48≤c)&&decide (c≤57)) (decide (65≤c)) (decide (c≤90)) (decide (c=45)) (decide (c=95)) (decide (c=46)) (decide (c=58)) (decide (c=47))
theorem Ny:∀(s:Ag) (k:Nat),Bt MJ k s=s.all λu=>D6 u.toNat
 | [],k=>rfl
 | u::r,k=>by rw[Bt,Ny r (k+1),Adm];rfl
theorem ZQ {F:Nat} (hF:64<F) (s:Ag):Yb F s=some (S0 s):=by
 unfold Yb S0
 rw[Ny]
 by_cases hl:(s.length:Int)<1∨(64:Int)<(s.length:Int)
 ·rw[AA (by simpa using hl)]
  have:(decide (1≤s.length)&&decide (s.length≤64))=false:=by
   simp only[Adk,AcD];omega
  rw[Bool.and_assoc,this,AcV]
 ·rw[Ay (by simpa using hl)]
  have hb:(decide (1≤s.length)&&decide (s.length≤64))=true:=by
   simp only[AcH,AcC];omega
  rw[Bool.and_assoc,hb,AcR]
  obtain⟨o,h1,h2⟩:=JR s (λu=>D6 u.toNat=true) (λq=>q=false∧(s.all λu=>D6 u.toNat)=false) () (λσ=>H0 s σ) (λx c h0 hx hc hat=>by
   have hb:AK s x=(c.toNat:Int):=by rw[← hat];rfl
   have e:H0 s x=Bd (!D6 c.toNat) (some (.out (.ret false))) (some (.next (x+1))):=by
    unfold H0
    rw[AA (AcI hx),AT h0 hx,hb,VM,AG rfl,A1 (by omega) (by omega)]
   cases hL:D6 c.toNat with
   | true=>exact .inl ⟨by rw[hL] at e;exact e,rfl⟩
   | false=>exact .inr ⟨false,by rw[hL] at e;exact e,rfl,List.all_eq_false.2 ⟨c,hc,by simp[hL]⟩⟩) (by
   show H0 s _=_
   unfold H0
   rw[Ay (AcG (by omega))]) (F:=F) (by omega)
  rw[AG h1]
  rcases h2 with⟨q,rfl,rfl,ha⟩ | ⟨rfl,h⟩
  ·rw[AaH,ha]
  ·rw[Aaq,List.all_eq_true.2 h];rfl
section
variable {T : Type}
def pos:List (Ag×T)→Ag→Nat
 | [],_=>0
 | p::r,k=>bif Ci p.1 k then pos r k+1 else 0
end
def its (xs:List (Ag×AE)):List AE:=xs.map (·.2)
def Aa2 (xs:List (Ag×AE)):Prop:=∀p∈xs,p.2.fKey=p.1
def eff (q:Bs):List (Ag×AE):=q.fChanged.foldl (apF Abn) q.fItems
structure WOk (q:Bs):Prop where
 it:YP q.fItems
 ch:YP q.fChanged
 ipos:∀p∈q.fItems,1≤p.2.fVersion
 ikey:Aa2 q.fItems
 cz:∀p∈q.fChanged,Abn p.2=true→p.2=zI
 ck:∀p∈q.fChanged,Abn p.2=false→p.2.fKey=p.1
 len:(eff q).length≤256
 kl:∀p∈eff q,p.1.length≤300
theorem WOk.ms {q:Bs} (h:WOk q):Ms (eff q):=UA _ h.it.ms
theorem WOk.iok {q:Bs} (h:WOk q):YP (eff q):=⟨h.ms,λp hp=>by
 rcases LX hp with hp | ⟨hp,_⟩
 ·exact h.it.ok p hp
 ·exact h.ch.ok p hp⟩
theorem WOk.pos {q:Bs} (h:WOk q):∀p∈eff q,1≤p.2.fVersion∧p.2.fVersion≤1000000000000:=λp hp=>by
 refine⟨?_,(h.iok.ok p hp).2.1⟩
 rcases LX hp with hp | ⟨hp,hd⟩
 ·exact h.ipos p hp
 ·have:=(h.ch.ok p hp).1
  have:=Add hd
  omega
theorem WOk.key {q:Bs} (h:WOk q):Aa2 (eff q):=λp hp=>by
 rcases LX hp with hp | ⟨hp,hd⟩
 ·exact h.ikey p hp
 ·exact h.ck p hp hd
theorem RO {F:Nat} {v:List Aa} (hF:v.length<F) (hl:v.length≤1000000):Hd F v v=some true:=by
 unfold Hd
 rw[Ay (by simp)]
 obtain⟨o,h1,h2⟩:=JR v (λ_=>True) (λq:Bool=>False) () (λσ=>EB v v σ) (λx c h0 hx hc hat=>by
  refine .inl ⟨?_,trivial⟩
  show EB v v x=_
  unfold EB
  rw[AA (AcI hx),AT h0 hx,AT h0 hx,Ay (by simp),A1 (by omega) (by omega)]) (by
  show EB v v _=_
  unfold EB
  rw[Ay (AcG (by omega))]) hF
 rw[AG h1]
 rcases h2 with⟨q,_,h⟩ | ⟨rfl,_⟩
 ·exact h.elim
 ·rfl
theorem I7.up {M K:Nat} {v:List Aa} (h:I7 M v) (hK:M≤K) (hb:K≤1000000000):I7 K v:=⟨hb,by have:=h.hv;omega,λc hc=>⟨by have:=(h.hc c hc).1;omega,(h.hc c hc).2⟩⟩
theorem I7.zero {M:Nat} (hM:M≤1000000000):I7 M []:=⟨hM,Adn _,λ_ h=>by cases h⟩
def CkC (c:Ah):Prop:=I7 5000 c.fValue
def YR (l:List Ah):Prop:=∀c∈l,CkC c
theorem VF {F:Nat} (hF:5000<F) {c:Ah} (hA:CkC c):OM F c=some (HY c):=by
 unfold OM HY
 rw[M0 hA (by decide) hF,AG rfl]
 cases S0 c.fKey with
 | false=>rfl
 | true=>
  cases(decide (c.fIfVersion<(-1))||decide (1000000000000<c.fIfVersion)) with
  | true=>rfl
  | false=>
   cases(c.fDelete&&decide (0<(c.fValue.length:Int))) with
   | true=>rfl
   | false=>cases c.fDelete<;>rfl
theorem Lb {F:Nat} (hF:30000<F) {c:Ah} (hA:CkC c):Dy F c=some (HY c):=by
 unfold Dy HY
 rw[ZQ (by omega),AG rfl,M8 hA (by decide) (by omega),AG rfl]
 cases S0 c.fKey with
 | false=>rfl
 | true=>
  cases(decide (c.fIfVersion<(-1))||decide (1000000000000<c.fIfVersion)) with
  | true=>rfl
  | false=>
   cases c.fDelete with
   | true=>cases decide (0<(c.fValue.length:Int))<;>rfl
   | false=>rfl
theorem KT {l:List Ah} {b:Int→Option (Stp Int (Out Int Unit))} (hb:∀(x:Nat) (c:Ah) (r:List Ah),l.drop x=c::r→b (x:Int)=bif decide (HY c=0) then some (.next ((x+1:Nat):Int)) else some (.out (.ret (HY c))))
  (he:b (l.length:Int)=some (.out (.go ()))):∀(r:List Ah) (n x:Nat),l.drop x=r→x≤l.length→r.length<n→Bn (BF b n (x:Int)) (B6 λ_=>some 0)=some (JW r)
 | [],n,x,h,hx,hn=>by
  obtain⟨n,rfl⟩:∃m,n=m+1:=⟨n-1,by simp at hn;omega⟩
  have:l.length≤x:=by simpa using h
  have e:x=l.length:=by omega
  subst e
  rw[BF,he];rfl
 | c::r,n,x,h,hx,hn=>by
  obtain⟨n,rfl⟩:∃m,n=m+1:=⟨n-1,by simp at hn;omega⟩
  obtain⟨hat,hlt,hd⟩:=D8 h
  rw[BF,hb x c r h,JW]
  cases hc:decide (HY c=0) with
  | false=>rfl
  | true=>
   simp only[AcJ]
   exact KT hb he r n (x+1) hd (by omega) (by simp at hn;omega)
theorem VD {F:Nat} (hF:5000<F) {l:List Ah} (hA:YR l):Ll F l=some (Mm l):=by
 unfold Ll Mm
 cases h:decide (256<l.length) with
 | true=>rw[AA (AcI (by have:=AcM h;omega))];rfl
 | false=>
  have h':=Add h
  rw[Ay (AcG (by omega))]
  exact KT (λx c r hd=>by
   obtain⟨hat,hlt,_⟩:=D8 hd
   show Gr F l (x:Int)=_
   unfold Gr
   rw[AA (AcI (by omega)),AT (by omega) (by omega),hat,AG (VF hF (hA c (Adu (i:=x) (by rw[hd];simp)))),A1 (by omega) (by omega)]
   cases decide (HY c=0)<;>rfl) (by
   show Gr F l _=_
   unfold Gr
   rw[Ay (AcG (by omega))]) l F 0 rfl (by omega) (by omega)
theorem Xa {F:Nat} (hF:30000<F) {l:List Ah} (hA:YR l):Xb F l=some (Mm l):=by
 unfold Xb Mm
 cases h:decide (256<l.length) with
 | true=>rw[AA (AcI (by have:=AcM h;omega))];rfl
 | false=>
  have h':=Add h
  rw[Ay (AcG (by omega))]
  exact KT (λx c r hd=>by
   obtain⟨hat,hlt,_⟩:=D8 hd
   show Ih F l (x:Int)=_
   unfold Ih
   rw[AA (AcI (by omega)),AT (by omega) (by omega),hat,AG (Lb hF (hA c (Adu (i:=x) (by rw[hd];simp)))),A1 (by omega) (by omega)]
   cases decide (HY c=0)<;>rfl) (by
   show Ih F l _=_
   unfold Ih
   rw[Ay (AcG (by omega))]) l F 0 rfl (by omega) (by omega)
theorem Yy (v:List Aa):(I2 v).2=HX v:=by
 unfold I2 HX
 cases whole v with
 | none=>rfl
 | some f=>
  simp only
  cases hh:decide (Gd f=0) with
  | true=>rw[AcM hh];rfl
  | false=>rfl
theorem O7 {c:Ah} (h:HY c=0):Nn (OQ c)=(Gq c,0):=by
 unfold Nn
 rw[Sb h];rfl
theorem XS {F:Nat} (hF:30000<F) {c:Ah} (hA:CkC c) (h:HY c=0):Su F c=some (Gq c,0):=by
 obtain⟨h1,h2,h3,h4,h5⟩:=Mn h
 have hp:=O7 h
 unfold Su
 unfold OQ at hp
 cases hd:c.fDelete with
 | true=>
  rw[hd] at hp
  rw[Ay (by rfl),A1 (by omega) (by omega),AG (S6 (by omega))]
  exact congrArg some hp
 | false=>
  rw[hd] at hp
  rw[AA (by rfl),AG (Ta hA (by decide) (by omega)),Yy,h5 hd,Ay (by rfl),A1 (by omega) (by omega),AG (S6 (by omega))]
  exact congrArg some hp
theorem OZ {l:List Ah} {b:List Ag×Int→Option (Stp (List Ag×Int) (Out (Ag×Int) (List Ag)))} (hl:l.length≤300) (hb:∀(acc:List Ag) (x:Nat) (c:Ah) (r:List Ah),l.drop x=c::r→acc.length≤300→b (acc,(x:Int))=some (.next (acc++[Gq c],((x+1:Nat):Int))))
  (he:∀acc,b (acc,(l.length:Int))=some (.out (.go acc))):∀(r:List Ah) (n x:Nat) (acc:List Ag),l.drop x=r→x≤l.length→acc.length=x→r.length<n→BF b n (acc,(x:Int))=some (.go (acc++r.map Gq))
 | [],n,x,acc,h,hx,ha,hn=>by
  obtain⟨n,rfl⟩:∃m,n=m+1:=⟨n-1,by simp at hn;omega⟩
  have:l.length≤x:=by simpa using h
  have e:x=l.length:=by omega
  rw[e,BF,he,List.map_nil,Adg]
 | c::r,n,x,acc,h,hx,ha,hn=>by
  obtain⟨n,rfl⟩:∃m,n=m+1:=⟨n-1,by simp at hn;omega⟩
  obtain⟨hat,hlt,hd⟩:=D8 h
  rw[BF,hb acc x c r h (by omega)]
  simp only
  rw[OZ hl hb he r n (x+1) _ hd (by omega) (by simp;omega) (by simp at hn;omega),Adb];rfl
theorem SA {l:List Ah} (h:Mm l=0):l.length≤256∧∀c∈l,HY c=0:=by
 unfold Mm at h
 cases h2:decide (256<l.length) with
 | true=>rw[h2] at h;cases h
 | false=>
  rw[h2] at h
  exact⟨by have:=Add h2;omega,MK h⟩
theorem Lm {F:Nat} (hF:270000<F) {l:List Ah} (hA:YR l):Hy F l=some (Mp l):=by
 unfold Hy Mp
 rw[AG (VD (by omega) hA)]
 cases h:decide (Mm l=0) with
 | false=>rfl
 | true=>
  obtain⟨h1,h2⟩:=SA (AcM h)
  rw[Ay (p:=!true) rfl]
  have:=OZ (l:=l) (b:=λσ=>DX F l σ.1 σ.2) (by omega) (λacc x c r hd ha=>by
   obtain⟨hat,hlt,_⟩:=D8 hd
   have hm:c∈l:=Adu (i:=x) (by rw[hd];simp)
   show DX F l acc (x:Int)=_
   unfold DX
   rw[AA (AcI (by omega)),AT (by omega) (by omega),hat,AG (XS (by omega) (hA c hm) (h2 c hm)),Ay (by rfl),GN (by simp;omega),A1 (by omega) (by omega)];rfl) (λacc=>by
   show DX F l acc _=_
   unfold DX
   rw[Ay (AcG (by omega))]) l F 0 [] rfl (by omega) rfl (by omega)
  rw[show(([]:List Ag),(0:Int))=([],((0:Nat):Int)) from rfl,AG this,CE,Adh]
  unfold HT
  rw[AG (Yv (by omega) (by simp;omega) (by simp;omega))];rfl
theorem RL {F:Nat} (hF:270000<F) {l:List Ah} (hA:YR l):JI F l=some (Mp l):=by
 unfold JI Mp
 rw[AG (Xa (by omega) hA)]
 cases h:decide (Mm l=0) with
 | false=>rfl
 | true=>
  obtain⟨h1,h2⟩:=SA (AcM h)
  rw[Ay (p:=!true) rfl]
  have:=OZ (l:=l) (b:=λσ=>D3 F l σ.1 σ.2) (by omega) (λacc x c r hd ha=>by
   obtain⟨hat,hlt,_⟩:=D8 hd
   have hm:c∈l:=Adu (i:=x) (by rw[hd];simp)
   obtain⟨g1,g2,g3,g4,g5⟩:=Mn (h2 c hm)
   have hp:=O7 (h2 c hm)
   unfold OQ at hp
   show D3 F l acc (x:Int)=_
   unfold D3
   rw[AA (AcI (by omega)),AT (by omega) (by omega),hat,A1 (by omega) (by omega)]
   cases hdl:c.fDelete with
   | true=>
    rw[hdl] at hp
    have hp':JL F (List.set ([c.fKey,([48]:Ag),([]:Ag),Lib.itoa c.fIfVersion]:List Ag) (Int.toNat 1) ([49]:Ag))=some (Gq c,0):=(PI (by omega)).trans (congrArg some hp)
    rw[AA (by rfl),AT (by omega) (by simp)]
    rw[Gu,AG hp',Ay (by rfl),GN (by simp;omega),A1 (by omega) (by omega)];rfl
   | false=>
    rw[hdl] at hp
    have hp':JL F (List.set ([c.fKey,([48]:Ag),([]:Ag),Lib.itoa c.fIfVersion]:List Ag) (Int.toNat 2) (I2 c.fValue).1)=some (Gq c,0):=(PI (by omega)).trans (congrArg some hp)
    rw[Ay (by rfl),AG (Tj (hA c hm) (by decide) (by omega)),AT (by omega) (by simp)]
    rw[Gu,AG hp',Ay (by rfl),GN (by simp;omega),A1 (by omega) (by omega)];rfl) (λacc=>by
   show D3 F l acc _=_
   unfold D3
   rw[Ay (AcG (by omega))]) l F 0 [] rfl (by omega) rfl (by omega)
  rw[show(([]:List Ag),(0:Int))=([],((0:Nat):Int)) from rfl,AG this,CE,Adh]
  unfold GV
  rw[AG (Vs (by omega) (by simp;omega) (by simp;omega))];rfl
theorem Qr {α:Type} {n:Nat} {x:Option α} (h:n≤1000000000):AN (Dw 56 n) x=x:=B3 (AcI (by omega))
theorem SG (l:List Ag):decide ((l.length:Int)=4)=true→∃a b c d,l=[a,b,c,d]:=λh=>AbR (AcM h)
theorem R4 {b:Ag} (h:(GH b).2=0):∀f∈(GH b).1,f.length≤4000:=λf hf=>UT hf h
theorem T0 {F:Nat} (hF:30000<F) {b:Ag} (hb:b.length≤1000000000):Mc F b=some (Lu b):=by
 unfold Mc Lu
 rw[AG (T5 (by omega) hb)]
 have hsm:=R4 (b:=b)
 generalize GH b=u at *
 obtain⟨l,e⟩:=u
 cases he:decide (e=0) with
 | false=>rw[B3 (by simp[imp,he]),AA (by simp[he])];rfl
 | true=>
  have e0:=AcM he
  subst e0
  cases hl:decide ((l.length:Int)=4) with
  | false=>
   rw[B3 (by simp[imp,hl]),AA (by simp[hl])]
   unfold OR
   rw[hl];rfl
  | true=>
   obtain⟨k,f,t,m,rfl⟩:=SG l hl
   have a0:Am [k,f,t,m] 0=k:=rfl
   have a1:Am [k,f,t,m] 1=f:=rfl
   have a2:Am [k,f,t,m] 2=t:=rfl
   have a3:Am [k,f,t,m] 3=m:=rfl
   have hm:m.length≤4000:=hsm rfl m (by simp)
   rw[B3 (by rfl)]
   unfold OR ofC
   rw[a0,a1,a2,a3]
   cases hd:decide (f=[48]) with
   | false=>
    cases ha:decide (f=[49]) with
    | false=>rw[AA (by rfl)];rfl
    | true=>
     rw[Ay (by rfl),AT (by omega) (by simp),ES (by omega)]
     cases hp:decide (BA m=0) with
     | false=>rfl
     | true=>
      rw[Ay (by rfl),AT (by omega) (by simp),AT (by omega) (by simp),AA (by rfl),AT (by omega) (by simp)];rfl
   | true=>
    have hf:=AcM hd
    have ha:decide (f=[49])=false:=by rw[hf];rfl
    rw[ha,Ay (by rfl),AT (by omega) (by simp),ES (by omega)]
    cases hp:decide (BA m=0) with
    | false=>rfl
    | true=>
     obtain⟨r,hr⟩:=KC t
     rw[Ay (by rfl),AT (by omega) (by simp),AT (by omega) (by simp),Ay (by rfl),AT (by omega) (by simp),R3 (by omega),hr,AG rfl,GP];rfl
theorem Tn {F:Nat} (hF:30000<F) {b:Ag} (hb:b.length≤1000000000):∃c,LF F b=some (c,HW b)∧(HW b=true→c=(Lu b).1):=by
 unfold LF HW Lu
 rw[AG (RP (by omega) hb)]
 have hsm:=R4 (b:=b)
 generalize GH b=u at *
 obtain⟨l,e⟩:=u
 cases he:decide (e=0) with
 | false=>exact⟨zC,by rw[AA (by simp[he])];rfl,λh=>by cases h⟩
 | true=>
  have e0:=AcM he
  subst e0
  cases hl:decide ((l.length:Int)=4) with
  | false=>
   refine⟨zC,?_,?_⟩
   ·rw[AA (by simp[hl])]
    unfold OR
    rw[hl];rfl
   ·unfold OR
    rw[hl];intro h;cases h
  | true=>
   obtain⟨k,f,t,m,rfl⟩:=SG l hl
   have a0:Am [k,f,t,m] 0=k:=rfl
   have a1:Am [k,f,t,m] 1=f:=rfl
   have a2:Am [k,f,t,m] 2=t:=rfl
   have a3:Am [k,f,t,m] 3=m:=rfl
   have hm:m.length≤4000:=hsm rfl m (by simp)
   unfold OR ofC
   rw[a0,a1,a2,a3,Ay (by rfl),AT (by omega) (by simp),ES (by omega),AT (by omega) (by simp),AT (by omega) (by simp)]
   cases hp:decide (BA m=0) with
   | false=>
    rw[AA (by rfl)]
    refine⟨Ah.mk k (decide (f=[49])) [] (AJ m),?_,λh=>?_⟩
    ·cases decide (f=[48])<;>cases decide (f=[49])<;>rfl
    ·exfalso
     revert h
     cases decide (f=[48])<;>cases decide (f=[49])<;>(intro h;cases h)
   | true=>
    cases hd:decide (f=[48]) with
    | false=>
     cases ha:decide (f=[49]) with
     | false=>exact⟨_,by rw[AA (by rfl)];rfl,λh=>by cases h⟩
     | true=>
      have hv:=Lb hF (c:=Ah.mk k true [] (AJ m)) (I7.zero (by decide))
      rw[Ay (by rfl),AA (by rfl),AT (by omega) (by simp),hv,B3 (by cases decide (t=[])<;>rfl)]
      exact⟨_,rfl,λ_=>rfl⟩
    | true=>
     have hf:=AcM hd
     have ha:decide (f=[49])=false:=by rw[hf];rfl
     obtain⟨r,hr⟩:=KC t
     rw[ha,Ay (by rfl),Ay (by rfl),AT (by omega) (by simp),RM (by omega),hr,AG rfl,GP]
     cases hr0:decide (r.2=0) with
     | false=>
      refine⟨_,by rw[B3 (by rfl)];rfl,λh=>?_⟩
      exfalso
      revert h
      simp only[decide_true,AcX,Ada,Bool.and_self,AcJ,AcF,AcT]
      intro h;cases h
     | true=>
      obtain⟨d1,d2,d3⟩:=QW hr (AcM hr0)
      have hv:=Lb hF (c:=Ah.mk k false r.1 (AJ m)) (I7.up d1 (by decide) (by decide))
      rw[hv,B3 (by rfl)]
      exact⟨_,rfl,λ_=>rfl⟩
theorem W4 {b:Ag} (h:(Lu b).2=true):CkC (Lu b).1:=by
 obtain⟨_,_,u3⟩:=TM h
 rw[u3] at h ⊢
 unfold ofC at h ⊢
 unfold CkC
 cases hf:decide (Am (GH b).1 1=[49]) with
 | true=>exact I7.zero (by decide)
 | false=>
  rw[hf] at h
  simp only[AcF] at h ⊢
  obtain⟨r,hr⟩:=KC (Am (GH b).1 2)
  rw[hr,GP] at h ⊢
  exact I7.up (QW hr (AcM h)).1 (by decide) (by decide)
theorem Pf {l:List Ag} {b:List Ah×Int→Option (Stp (List Ah×Int) (Out (List Ah×Int) (List Ah)))} {good:Ag→Bool} {val:Ag→Ah}
  (hb:∀(acc:List Ah) (x:Nat) (c:Ag) (r:List Ag),l.drop x=c::r→acc.length=x→b (acc,(x:Int))=bif good c then some (.next (acc++[val c],((x+1:Nat):Int))) else some (.out (.ret ([],13))))
  (he:∀acc,b (acc,(l.length:Int))=some (.out (.go acc))):∀(r:List Ag) (n x:Nat) (acc:List Ah),l.drop x=r→x≤l.length→acc.length=x→r.length<n→BF b n (acc,(x:Int))=some (bif r.all good then .go (acc++r.map val) else .ret ([],13))
 | [],n,x,acc,h,hx,ha,hn=>by
  obtain⟨n,rfl⟩:∃m,n=m+1:=⟨n-1,by simp at hn;omega⟩
  have:l.length≤x:=by simpa using h
  have e:x=l.length:=by omega
  rw[e,BF,he,List.map_nil,Adg];rfl
 | c::r,n,x,acc,h,hx,ha,hn=>by
  obtain⟨n,rfl⟩:∃m,n=m+1:=⟨n-1,by simp at hn;omega⟩
  obtain⟨hat,hlt,hd⟩:=D8 h
  rw[BF,hb acc x c r h ha,Adm]
  cases hg:good c with
  | false=>rfl
  | true=>
   simp only[AcJ,AcN]
   rw[Pf hb he r n (x+1) _ hd (by omega) (by simp;omega) (by simp at hn;omega),Adb];rfl
theorem Ot (s:Ag):(B8 s.length s).1.length≤s.length:=by
 obtain⟨h1,h2,_⟩:=IG s.length s
 have:=Mg (B8 s.length s).1
 rw[← h2,List.length_take] at this;omega
theorem Ge {s:Ag} (h:I3 s=false):J8 s=([],13):=by unfold J8;rw[h];rfl
theorem MO {s:Ag} (h:I3 s=true):J8 s=((B8 s.length s).1.map λb=>(Lu b).1,0):=by unfold J8;rw[h];rfl
theorem OL {F:Nat} (hF:270000<F) {s:Ag} (hs:s.length≤270000):K3 F s=some (J8 s):=by
 have hsl:=Ot s
 have hbl:=(IG s.length s).2.2
 unfold K3
 rw[AG (VU (by omega) (by omega) (by omega))]
 cases hn:decide ((B8 s.length s).2=s.length) with
 | false=>
  have hg:I3 s=false:=by unfold I3;rw[hn];rfl
  rw[Ge hg,AA (by rw[AcG (by have:=Add hn;omega)];rfl)]
 | true=>
  have hn':=AcM hn
  rw[Ay (by rw[AcI (by omega)];rfl)]
  have:=Pf (l:=(B8 s.length s).1) (b:=λσ=>DY F ((B8 s.length s).1,((B8 s.length s).2:Int)) σ.1 σ.2) (good:=λb=>(Lu b).2) (val:=λb=>(Lu b).1) (λacc x c r hd ha=>by
   obtain⟨hat,hlt,_⟩:=D8 hd
   have hc:=hbl c (Adu (i:=x) (by rw[hd];simp))
   show DY F ((B8 s.length s).1,((B8 s.length s).2:Int)) acc (x:Int)=_
   unfold DY
   rw[AA (AcI (by simp only;omega)),AT (by omega) (by simp only;omega),hat,AG (T0 (by omega) (by omega))]
   cases(Lu c).2 with
   | false=>rfl
   | true=>rw[Ay (by rfl),Qr (by simp;omega),A1 (by omega) (by omega)];rfl) (λacc=>by
   show DY F ((B8 s.length s).1,((B8 s.length s).2:Int)) acc _=_
   unfold DY
   rw[Ay (AcG (by simp only;omega))]) (B8 s.length s).1 F 0 [] rfl (by omega) rfl (by omega)
  rw[show(([]:List Ah),(0:Int))=([],((0:Nat):Int)) from rfl,AG this,Adh]
  cases hall:(B8 s.length s).1.all (λb=>(Lu b).2) with
  | false=>
   have hg:I3 s=false:=by
    cases hgg:I3 s with
    | false=>rfl
    | true=>
     unfold I3 at hgg
     simp only[AcH] at hgg
     obtain⟨_,_,g3,_⟩:=hgg
     rw[Adl] at g3
     have:(B8 s.length s).1.all (λb=>(Lu b).2)=true:=List.all_eq_true.2 λb hb=>by
      have:=g3 b hb
      unfold HW at this
      simp only[AcH] at this
      exact this.1
     rw[this] at hall;cases hall
   rw[Ge hg];rfl
  | true=>
   have hck:YR ((B8 s.length s).1.map λb=>(Lu b).1):=λc hc=>by
    obtain⟨b,hb,rfl⟩:=List.mem_map.1 hc
    exact W4 ((List.all_eq_true.1 hall) b hb)
   simp only[AcJ]
   rw[CE]
   unfold HU
   rw[AG (Lm hF hck)]
   cases hg:I3 s with
   | true=>
    have h1:=MO hg
    have h2:=SH (s:=s) (by rw[h1])
    rw[h1] at h2 ⊢
    simp only at h2
    rw[h2,Ay (by simp)]
   | false=>
    rw[Ge hg]
    cases he:((!decide ((Mp ((B8 s.length s).1.map λb=>(Lu b).1)).2=0))||(!decide ((Mp ((B8 s.length s).1.map λb=>(Lu b).1)).1=s))) with
    | true=>rw[AA (by rfl)]
    | false=>
     simp only[AcZ,Ado,AcC] at he
     have h2:=Pa he.1
     rw[he.2,Ge hg] at h2
     exact absurd (show(13:Int)=0 from congrArg Prod.snd h2) (by decide)
theorem RN {F:Nat} (hF:270000<F) {s:Ag} (hs:s.length≤270000):JJ F s=some (J8 s):=by
 have hsl:=Ot s
 have hbl:=(IG s.length s).2.2
 unfold JJ J8 I3
 rw[AG (Tq (by omega) (by omega) (by omega))]
 cases hn:decide ((B8 s.length s).2=s.length) with
 | false=>rw[AA (by rw[AcG (by have:=Add hn;omega)];rfl)];rfl
 | true=>
  have hn':=AcM hn
  cases hl:decide ((B8 s.length s).1.length≤256) with
  | false=>rw[AA (by rw[AcI (p:=(256:Int)<_) (by have:=Add hl;simp only;omega),Ada])];rfl
  | true=>
   have hl':=AcM hl
   rw[Ay (by rw[AcI (by simp only;omega),AcG (p:=(256:Int)<_) (by simp only;omega)];rfl)]
   have:=Pf (l:=(B8 s.length s).1) (b:=λσ=>D4 F ((B8 s.length s).1,((B8 s.length s).2:Int)) σ.1 σ.2) (good:=HW) (val:=λb=>(Lu b).1) (λacc x c r hd ha=>by
    obtain⟨hat,hlt,_⟩:=D8 hd
    have hc:=hbl c (Adu (i:=x) (by rw[hd];simp))
    obtain⟨v,hv1,hv2⟩:=Tn (F:=F) (by omega) (b:=c) (by omega)
    show D4 F ((B8 s.length s).1,((B8 s.length s).2:Int)) acc (x:Int)=_
    unfold D4
    rw[AA (AcI (by simp only;omega)),AT (by omega) (by simp only;omega),hat,AG hv1]
    cases hg:HW c with
    | false=>rfl
    | true=>rw[Ay (by rfl),Qr (by simp;omega),A1 (by omega) (by omega),hv2 hg];rfl) (λacc=>by
    show D4 F ((B8 s.length s).1,((B8 s.length s).2:Int)) acc _=_
    unfold D4
    rw[Ay (AcG (by simp only;omega))]) (B8 s.length s).1 F 0 [] rfl (by omega) rfl (by omega)
   rw[show(([]:List Ah),(0:Int))=([],((0:Nat):Int)) from rfl,AG this,Adh]
   cases hall:(B8 s.length s).1.all HW with
   | false=>rfl
   | true=>
    simp only[AcJ]
    rw[CE]
    unfold GW
    cases hz:decide (s.length≤262144) with
    | false=>rw[AA (AcI (by have:=Add hz;omega))];rfl
    | true=>rw[Ay (AcG (by have:=AcM hz;omega))];rfl
theorem Aah (s:Ag):YR (J8 s).1:=by
 cases hg:I3 s with
 | false=>rw[Ge hg];intro c hc;cases hc
 | true=>
  rw[MO hg]
  intro c hc
  obtain⟨b,hb,rfl⟩:=List.mem_map.1 hc
  unfold I3 at hg
  simp only[AcH] at hg
  have:=(List.all_eq_true.1 hg.2.2.1) b hb
  unfold HW at this
  simp only[AcH] at this
  exact W4 this.1
theorem Nk {F:Nat} {l:List Ah} (hl:l.length<F) (hF:5000<F) (hb:l.length≤1000000) (hA:YR l):Hc F l l=some true:=by
 unfold Hc
 rw[Ay (by simp)]
 obtain⟨o,h1,h2⟩:=JR l (λ_=>True) (λ_=>False) () (λσ=>E7 F l l σ) (λx c h0 hx hc hat=>by
  refine .inl ⟨?_,trivial⟩
  have hv:=hA c hc
  have hr:Hd F c.fValue c.fValue=some true:=RO (by have:=hv.hv;omega) (by have:=hv.hv;omega)
  show E7 F l l x=_
  unfold E7
  rw[AA (AcI hx),AT h0 hx,AT h0 hx,hat,hr,B3 (by simp[imp]),Ay (by simp[QE]),A1 (by omega) (by omega)]) (by
  show E7 F l l _=_
  unfold E7
  rw[Ay (AcG (by omega))]) (F:=F) hl
 rw[AG h1]
 rcases h2 with⟨q,_,hq⟩ | ⟨rfl,_⟩
 ·exact hq.elim
 ·rfl
theorem OG:I1 300000=some true:=by decide +kernel
theorem YR.of {l:List Ah} (hs:SmP l) (ho:∀c∈l,OkC c):YR l:=λc hc=>
 ⟨by decide,by have:=(hs.all c hc).val;omega,λx hx=>⟨(hs.all c hc).cells x hx,((ho c hc).cells x hx).1,((ho c hc).cells x hx).2⟩⟩
theorem Aag {s:Ag} (h:(J8 s).2=0):I3 s=true:=by
 cases hg:I3 s with
 | true=>rfl
 | false=>rw[Ge hg] at h;exact absurd h (by decide)
theorem Y7 {s:Ag} (h:I3 s=true):s.length≤262144:=by
 unfold I3 at h
 simp only[AcH,AcC] at h
 exact h.2.2.2
theorem Y8 (s:Ag):(J8 s).1.length≤256:=by
 cases hg:I3 s with
 | false=>rw[Ge hg];exact Adn _
 | true=>
  rw[MO hg]
  unfold I3 at hg
  simp only[AcH,AcC] at hg
  rw[AcY];exact hg.2.1
theorem Y0 {l:List Ah} (h:(Mp l).2=0):(Mp l).1.length≤262144:=Y7 (Aag (by rw[Pa h]))
end Go.Proofs.YtjfnokmpfekniaaGreatDoor
namespace Go.Proofs.YtjfnokmpfekniaaGreatDoor
open Go
set_option linter.unusedVariables false
set_option linter.unusedSimpArgs false
theorem QK {l:List Ah} {s:Ag} (hl:∀d∈l,OkC d):JT 300000 l s=some true:=by
 obtain⟨b,hb,hs⟩:=XO (F:=300000) (by decide) l
 unfold JT
 rw[hb]
 simp only[Option.isSome_some,B3,QE]
 cases hA:(!b||decide (20000<(s.length:Int))) with
 | true=>rw[AA rfl,OG];rfl
 | false=>
  simp only[AcZ,Ado,AcD] at hA
  have hsm:=hs hA.1
  have hck:YR l:=YR.of hsm hl
  have hll:=hsm.len
  have hdl:=Y8 s
  have hdk:=Aah s
  have tail:Bd (decide ((J8 s).2=0)) (Bn (Hy 300000 (J8 s).1) λha=>Bd (((!decide (ha.2=0))||(!decide (ha.1=s)))) (some false) (Bn (I1 300000) λhd=>some hd)) (Bn (I1 300000) λhe=>some he)=some true:=by
   rw[OG]
   cases h:decide ((J8 s).2=0) with
   | false=>rfl
   | true=>rw[AA rfl,Lm (by decide) hdk,AG rfl,SH (AcM h),Ay (by simp)];rfl
  rw[Ay (by rfl),Lm (by decide) hck,AG rfl,RL (by decide) hck,AG rfl,OL (by decide) (by omega),AG rfl,RN (by decide) (by omega),AG rfl]
  rw[Nk (by omega) (by decide) (by omega) hdk,B3 (by simp[imp]),Ay (by simp[QE])]
  cases h1:decide ((Mp l).2=0) with
  | false=>rw[Ay (by rfl)];exact tail
  | true=>
   have h1':=AcM h1
   have hel:=Y0 h1'
   rw[AA (by rfl),OL (by decide) (by omega),AG rfl,Pa h1',Nk (by omega) (by decide) (by omega) hck,B3 (by simp[imp]),Ay (by simp[QE])]
   exact tail
end Go.Proofs.YtjfnokmpfekniaaGreatDoor
namespace Go.Proofs.YtjfnokmpfekniaaGreatDoor.lawKvRecords
open Go
set_option linter.unusedVariables false
theorem okC {c:Ah} (h:Vw c=true):OkC c:=by
 unfold Vw at h
 simp only[AcH,Adl,AcC] at h
 refine⟨G3 h.2,λx hx=>?_⟩
 have:=h.1.2.1 x hx
 unfold Xv at this
 simp only[AcH] at this
 exact⟨this.1.1.2,(G3 this.2).2⟩
theorem law:Law:=λl s h1 _=>⟨300000,QK (λd hd=>by
 simp only[AcH,Adl,AcC] at h1
 exact okC (h1.1 d hd))⟩
end Go.Proofs.YtjfnokmpfekniaaGreatDoor.lawKvRecords
