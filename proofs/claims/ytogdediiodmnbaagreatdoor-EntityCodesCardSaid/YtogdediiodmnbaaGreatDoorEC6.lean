/-
  Texts of the proof, put together: LdF, LdG, LdH, LdI, LdJ, LvO, LvP, LdK, LtA, LtB, LtD, LnA, LnB, LnC, LrA, LrB, LnD, LnE, LwECodes.
-/
import Derived.Test.YtogdediiodmnbaaGreatDoorEC5
namespace Go.Proofs.YtogdediiodmnbaaGreatDoor
open Go
set_option linter.unusedVariables false
set_option linter.unusedSimpArgs false
theorem Nx (S u:Ae)(cs:List Ab)(g:Bool):Az.mk S ((S.length:Int)-u.length) cs g=DJ S u cs g:=rfl
theorem Nv {o:Out (Bool×Az) Unit}{r:Bool×Az}{K:Unit→Option (Bool×Az)}(h:o = .ret r):BT K o=some r:=by rw[h];rfl
theorem K2 {α:Type}{n:Nat}{x:Option α}(h:n≤1000000):AY (Dz 40 n) x=x:=BS (Abm (by omega))
theorem SP {F P:Nat}{S u:Ae}{x16 D:List Ab}{k:Int}{g:Bool}(hS:S.length≤100000)(hs:Ee u S)(hk1:1≤k)(hk2:k≤200000)(hV:VOk F P S u (x16++⟨5,0,[],k-1⟩::D) g) :
  (∃q',YW F x16 (k,S,(S.length:Int)-u.length,x16++⟨5,0,[],k-1⟩::D,g)=some (.out (.ret (false,q')))∧(GY true P u=none∨∃f s2,GY true P u=some (f,s2)∧∀c s3,s2=c::s3→decide (c=Bu false)=false∧decide (c=44)=false))∨
  ∃f s2,GY true P u=some (f,s2)∧Ee s2 S∧((∃s3,s2=Bu false::s3∧YW F x16 (k,S,(S.length:Int)-u.length,x16++⟨5,0,[],k-1⟩::D,g)=some (.out (.ret (true,DJ S s3 (x16++⟨5,0,[],k⟩::(D++f.flat.map CU)) (g||f.flat.any Co)))))∨
   (∃s3,s2=44::s3∧YW F x16 (k,S,(S.length:Int)-u.length,x16++⟨5,0,[],k-1⟩::D,g)=some (.next (k+1,S,(S.length:Int)-s3.length,x16++⟨5,0,[],k⟩::(D++f.flat.map CU),g||f.flat.any Co)))):=by
 have hb:YW F x16 (k,S,(S.length:Int)-u.length,x16++⟨5,0,[],k-1⟩::D,g)=EY (CC F) x16 k S ((S.length:Int)-u.length) (x16++⟨5,0,[],k-1⟩::D) g:=rfl;rw[hb];unfold EY;rw[Nx];rcases hV with⟨f,s2,q1,q2,q3⟩ | ⟨q1,q',q2⟩
 ·have ec:(x16++⟨5,0,[],k-1⟩::D)++f.flat.map CU=x16++⟨5,0,[],k-1⟩::(D++f.flat.map CU):=by simp
  rw[ec] at q3;rw[q3,AU rfl,A8 (p:=!true) rfl];have hin:Cp (x16.length:Int) (((x16++(⟨5,0,[],k-1⟩:Ab)::(D++f.flat.map CU)).length:Nat):Int)=true:=LO (by omega) (by rw[Abl,Abf];omega);have e1:(true,DJ S s2 (x16++⟨5,0,[],k-1⟩::(D++f.flat.map CU)) (g||f.flat.any Co)).2.fCells=x16++⟨5,0,[],k-1⟩::(D++f.flat.map CU):=rfl;rw[e1,BS hin,X8,Tk,G8];have e2:Az.mk (true,DJ S s2 (x16++⟨5,0,[],k-1⟩::(D++f.flat.map CU)) (g||f.flat.any Co)).2.fS (true,DJ S s2 (x16++⟨5,0,[],k-1⟩::(D++f.flat.map CU)) (g||f.flat.any Co)).2.fAt (x16++⟨5,0,[],k⟩::(D++f.flat.map CU)) (true,DJ S s2 (x16++⟨5,0,[],k-1⟩::(D++f.flat.map CU)) (g||f.flat.any Co)).2.fGreat=DJ S s2 (x16++⟨5,0,[],k⟩::(D++f.flat.map CU)) (g||f.flat.any Co):=rfl;rw[e2,Dd hS q2,Jh]
  cases s2 with
  | nil=>
   simp only;rw[AU rfl,A8 rfl,Dd hS q2,Jh];exact .inl ⟨_,rfl,.inr ⟨f,[],q1,λc s3 e=>by cases e⟩⟩
  | cons c s3=>
   simp only
   cases ha:decide (c=93) with
   | true=>
    simp only[Abd] at ha;subst ha;exact .inr ⟨f,_,q1,q2,.inl ⟨s3,rfl,rfl⟩⟩
   | false=>
    simp only[Abh];rw[AU rfl,A8 rfl,Dd hS q2,Jh];simp only
    cases hd:decide (c=44) with
    | true=>
     simp only[Abd] at hd;subst hd;simp only[Abj];rw[AU rfl,A8 (p:=!true) rfl,AI (by omega) (by omega)];exact .inr ⟨f,_,q1,q2,.inr ⟨s3,rfl,rfl⟩⟩
    | false=>
     exact .inl ⟨_,rfl,.inr ⟨f,_,q1,λc' s3' e=>by cases e;exact⟨ha,hd⟩⟩⟩
 ·rw[q2,AU rfl];exact .inl ⟨q',rfl,.inl q1⟩
theorem WD {F P:Nat}{S u:Ae}{x16 D:List Ab}{k:Int}{g b1 b2:Bool}{r:Ae×Bool×Az}(hS:S.length≤100000)(hs:Ee u S)(hk1:1≤k)(hk2:k≤200000)(hD:x16.length+D.length≤200000)(hV:VOk F P S u (x16++⟨6,0,[],k-1⟩::(D++[⟨4,0,r.1,0⟩])) g) :
  (∃q',C5 (CC F) x16 k r b1 b2 false S ((S.length:Int)-u.length) (x16++⟨6,0,[],k-1⟩::D) g=some (.out (.ret (false,q')))∧(GY true P u=none∨∃f s2,GY true P u=some (f,s2)∧∀c s3,s2=c::s3→decide (c=Bu true)=false∧decide (c=44)=false))∨
  ∃f s2,GY true P u=some (f,s2)∧Ee s2 S∧((∃s3,s2=Bu true::s3∧C5 (CC F) x16 k r b1 b2 false S ((S.length:Int)-u.length) (x16++⟨6,0,[],k-1⟩::D) g=some (.out (.ret (true,DJ S s3 (x16++⟨6,0,[],k⟩::(D++([⟨4,0,r.1,0⟩]++f.flat.map CU))) (g||f.flat.any Co)))))∨
   (∃s3,s2=44::s3∧C5 (CC F) x16 k r b1 b2 false S ((S.length:Int)-u.length) (x16++⟨6,0,[],k-1⟩::D) g=some (.next (r.1,k+1,S,(S.length:Int)-s3.length,x16++⟨6,0,[],k⟩::(D++([⟨4,0,r.1,0⟩]++f.flat.map CU)),g||f.flat.any Co)))):=by
 unfold C5;have e0:(x16++⟨6,0,[],k-1⟩::D)++([⟨4,0,r.1,0⟩]:List Ab)=x16++⟨6,0,[],k-1⟩::(D++[⟨4,0,r.1,0⟩]):=by simp
 rw[A8 rfl,K2 (by rw[Abl,Abf,Ab8];omega),e0,Nx];rcases hV with⟨f,s2,q1,q2,q3⟩ | ⟨q1,q',q2⟩
 ·have ec:(x16++⟨6,0,[],k-1⟩::(D++[⟨4,0,r.1,0⟩]))++f.flat.map CU=x16++⟨6,0,[],k-1⟩::(D++([⟨4,0,r.1,0⟩]++f.flat.map CU)):=by simp
  rw[ec] at q3;rw[q3,AU rfl,A8 (p:=!true) rfl];have hin:Cp (x16.length:Int) (((x16++(⟨6,0,[],k-1⟩:Ab)::(D++([⟨4,0,r.1,0⟩]++f.flat.map CU))).length:Nat):Int)=true:=LO (by omega) (by rw[Abl,Abf];omega);have e1:(true,DJ S s2 (x16++⟨6,0,[],k-1⟩::(D++([⟨4,0,r.1,0⟩]++f.flat.map CU))) (g||f.flat.any Co)).2.fCells=x16++⟨6,0,[],k-1⟩::(D++([⟨4,0,r.1,0⟩]++f.flat.map CU)):=rfl;rw[e1,BS hin,X8,Tk,G8];have e2:Az.mk (true,DJ S s2 (x16++⟨6,0,[],k-1⟩::(D++([⟨4,0,r.1,0⟩]++f.flat.map CU))) (g||f.flat.any Co)).2.fS (true,DJ S s2 (x16++⟨6,0,[],k-1⟩::(D++([⟨4,0,r.1,0⟩]++f.flat.map CU))) (g||f.flat.any Co)).2.fAt (x16++⟨6,0,[],k⟩::(D++([⟨4,0,r.1,0⟩]++f.flat.map CU))) (true,DJ S s2 (x16++⟨6,0,[],k-1⟩::(D++([⟨4,0,r.1,0⟩]++f.flat.map CU))) (g||f.flat.any Co)).2.fGreat=DJ S s2 (x16++⟨6,0,[],k⟩::(D++([⟨4,0,r.1,0⟩]++f.flat.map CU))) (g||f.flat.any Co):=rfl;rw[e2,Dd hS q2,Jh]
  cases s2 with
  | nil=>
   simp only;rw[AU rfl,A8 rfl,Dd hS q2,Jh];exact .inl ⟨_,rfl,.inr ⟨f,[],q1,λc s3 e=>by cases e⟩⟩
  | cons c s3=>
   simp only
   cases ha:decide (c=125) with
   | true=>
    simp only[Abd] at ha;subst ha;exact .inr ⟨f,_,q1,q2,.inl ⟨s3,rfl,rfl⟩⟩
   | false=>
    simp only[Abh];rw[AU rfl,A8 rfl,Dd hS q2,Jh];simp only
    cases hb:decide (c=44) with
    | true=>
     simp only[Abd] at hb;subst hb;simp only[Abj];rw[AU rfl,A8 (p:=!true) rfl,AI (by omega) (by omega)];exact .inr ⟨f,_,q1,q2,.inr ⟨s3,rfl,rfl⟩⟩
    | false=>
     exact .inl ⟨_,rfl,.inr ⟨f,_,q1,λc' s3' e=>by cases e;exact⟨ha,hb⟩⟩⟩
 ·rw[q2,AU rfl];exact .inl ⟨q',rfl,.inl q1⟩
def YN (t:Ae):Ae→Option (Option Ae×Ae)
 | []=>none
 | d::u'=>bif decide (d=58) then some (some t,u') else none
theorem LM (b:Bool)(last:Option Ae)(r:Ae):DL b true last (34::r)=match CM b r with
  | none=>none
  | some (k,u)=>bif b&&!BH true last (some k) then none else YN k u:=by
 show(match CM b r with
   | none=>none
   | some (k,u)=>bif b&&!BH true last (some k) then none else(match u with
    | []=>none
    | d::u'=>bif decide (d=58) then some (some k,u') else none))=_
 cases CM b r with
 | none=>rfl
 | some q=>obtain⟨k,u⟩:=q;cases u<;>rfl
theorem TF (b:Bool)(last:Option Ae){u:Ae}(h:∀r,u=34::r→CM b r=none):DL b true last u=none:=by
 cases u with
 | nil=>rfl
 | cons c r=>
  by_cases hc:c=34
  ·subst hc;rw[LM,h r rfl]
  ·show(bif decide (c=34) then _ else none)=none;rw[Abi hc];rfl
theorem Pk {F:Nat}{S w t:Ae}{x16 cs:List Ab}{k:Int}{g:Bool}(b1 b2:Bool)(hS:S.length≤100000)(hw:Ee w S) :
  (∃q',B0 (Es (t,true,DJ S w cs g).2.2 ([58]:Ae)) (λha=>C5 (CC F) x16 k (t,true,DJ S w cs g) b1 b2 (!ha.1) ha.2.fS ha.2.fAt ha.2.fCells ha.2.fGreat)=some (.out (.ret (false,q')))∧YN t w=none)∨
  ∃s1,w=58::s1∧YN t w=some (some t,s1)∧B0 (Es (t,true,DJ S w cs g).2.2 ([58]:Ae)) (λha=>C5 (CC F) x16 k (t,true,DJ S w cs g) b1 b2 (!ha.1) ha.2.fS ha.2.fAt ha.2.fCells ha.2.fGreat)=C5 (CC F) x16 k (t,true,DJ S w cs g) b1 b2 false S ((S.length:Int)-s1.length) cs g:=by
 rw[show(t,true,DJ S w cs g).2.2=DJ S w cs g from rfl,Dd hS hw,Jh]
 cases w with
 | nil=>exact .inl ⟨_,rfl,rfl⟩
 | cons d s1=>
  by_cases hd:d=58
  ·subst hd;exact .inr ⟨s1,rfl,rfl,rfl⟩
  ·simp only[Abi hd,Abh];refine .inl ⟨_,rfl,?_⟩;show(bif decide (d=58) then _ else none)=none;rw[Abi hd];rfl
theorem Yy {F:Nat}{S u last:Ae}{x16 cs:List Ab}{k:Int}{g:Bool}(hS:S.length≤100000)(hs:Ee u S)(hF:S.length<F) :
  (DL true true (bif decide (1<k) then some last else none) u=none∧∃q',Zp F x16 (last,k,S,(S.length:Int)-u.length,cs,g)=some (.out (.ret (false,q'))))∨
  ∃t s1 b1 b2 q0,DL true true (bif decide (1<k) then some last else none) u=some (some t,s1)∧Ee s1 S∧s1.length+2≤u.length∧Zp F x16 (last,k,S,(S.length:Int)-u.length,cs,g)=C5 (CC F) x16 k (t,true,q0) b1 b2 false S ((S.length:Int)-s1.length) cs g:=by
 have hb:Zp F x16 (last,k,S,(S.length:Int)-u.length,cs,g)=EX F (CC F) x16 last k S ((S.length:Int)-u.length) cs g:=rfl;rw[hb];unfold EX;rw[Nx];rcases QD (cs:=cs) (g:=g) hS hs hF with⟨r,t,w,q1,q2,q3,q4⟩ | ⟨q1,q',q2⟩
 ·rw[q4,AU rfl,A8 (p:=!true) rfl];subst q1;have hok:=Yd _ r t w rfl q2;have hwl:=IE true _ r t w rfl q2;rw[LM,q2];simp only[Abp]
  cases h1:decide (1<k) with
  | true=>
   rw[AK rfl];simp only[Abj];have hko:BH true (some last) (some t) = !(CW t last||decide (t=last)):=by simp[BH,hok]
   rw[hko,Bool.not_not]
   cases hlt:(CW t last||decide (t=last)) with
   | true=>
    rw[AK rfl];exact .inl ⟨rfl,_,rfl⟩
   | false=>
    rw[A8 rfl];simp only[Abh];rcases Pk (F:=F) (cs:=cs) (g:=g) (x16:=x16) (k:=k) (t:=t) false false hS q3 with⟨q',c1,c2⟩ | ⟨s1,c1,c2,c3⟩
    ·exact .inl ⟨c2,q',c1⟩
    ·subst c1;exact .inr ⟨t,s1,false,false,DJ S (58::s1) cs g,c2,q3.tail,by simp only[Abf] at hwl ⊢;omega,c3⟩
  | false=>
   rw[A8 rfl];simp only[Abh];have hko:BH true none (some t)=true:=by simp[BH,hok]
   rw[hko];simp only[Abq,Abh];rcases Pk (F:=F) (cs:=cs) (g:=g) (x16:=x16) (k:=k) (t:=t) false false hS q3 with⟨q',c1,c2⟩ | ⟨s1,c1,c2,c3⟩
   ·exact .inl ⟨c2,q',c1⟩
   ·subst c1;exact .inr ⟨t,s1,false,false,DJ S (58::s1) cs g,c2,q3.tail,by simp only[Abf] at hwl ⊢;omega,c3⟩
 ·rw[q2,AU rfl];exact .inl ⟨TF _ _ q1,_,rfl⟩
def Ow (b:Bool)(F:Nat)(m:Bool):Ae→Option (Fo×Ae)
 | []=>none
 | d::r'=>bif decide (d=Bu m) then some (nd m .nil,r') else(match DA b F m none (d::r') with
  | none=>none
  | some (g,u)=>some (nd m g,u))
theorem K4 (b:Bool)(F:Nat)(m:Bool)(d:UInt8)(r':Ae):Ow b F m (d::r')=bif decide (d=Bu m) then some (nd m .nil,r') else(match DA b F m none (d::r') with
  | none=>none
  | some (g,u)=>some (nd m g,u)):=rfl
theorem Z2 (b:Bool)(F:Nat)(r:Ae)(m:Bool):GY b (F+1) ((bif m then 123 else 91)::r)=Ow b F m r:=by
 rw[EP]
 cases m<;>cases r<;>rfl
theorem WH {S:Ae}(hS:S.length≤100000):∀n:Nat,
  (∀(F P:Nat) (u:Ae) (cs:List Ab) (g:Bool),u.length=n→Ee u S→S.length+n+5<F→2*n+2≤P→cs.length+n≤S.length→VOk F P S u cs g)∧
  (∀(F P L:Nat) (u:Ae) (x16 D:List Ab) (k:Int) (g:Bool),u.length=n→Ee u S→S.length+n+5<F→2*n+3≤P→n<L→x16.length+1+D.length+n≤S.length→1≤k→k+n≤S.length+1→∃o,Ca (YW F x16) L (k,S,(S.length:Int)-u.length,x16++⟨5,0,[],k-1⟩::D,g)=some o∧Vv P false none S u x16 D k g o)∧
  (∀(F P L:Nat) (u last:Ae) (x16 D:List Ab) (k:Int) (g:Bool),u.length=n→Ee u S→S.length+n+5<F→2*n+3≤P→n<L→x16.length+1+D.length+n≤S.length→1≤k→k+n≤S.length+1→∃o,Ca (Zp F x16) L (last,k,S,(S.length:Int)-u.length,x16++⟨6,0,[],k-1⟩::D,g)=some o∧Vv P true (bif decide (1<k) then some last else none) S u x16 D k g o):=by
 intro n
 induction n using Nat.strongRecOn with
 | ind n ih=>
 have hV:∀(F P:Nat) (u:Ae) (cs:List Ab) (g:Bool),u.length=n→Ee u S→S.length+n+5<F→2*n+2≤P→cs.length+n≤S.length→VOk F P S u cs g:=by
  intro F P u cs g hn hs hF hP hcs;obtain⟨F,rfl⟩:∃K,F=K+1:=⟨F-1,by omega⟩
  obtain⟨P,rfl⟩:∃K,P=K+1:=⟨P-1,by omega⟩
  unfold VOk;rw[CC];unfold Ll;rw[Dd hS hs,Jh];have hsc:(∀c r,u=c::r→(decide (c=91)||decide (c=123))=false)→∀r1:Bool×Az,(∃f w,GY true (P+1) u=some (f,w)∧Ee w S∧Et F (CC F) r1 true S ((S.length:Int)-u.length) cs g=some (true,DJ S w (cs++f.flat.map CU) (g||f.flat.any Co)))∨(GY true (P+1) u=none∧∃q',Et F (CC F) r1 true S ((S.length:Int)-u.length) cs g=some (false,q')):=λhc r1=>by
   rw[Wn true P hc];unfold Et;rw[AK rfl,Nx];rcases QE (F:=F) (cs:=cs) (g:=g) hS hs (by omega) (by omega) with⟨f,w,q1,q2,q3⟩ | ⟨q1,q',q2⟩
   ·rw[q3,AU rfl];exact .inl ⟨f,w,q1,q2,rfl⟩
   ·rw[q2,AU rfl];exact .inr ⟨q1,q',rfl⟩
  have hsl:=hs.len
  cases u with
  | nil=>
   simp only;rw[AU rfl,AK (p:=!false) rfl,show(false,DJ S [] cs g).2=DJ S [] cs g from rfl,Dd hS hs,Jh,AU rfl];exact hsc (λc r e=>by cases e) _
  | cons c r=>
   simp only[Abf] at hn hsl;simp only;have hbr:∀m:Bool,c=(bif m then 123 else 91)→∀body:Option (Bool×Az),body=(AY (Dz 40 (cs.length+([⟨bif m then 6 else 5,0,[],0⟩]:List Ab).length))<|B0 (Es (DJ S r (cs++[⟨bif m then 6 else 5,0,[],0⟩]) g) ([Bu m]:Ae)) λha=>Bl ha.1 (some (true,ha.2)) (bif m then B0 (Ca (Zp F cs) F ([],1,ha.2.fS,ha.2.fAt,ha.2.fCells,ha.2.fGreat)) (BT λ_=>HE) else B0 (Ca (YW F cs) F (1,ha.2.fS,ha.2.fAt,ha.2.fCells,ha.2.fGreat)) (BT λ_=>HF)))→
     (∃f w,GY true (P+1) (c::r)=some (f,w)∧Ee w S∧body=some (true,DJ S w (cs++f.flat.map CU) (g||f.flat.any Co)))∨(GY true (P+1) (c::r)=none∧∃q',body=some (false,q')):=λm hc body hbody=>by
    rw[hbody,hc,Z2,K2 (by rw[Ab8];omega),Dd hS hs.tail,Jh];have hfh:CU ⟨bif m then 6 else 5,0,[],0⟩=⟨bif m then 6 else 5,0,[],0⟩∧∀N,Co ⟨bif m then 6 else 5,0,[],N⟩=false:=by cases m<;>exact⟨rfl,λ_=>rfl⟩
    have hfn:∀N,CU ⟨bif m then 6 else 5,0,[],N⟩=⟨bif m then 6 else 5,0,[],N⟩:=λN=>by cases m<;>rfl
    have hloop:∀o:Out (Bool×Az) Unit,Vv P m none S r cs [] 1 g o→(r=[]∨∃d r',r=d::r'∧decide (d=Bu m)=false)→
      (∃f w,Ow true P m r=some (f,w)∧Ee w S∧o = .ret (true,DJ S w (cs++f.flat.map CU) (g||f.flat.any Co)))∨(Ow true P m r=(none:Option (Fo×Ae))∧∃q',o = .ret (false,q')):=λo ho hr=>by
     rcases hr with rfl | ⟨d,r',rfl,hd⟩
     ·rcases ho with⟨G,w,q1,_,_⟩ | ⟨_,q2⟩
      ·exact absurd ((DW true P).2 _ _ _ _ _ q1).1 (by simp)
      ·exact .inr ⟨rfl,q2⟩
     ·rw[K4,hd];simp only[Abh];rcases ho with⟨G,w,q1,q2,q3⟩ | ⟨q1,q2⟩
      ·rw[q1];refine .inl ⟨_,w,rfl,q2,?_⟩;rw[q3,Jm _ _ Io,AbV,List.any_cons,hfn,hfh.2,Abt,AbU,show(1:Int)-1+(G.cnt:Int)=G.cnt from by omega]
      ·rw[q1];exact .inr ⟨rfl,q2⟩
    have hrest:(r=[]∨∃d r',r=d::r'∧decide (d=Bu m)=false)→(∃f w,Ow true P m r=some (f,w)∧Ee w S∧(bif m then B0 (Ca (Zp F cs) F ([],1,S,(S.length:Int)-r.length,cs++[⟨bif m then 6 else 5,0,[],0⟩],g)) (BT λ_=>HE) else B0 (Ca (YW F cs) F (1,S,(S.length:Int)-r.length,cs++[⟨bif m then 6 else 5,0,[],0⟩],g)) (BT λ_=>HF))=some (true,DJ S w (cs++f.flat.map CU) (g||f.flat.any Co)))∨(Ow true P m r=(none:Option (Fo×Ae))∧∃q',(bif m then B0 (Ca (Zp F cs) F ([],1,S,(S.length:Int)-r.length,cs++[⟨bif m then 6 else 5,0,[],0⟩],g)) (BT λ_=>HE) else B0 (Ca (YW F cs) F (1,S,(S.length:Int)-r.length,cs++[⟨bif m then 6 else 5,0,[],0⟩],g)) (BT λ_=>HF))=some (false,q')):=λhr=>by
     cases m with
     | true=>
      obtain⟨o,ho1,ho2⟩:=(ih r.length (by omega)).2.2 F P F r [] cs [] 1 g rfl hs.tail (by omega) (by omega) (by omega) (by simp;omega) (by decide) (by omega);simp only[Abj];have ho1':Ca (Zp F cs) F ([],1,S,(S.length:Int)-r.length,cs++[⟨6,0,[],0⟩],g)=some o:=ho1;rw[AU ho1'];rcases hloop o ho2 hr with⟨f,w,q1,q2,q3⟩ | ⟨q1,q',q2⟩
      ·exact .inl ⟨f,w,q1,q2,Nv q3⟩
      ·exact .inr ⟨q1,q',Nv q2⟩
     | false=>
      obtain⟨o,ho1,ho2⟩:=(ih r.length (by omega)).2.1 F P F r cs [] 1 g rfl hs.tail (by omega) (by omega) (by omega) (by simp;omega) (by decide) (by omega);simp only[Abh];have ho1':Ca (YW F cs) F (1,S,(S.length:Int)-r.length,cs++[⟨5,0,[],0⟩],g)=some o:=ho1;rw[AU ho1'];rcases hloop o ho2 hr with⟨f,w,q1,q2,q3⟩ | ⟨q1,q',q2⟩
      ·exact .inl ⟨f,w,q1,q2,Nv q3⟩
      ·exact .inr ⟨q1,q',Nv q2⟩
    cases r with
    | nil=>
     simp only;rw[AU rfl,A8 rfl];exact hrest (.inl rfl)
    | cons d r'=>
     simp only
     cases hd:decide (d=Bu m) with
     | true=>
      simp only[Abj];rw[AU rfl,AK rfl];refine .inl ⟨_,r',by rw[K4,hd];rfl,hs.tail.tail,?_⟩;rw[Jm _ _ Io];simp only[Fo.flat,Fo.cnt,AbV,List.map_nil,List.any_cons,List.any_nil,Ab2];rw[show((0:Nat):Int)=0 from rfl,hfh.1,hfh.2,Ab2]
     | false=>
      simp only[Abh];rw[AU rfl,A8 rfl];exact hrest (.inr ⟨d,r',rfl,hd⟩)
   cases he:decide (c=91) with
   | true=>
    simp only[Abd] at he;simp only[Abj];rw[AU rfl,A8 (p:=!true) rfl];exact hbr false he _ rfl
   | false=>
    simp only[Abh];rw[AU rfl,AK (p:=!false) rfl,show(false,DJ S (c::r) cs g).2=DJ S (c::r) cs g from rfl,Dd hS hs,Jh];simp only
    cases hg:decide (c=123) with
    | true=>
     simp only[Abd] at hg;simp only[Abj];rw[AU rfl];exact hbr true hg _ rfl
    | false=>
     simp only[Abh];rw[AU rfl];exact hsc (λc' r' e=>by cases e;rw[he,hg];rfl) _
 refine⟨hV,?_,?_⟩
 ·intro F P L u x16 D k g hn hs hF hP hL hb hk1 hk2;obtain⟨P,rfl⟩:∃K,P=K+1:=⟨P-1,by omega⟩
  obtain⟨L,rfl⟩:∃K,L=K+1:=⟨L-1,by omega⟩
  have hsl:=hs.len;have hv:=hV F P u (x16++⟨5,0,[],k-1⟩::D) g hn hs hF (by omega) (by simp;omega);have hkp:DL true false none u=some (none,u):=rfl;rcases SP hS hs hk1 (by omega) hv with⟨q',hb1,hf⟩ | ⟨f,s2,q1,q2,h⟩
  ·refine⟨_,De hb1,?_⟩;rcases hf with hf | ⟨f,s2,hf,hno⟩
   ·refine .inr ⟨?_,q',rfl⟩;rw[Dy,hkp];simp only[hf]
   ·exact Vv.join hkp hf ((DW true P).1 _ _ _ hf).2 (.inr (.inr ⟨hno,q',rfl⟩))
  ·obtain⟨l1,ho⟩:=(DW true P).1 _ _ _ q1;have l2:=(E4 true P).1 _ _ _ q1;rcases h with⟨s3,e,hb1⟩ | ⟨s3,e,hb1⟩
   ·subst e;exact⟨_,De hb1,Vv.join hkp q1 ho (.inl ⟨s3,rfl,q2.tail,rfl⟩)⟩
   ·subst e;simp only[Abf] at l1 l2;obtain⟨o,ho1,ho2⟩:=(ih s3.length (by omega)).2.1 F P L s3 x16 (D++f.flat.map CU) (k+1) (g||f.flat.any Co) rfl q2.tail (by omega) (by omega) (by omega) (by rw[Abl,Ab3];omega) (by omega) (by omega);rw[show k+1-1=k from by omega] at ho1;exact⟨o,G7 hb1 ho1,Vv.join hkp q1 ho (.inr (.inl ⟨s3,rfl,ho2⟩))⟩
 ·intro F P L u last x16 D k g hn hs hF hP hL hb hk1 hk2;obtain⟨P,rfl⟩:∃K,P=K+1:=⟨P-1,by omega⟩
  obtain⟨L,rfl⟩:∃K,L=K+1:=⟨L-1,by omega⟩
  have hsl:=hs.len;rcases Yy (last:=last) (x16:=x16) (cs:=x16++⟨6,0,[],k-1⟩::D) (k:=k) (g:=g) hS hs (F:=F) (by omega) with⟨hk,q',hb1⟩ | ⟨t,s1,b1,b2,q0,hk,hs1,hl1,hb0⟩
  ·refine⟨_,De hb1,.inr ⟨?_,q',rfl⟩⟩;rw[Dy,hk]
  ·have hv:=(ih s1.length (by omega)).1 F P s1 (x16++⟨6,0,[],k-1⟩::(D++[⟨4,0,t,0⟩])) g rfl hs1 (by omega) (by omega) (by simp;omega);rcases WD (r:=(t,true,q0)) (b1:=b1) (b2:=b2) hS hs1 hk1 (by omega) (by omega) hv with⟨q',hb1,hf⟩ | ⟨f,s2,q1,q2,h⟩
   ·refine⟨_,De (hb0.trans hb1),?_⟩;rcases hf with hf | ⟨f,s2,hf,hno⟩
    ·refine .inr ⟨?_,q',rfl⟩;rw[Dy,hk];simp only[hf]
    ·exact Vv.join hk hf ((DW true P).1 _ _ _ hf).2 (.inr (.inr ⟨hno,q',rfl⟩))
   ·obtain⟨l1,ho⟩:=(DW true P).1 _ _ _ q1;have l2:=(E4 true P).1 _ _ _ q1;rcases h with⟨s3,e,hb1⟩ | ⟨s3,e,hb1⟩
    ·subst e;exact⟨_,De (hb0.trans hb1),Vv.join hk q1 ho (.inl ⟨s3,rfl,q2.tail,rfl⟩)⟩
    ·subst e;simp only[Abf] at l1 l2;obtain⟨o,ho1,ho2⟩:=(ih s3.length (by omega)).2.2 F P L s3 t x16 (D++([⟨4,0,t,0⟩]++f.flat.map CU)) (k+1) (g||f.flat.any Co) rfl q2.tail (by omega) (by omega) (by omega) (by rw[Abl,Abl,Ab3,Ab8];omega) (by omega) (by omega);rw[show k+1-1=k from by omega] at ho1;rw[show decide (1<k+1)=true from Abm (by omega)] at ho2;exact⟨o,G7 (hb0.trans hb1) ho1,Vv.join hk q1 ho (.inr (.inl ⟨s3,rfl,ho2⟩))⟩
theorem Sh {S:Ae}(hS:S.length≤100000){F P:Nat}(hF:2*S.length+6≤F)(hP:2*S.length+2≤P):VOk F P S S [] false:=
 (WH hS S.length).1 F P S [] false rfl ⟨[],rfl⟩ (by omega) hP (by simp)
theorem CX {S u w:Ae}(hS:S.length≤100000)(hw:w.length≤100)(h:Ee u S):B5 S ((S.length:Int)-u.length) w=some (pre w u).isSome:=by
 have hl:=h.len;unfold B5;rw[AI (by omega) (by omega)];have e:∀b:Bool,(decide ((S.length:Int)-u.length+w.length≤(S.length:Int))=true→b=true)→imp (decide ((S.length:Int)-u.length+w.length≤(S.length:Int))) b=true:=λb hb=>by
  cases hd:decide ((S.length:Int)-u.length+w.length≤(S.length:Int)) with
  | false=>rfl
  | true=>rw[hb hd];rfl
 rw[BS (e _ λhd=>by simp only[Abd] at hd;exact Y7 (by omega) (by omega)),BS (e _ λhd=>by simp only[Abd] at hd;exact Y7 (by omega) (by omega))];rw[h.drop,← NP,show Int.toNat ((S.length:Int)-u.length+w.length)-Int.toNat ((S.length:Int)-u.length)=Int.toNat (w.length:Int) from by omega];have:decide ((S.length:Int)-u.length+w.length≤(S.length:Int))=decide ((w.length:Int)≤(u.length:Int)):=by rw[Abu];simp only[Abd];omega
 rw[this]
theorem Zb {S r:Ae}{c:UInt8}(h:Ee (c::r) S):List.take (Int.toNat ((S.length:Int)-r.length)-Int.toNat ((S.length:Int)-(c::r).length)) (List.drop (Int.toNat ((S.length:Int)-(c::r).length)) S)=[c]:=by
 have hl:=h.len;rw[h.drop];simp only[Abf] at hl ⊢;rw[show Int.toNat ((S.length:Int)-r.length)-Int.toNat ((S.length:Int)-((r.length+1:Nat):Int))=1 from by omega];rfl
theorem Nb {S:Ae}(hS:S.length≤100000):∀(n L:Nat) (u A:Ae),u.length=n→Ee u S→n<L→A.length≤S.length-n→
  ∃o,Ca (λσ=>CD S σ.1 σ.2) L (A,(S.length:Int)-u.length)=some o∧((∃t w,CM false u=some (t,w)∧Ee w S∧BT (λν=>CT S ν.1 ν.2) o=some (A++t,(S.length:Int)-w.length))∨(CM false u=none∧BT (λν=>CT S ν.1 ν.2) o=some ([],-1))):=by
 intro n
 induction n using Nat.strongRecOn with
 | ind n ih=>
  intro L u A hn hs hL hA;obtain⟨L,rfl⟩:∃K,L=K+1:=⟨L-1,by omega⟩
  have hsl:=hs.len
  cases u with
  | nil=>
   have hgo:CD S A ((S.length:Int)-([]:Ae).length)=some (.out (.go (A,(S.length:Int)-([]:Ae).length))):=by
    unfold CD;have e:decide ((S.length:Int)-([]:Ae).length<(S.length:Int))=false:=by simp
    rw[e,BS (p:=imp false _) rfl,A8 (p:=false&&_) rfl]
   refine⟨_,De hgo,.inr ⟨rfl,?_⟩⟩;rw[Di];unfold CT;rw[AK (Abm (by simp))]
  | cons c r=>
   have hb:Be S ((S.length:Int)-(c::r).length)=c.toNat:=Du hs.get;have hpos:(S.length:Int)-(c::r).length+1=S.length-r.length:=by rw[Abf];omega
   have ht1:=Zb hs;simp only[Abf] at hn hsl;have hlt:(S.length:Int)-(c::r).length<S.length:=by rw[Abf];omega
   have h0:0≤(S.length:Int)-(c::r).length:=by rw[Abf];omega
   have l1:([c]:Ae).length=1:=rfl;have hb1:CD S A ((S.length:Int)-(c::r).length)=Bl (!decide (c=34)) (Bl (decide (c=92)) (AY (imp (!(decide ((S.length:Int)≤S.length-r.length))) (Cp (S.length-r.length) (S.length:Int)))<|Bl (((decide ((S.length:Int)≤S.length-r.length))||((!decide ((Be S (S.length-r.length))=34))&&(!decide ((Be S (S.length-r.length))=92))))) (some (.out (.ret (([]:Ae),(-1))))) (AY (B2 .i64 (((S.length:Int)-r.length)+1))<|AY (HX ((S.length:Int)-r.length) (((S.length:Int)-r.length)+1))<|AY (HX (((S.length:Int)-r.length)+1) (S.length:Int))<|AY (B2 .i64 ((A.length:Int)+((List.take (Int.toNat (((S.length:Int)-r.length)+1)-Int.toNat ((S.length:Int)-r.length)) (List.drop (Int.toNat ((S.length:Int)-r.length)) S)).length:Int)))<|some (.next (A++(List.take (Int.toNat (((S.length:Int)-r.length)+1)-Int.toNat ((S.length:Int)-r.length)) (List.drop (Int.toNat ((S.length:Int)-r.length)) S)),((S.length:Int)-r.length)+1)))) (some (.next (A++[c],(S.length:Int)-r.length)))) (some (.out (.go (A,(S.length:Int)-(c::r).length)))):=by
    unfold CD;rw[Abm hlt,BS (p:=imp true _) (by rw[LO h0 hlt];rfl),hb,Pp,Abp,Br h0 hlt,TG,hpos]
    cases decide (c=34) with
    | true=>rfl
    | false=>
     rw[AK (p:=!false) rfl,AK (p:=!false) rfl]
     cases decide (c=92) with
     | true=>rw[AK rfl,AK rfl,AI (by omega) (by omega)]
     | false=>rw[A8 rfl,A8 rfl,AI (by omega) (by omega),C1 (by omega) (by omega),C1 (by omega) (by omega),ht1,l1,AI (by omega) (by omega)]
   rw[EC]
   cases h1:decide (c=34) with
   | true=>
    rw[h1,A8 (p:=!true) rfl] at hb1;refine⟨_,De hb1,.inl ⟨[],r,rfl,hs.tail,?_⟩⟩;rw[Di];unfold CT;rw[A8 (Abi (by omega)),hpos,AI (by omega) (by omega),AbL]
   | false=>
    rw[h1,AK (p:=!false) rfl] at hb1;simp only[Abh,Abw]
    cases h3:decide (c=92) with
    | true=>
     rw[h3,AK rfl] at hb1
     cases r with
     | nil=>
      have e:decide ((S.length:Int)≤S.length-([]:Ae).length)=true:=by simp
      rw[e,BS (p:=imp (!true) _) rfl,AK (p:=true||_) rfl] at hb1;exact⟨_,De hb1,.inr ⟨rfl,rfl⟩⟩
     | cons d r'=>
      have ht2:=Zb hs.tail;simp only[Abf] at hn hsl;have hbd:Be S ((S.length:Int)-(d::r').length)=d.toNat:=Du hs.tail.get;have hlt2:(S.length:Int)-(d::r').length<S.length:=by rw[Abf];omega
      have ha:0≤(S.length:Int)-(d::r').length:=by rw[Abf];omega
      have hpos2:(S.length:Int)-(d::r').length+1=S.length-r'.length:=by rw[Abf];omega
      have e:decide ((S.length:Int)≤S.length-(d::r').length)=false:=Abi (by omega);have l2:([d]:Ae).length=1:=rfl;rw[e,LO ha hlt2,hbd,hpos2,Pp,TG,BS (p:=imp (!false) true) rfl,ht2,l2] at hb1;simp only[Abj]
      cases h4:(decide (d=34)||decide (d=92)) with
      | false=>
       have e4:(false||(!decide (d=34)&&!decide (d=92)))=true:=by rw[← Bool.not_or,h4];rfl
       rw[AK e4] at hb1;exact⟨_,De hb1,.inr ⟨rfl,rfl⟩⟩
      | true=>
       have e4:(false||(!decide (d=34)&&!decide (d=92)))=false:=by rw[← Bool.not_or,h4];rfl
       rw[A8 e4,AI (by omega) (by omega),C1 (by omega) (by omega),C1 (by omega) (by omega),AI (by omega) (by omega)] at hb1;obtain⟨o,ho1,ho2⟩:=ih r'.length (by omega) L r' (A++[d]) rfl hs.tail.tail (by omega) (by rw[ET];omega);refine⟨o,G7 hb1 ho1,?_⟩;simp only[Abj];rcases ho2 with⟨t,w,q1,q2,q3⟩ | ⟨q1,q2⟩
       ·rw[q1];exact .inl ⟨d::t,w,rfl,q2,by rw[q3];simp⟩
       ·rw[q1];exact .inr ⟨rfl,q2⟩
    | false=>
     rw[h3,A8 rfl] at hb1;obtain⟨o,ho1,ho2⟩:=ih r.length (by omega) L r (A++[c]) rfl hs.tail (by omega) (by rw[ET];omega);refine⟨o,G7 hb1 ho1,?_⟩;simp only[Abh];rcases ho2 with⟨t,w,q1,q2,q3⟩ | ⟨q1,q2⟩
     ·rw[q1];exact .inl ⟨c::t,w,rfl,q2,by rw[q3];simp⟩
     ·rw[q1];exact .inr ⟨rfl,q2⟩
theorem JC {F:Nat}{S u:Ae}(hS:S.length≤100000)(h:Ee u S)(hF:S.length<F) :
  (∃r t w,u=34::r∧CM false r=some (t,w)∧Ee w S∧Dl F S ((S.length:Int)-u.length)=some (t,(S.length:Int)-w.length))∨((∀r,u=34::r→CM false r=none)∧Dl F S ((S.length:Int)-u.length)=some ([],-1)):=by
 have hl:=h.len;unfold Dl
 cases u with
 | nil=>
  have e:decide ((S.length:Int)≤(S.length:Int)-([]:Ae).length)=true:=by simp
  rw[e,BS (p:=imp (!true) _) rfl,AK (p:=true||_) rfl];exact .inr ⟨(λr e=>by cases e),rfl⟩
 | cons c r=>
  have hb:Be S ((S.length:Int)-(c::r).length)=c.toNat:=Du h.get;have hpos:(S.length:Int)-(c::r).length+1=S.length-r.length:=by rw[Abf];omega
  simp only[Abf] at hl;have hlt:(S.length:Int)-(c::r).length<S.length:=by rw[Abf];omega
  have h0:0≤(S.length:Int)-(c::r).length:=by rw[Abf];omega
  have e:decide ((S.length:Int)≤(S.length:Int)-(c::r).length)=false:=Abi (by omega);rw[e,BS (p:=imp (!false) _) (by rw[LO h0 hlt];rfl),hb,Pp,hpos]
  cases hc:decide (c=34) with
  | false=>
   simp only[Abc] at hc;exact .inr ⟨(λr' e=>by cases e;exact absurd rfl hc),rfl⟩
  | true=>
   simp only[Abd] at hc;subst hc;rw[A8 (p:=false||!true) rfl,AI (by omega) (by omega)];obtain⟨o,ho1,ho2⟩:=Nb hS r.length F r [] rfl h.tail (by omega) (AbJ _);rw[AU ho1];rcases ho2 with⟨t,w,q1,q2,q3⟩ | ⟨q1,q2⟩
   ·exact .inl ⟨r,t,w,rfl,q1,q2,q3⟩
   ·exact .inr ⟨(λr' e=>by cases e;exact q1),q2⟩
theorem UK (d:Ae)(c:UInt8):HM (d++[c])=10*HM d+((c.toNat:Int)-48):=by simp[HM]
theorem T6:∀(d:Ae),d.all CI=true→Do 0 d<10 ^ d.length:=by
 have key:∀(d:Ae) (a m:Nat),d.all CI=true→a<10 ^ m→Do a d<10 ^ (m+d.length):=by
  intro d
  induction d with
  | nil=>intro a m _ h;simpa[Do] using h
  | cons c d ih=>
   intro a m hd h;simp only[AbS,Abk] at hd;have hc:48≤c.toNat∧c.toNat≤57:=by have:=hd.1;simp[CI] at this;omega
   have:=ih (10*a+(c.toNat-48)) (m+1) hd.2 (by rw[Nat.pow_succ];omega);rw[Abf,show m+(d.length+1)=m+1+d.length from by omega];exact this
 intro d hd;have:=key d 0 0 hd (by decide);simpa using this
theorem PT {d:Ae}(hd:d.all CI=true)(hl:d.length≤18):0≤HM d∧HM d<1000000000000000000:=by
 have h1:HM d=(Do 0 d:Int):=JI d 0 hd;have h2:=T6 d hd;have h3:10 ^ d.length≤10 ^ 18:=Nat.pow_le_pow_right (by decide) hl;have:(10:Nat) ^ 18=1000000000000000000:=by decide
 omega
def Hg (d:Ae):Ae:=d.take 18
theorem ZP {D:Ae}{c:UInt8}(h:D.length<18):Hg D=D∧Hg (D++[c])=D++[c]:=by
 unfold Hg;exact⟨List.take_of_length_le (by omega),List.take_of_length_le (by simp;omega)⟩
theorem ZQ {D:Ae}{c:UInt8}(h : ¬ D.length<18):Hg (D++[c])=Hg D:=by
 unfold Hg;rw[List.take_append_of_le_length (by omega)]
theorem U4 {S r D:Ae}{c:UInt8}{a:Int}(body:Int→Int→Option (Stp (Int×Int) (Out (List Ab×Int) (Int×Int))))(hS:S.length≤100000)(hs:Ee (c::r) S)(hD:D.all CI=true)(hDm:D.length≤100000)(ha:(S.length:Int)-(c::r).length-a=D.length)
  (hb:∀x n,body x n=(AY (imp (decide (x<(S.length:Int))) (Cp x (S.length:Int)))<|Bl (((decide (x<(S.length:Int)))&&((decide (48≤(Be S x)))&&(decide ((Be S x)≤57))))) (AY (B2 .i64 (x-a))<|Bl (decide ((x-a)<18)) (AY (B2 .i64 (10*n))<|AY (Cp x (S.length:Int))<|AY (B2 .u8 ((Be S x)-48))<|AY (B2 .i64 ((Be S x)-48))<|AY (B2 .i64 ((10*n)+((Be S x)-48)))<|AY (B2 .i64 (x+1))<|some (.next (x+1,(10*n)+((Be S x)-48)))) (AY (B2 .i64 (x+1))<|some (.next (x+1,n)))) (some (.out (.go (x,n)))))) :
  body ((S.length:Int)-(c::r).length) (HM (Hg D))=bif CI c then some (.next ((S.length:Int)-r.length,HM (Hg (D++[c])))) else some (.out (.go ((S.length:Int)-(c::r).length,HM (Hg D)))):=by
 have hsl:=hs.len;have hbt:Be S ((S.length:Int)-(c::r).length)=c.toNat:=Du hs.get;have hpos:(S.length:Int)-(c::r).length+1=S.length-r.length:=by rw[Abf];omega
 simp only[Abf] at hsl;have hlt:(S.length:Int)-(c::r).length<S.length:=by rw[Abf];omega
 have h0:0≤(S.length:Int)-(c::r).length:=by rw[Abf];omega
 rw[hb,Abm hlt,BS (p:=imp true _) (by rw[LO h0 hlt];rfl),hbt,TP,Abp,ha,hpos]
 cases hd:CI c with
 | false=>rfl
 | true=>
  have hc:48≤c.toNat∧c.toNat≤57:=by simp[CI] at hd;omega
  rw[AK rfl]
  by_cases he:D.length<18
  ·obtain⟨e1,e2⟩:=ZP (c:=c) he;have hbd:=PT hD (by omega);have hf:HM D<100000000000000000:=by
    have h1:HM D=(Do 0 D:Int):=JI D 0 hD;have h2:=T6 D hD;have h3:10 ^ D.length≤10 ^ 17:=Nat.pow_le_pow_right (by decide) (by omega);have:(10:Nat) ^ 17=100000000000000000:=by decide
    omega
   rw[e1,e2,UK,AI (by omega) (by omega),AK (Abm (by omega)),AI (by omega) (by omega),Br h0 hlt,Ha (by omega) (by omega),AI (by omega) (by omega),AI (by omega) (by omega),AI (by omega) (by omega)];rfl
  ·rw[ZQ he];have hle:(D.length:Int)≤9223372036854775807:=by omega
   rw[AI (by omega) hle,A8 (Abi (by omega)),AI (by omega) (by omega)];rfl
theorem NL {S:Ae}{a:Int}(body:Int→Int→Option (Stp (Int×Int) (Out (List Ab×Int) (Int×Int))))(hS:S.length≤100000)
  (hb:∀x n,body x n=(AY (imp (decide (x<(S.length:Int))) (Cp x (S.length:Int)))<|Bl (((decide (x<(S.length:Int)))&&((decide (48≤(Be S x)))&&(decide ((Be S x)≤57))))) (AY (B2 .i64 (x-a))<|Bl (decide ((x-a)<18)) (AY (B2 .i64 (10*n))<|AY (Cp x (S.length:Int))<|AY (B2 .u8 ((Be S x)-48))<|AY (B2 .i64 ((Be S x)-48))<|AY (B2 .i64 ((10*n)+((Be S x)-48)))<|AY (B2 .i64 (x+1))<|some (.next (x+1,(10*n)+((Be S x)-48)))) (AY (B2 .i64 (x+1))<|some (.next (x+1,n)))) (some (.out (.go (x,n)))))) :
  ∀(r D:Ae) (L:Nat),Ee r S→D.all CI=true→(S.length:Int)-r.length-a=D.length→D.length+r.length≤S.length→r.length<L→
  Ca (λσ=>body σ.1 σ.2) L ((S.length:Int)-r.length,HM (Hg D))=some (.go ((S.length:Int)-(BX r).2.length,HM (Hg (D++(BX r).1))))
 | [],D,L,hs,hD,ha,hDl,hL=>by
  obtain⟨L,rfl⟩:∃K,L=K+1:=⟨L-1,by omega⟩
  refine De ?_;show body _ _=_;have e:decide ((S.length:Int)-([]:Ae).length<(S.length:Int))=false:=by simp
  rw[hb,e,BS (p:=imp false _) rfl,A8 (p:=false&&_) rfl];show _=some (Stp.out (Out.go ((S.length:Int)-([]:Ae).length,HM (Hg (D++[])))));rw[AbL]
 | c::r,D,L,hs,hD,ha,hDl,hL=>by
  obtain⟨L,rfl⟩:∃K,L=K+1:=⟨L-1,by omega⟩
  have hst:=U4 body hS hs hD (by omega) ha hb;simp only[Abf] at hL hDl;rw[BX]
  cases hd:CI c with
  | false=>
   rw[hd] at hst;simp only[Abh,AbL];exact De hst
  | true=>
   rw[hd] at hst;simp only[Abj];have:=NL body hS hb r (D++[c]) L hs.tail (by simp[hD,hd]) (by rw[ET];simp only[Abf] at ha;omega) (by rw[ET];omega) (by omega);rw[Ab7] at this;exact G7 hst this
theorem QV {F:Nat}{S:Ae}{c0:UInt8}{r0:Ae}(hS:S.length≤100000)(h:Ee (c0::r0) S)(hF:S.length<F) :
  (∃f w,IP (c0::r0)=some (f,w)∧Ee w S∧IF F S ((S.length:Int)-(c0::r0).length)=some (f.flat,(S.length:Int)-w.length))∨(IP (c0::r0)=none∧IF F S ((S.length:Int)-(c0::r0).length)=some ([],-1)):=by
 have hl:=h.len;have hbt:Be S ((S.length:Int)-(c0::r0).length)=c0.toNat:=Du h.get;have hpos:(S.length:Int)-(c0::r0).length+1=S.length-r0.length:=by rw[Abf];omega
 have hlt:(S.length:Int)-(c0::r0).length<S.length:=by rw[Abf];omega
 have h0:0≤(S.length:Int)-(c0::r0).length:=by omega
 have hf:decide ((c0.toNat:Int)=45)=decide ((c0::r0).head? =some 45):=by
  rw[Abu];simp only[Abd,List.head?_cons,Option.some.injEq,← AbX];show(c0.toNat:Int)=45↔c0.toNat=45;omega
 have fin:∀(neg:Bool) (r:Ae) (a:Int) (k:Int→Int→Option (List Ab×Int)),Ee r S→(S.length:Int)-r.length=a→(∀x n,a≤x→x≤S.length→k x n=(AY (imp (!(decide (x=a))) (imp (decide ((Be S a)=48)) (B2 .i64 (a+1))))<|Bl (((decide (x=a))||((decide ((Be S a)=48))&&((decide ((a+1)<x))||neg)))) (some (([]:List Ab),(-1))) (AY (B2 .i64 (x-a))<|Bl (decide (18<(x-a))) (Bl neg (some (([(Ab.mk 3 (-2000000000000) ([]:Ae) 0)]:List Ab),x)) (some (([(Ab.mk 3 2000000000000 ([]:Ae) 0)]:List Ab),x))) (Bl neg (AY (B2 .i64 (-n))<|some (([(Ab.mk 3 (-n) ([]:Ae) 0)]:List Ab),x)) (some (([(Ab.mk 3 n ([]:Ae) 0)]:List Ab),x))))))→
   k ((S.length:Int)-(BX r).2.length) (HM (Hg (BX r).1))=bif Ed neg (BX r).1 then some ([⟨3,K7 neg (BX r).1,[],0⟩],(S.length:Int)-(BX r).2.length) else some ([],-1):=λneg r a k hr ha hk=>by
  have hrl:=hr.len;have hsplit:=In r;have hlen:r.length=(BX r).1.length+(BX r).2.length:=by conv=>lhs;rw[hsplit,Abl]
  have hd:=IT r;rw[hk _ _ (by omega) (by omega),BS (by
   cases decide ((S.length:Int)-(BX r).2.length=a)<;>cases decide (Be S a=48)<;>simp only[imp,Abq,Aby,Ab5,Ab4,Abt]
   exact HQ (by omega) (by omega)),AI (by omega) (by omega)]
  have hx:(S.length:Int)-(BX r).2.length-a=(BX r).1.length:=by omega
  rw[hx];have hc:(decide ((S.length:Int)-(BX r).2.length=a)||(decide (Be S a=48)&&(decide (a+1<(S.length:Int)-(BX r).2.length)||neg))) = !Ed neg (BX r).1:=by
   unfold Ed
   cases he:(BX r).1 with
   | nil=>
    rw[he] at hlen;rw[Abm (show(S.length:Int)-(BX r).2.length=a by simp only[AbP] at hlen;omega)];rfl
   | cons c d=>
    rw[he] at hlen hsplit;have hg:Be S a=c.toNat:=by
     rw[← ha];have hr':=hr;rw[hsplit] at hr';have:=hr'.get;have e:((S.length:Int)-r.length)=(S.length:Int)-((c::d)++(BX r).2).length:=by rw[← hsplit]
     rw[e];exact Du this
    have hh:decide ((c.toNat:Int)=48)=decide ((c::d).head? =some 48):=by
     rw[Abu];simp only[Abd,List.head?_cons,Option.some.injEq,← AbX];show(c.toNat:Int)=48↔c.toNat=48;omega
    have h1:decide (a+1<(S.length:Int)-(BX r).2.length)=decide (1<(c::d).length):=by rw[Abu];simp only[Abd];omega
    have h2:decide ((S.length:Int)-(BX r).2.length=a)=false:=Abi (by simp only[Abf] at hlen;omega);have h3:decide (c::d=([]:Ae))=false:=by simp
    rw[hg,hh,h1,h2,h3];simp
  rw[hc]
  cases hcan:Ed neg (BX r).1 with
  | false=>rfl
  | true=>
   rw[A8 (p:=!true) rfl];unfold K7
   cases hb:decide (18<(BX r).1.length) with
   | true=>
    rw[AK (Abm (by simp only[Abd] at hb;omega))]
    cases neg<;>rfl
   | false=>
    simp only[Abc] at hb;have e:Hg (BX r).1=(BX r).1:=List.take_of_length_le (by omega);have hbd:=PT hd (by omega);rw[A8 (Abi (by omega)),e]
    cases neg with
    | true=>rw[AK rfl,AI (by omega) (by omega)];rfl
    | false=>rfl
 unfold IF;rw[Br h0 hlt,hbt,hf,hpos];unfold IP;simp only
 cases hn:decide ((c0::r0).head? =some 45) with
 | true=>
  have hr:Ee r0 S:=h.tail;have hl2:=hr.len;have hlop:Ca (λσ=>Gi S ((S.length:Int)-(c0::r0).length) σ.1 σ.2) F ((S.length:Int)-r0.length,0)=some (.go ((S.length:Int)-(BX r0).2.length,HM (Hg ([]++(BX r0).1)))):=NL (a:=(S.length:Int)-(c0::r0).length+1) (λx n=>Gi S ((S.length:Int)-(c0::r0).length) x n) hS (λx n=>rfl) r0 [] F hr rfl (by rw[hpos];simp) (by simp;omega) (by omega);rw[AK rfl,AI (by omega) (by omega),AU hlop,Di];have:=fin true r0 ((S.length:Int)-(c0::r0).length+1) (Gg S ((S.length:Int)-(c0::r0).length)) hr (by rw[hpos]) (λx n hx1 hx2=>by
   unfold Gg;have e1:decide ((S.length:Int)-(c0::r0).length<(S.length:Int)-(c0::r0).length+1)=true:=Abm (by omega);have e2:imp (!(decide (x=((S.length:Int)-(c0::r0).length+1)))) (Cp ((S.length:Int)-(c0::r0).length+1) (S.length:Int))=true:=by
    cases hd:decide (x=((S.length:Int)-(c0::r0).length+1)) with
    | true=>rfl
    | false=>
     simp only[Abc] at hd;rw[LO (by omega) (by omega)];rfl
   have e3:∀y:Option (List Ab×Int),AY (B2 .i64 (-2000000000000)) y=y:=λy=>AI (by decide) (by decide);rw[e1,BS e2,e3])
  simp only[AbU];rw[this];have hw:Ee (BX r0).2 S:=by have:=In r0;rw[this] at hr;exact hr.app
  simp only[Abj,List.tail_cons]
  cases Ed true (BX r0).1 with
  | true=>exact .inl ⟨_,_,rfl,hw,rfl⟩
  | false=>exact .inr ⟨rfl,rfl⟩
 | false=>
  have hl2:=h.len;have hlop:Ca (λσ=>Gh S ((S.length:Int)-(c0::r0).length) σ.1 σ.2) F ((S.length:Int)-(c0::r0).length,0)=some (.go ((S.length:Int)-(BX (c0::r0)).2.length,HM (Hg ([]++(BX (c0::r0)).1)))):=NL (a:=(S.length:Int)-(c0::r0).length) (λx n=>Gh S ((S.length:Int)-(c0::r0).length) x n) hS (λx n=>rfl) (c0::r0) [] F h rfl (by simp) (by simpa using hl) (by omega);rw[A8 rfl,AU hlop,Di];have:=fin false (c0::r0) ((S.length:Int)-(c0::r0).length) (Gf S ((S.length:Int)-(c0::r0).length)) h rfl (λx n hx1 hx2=>by
   unfold Gf;have e1:decide ((S.length:Int)-(c0::r0).length<(S.length:Int)-(c0::r0).length)=false:=Abi (by omega);have e3:∀y:Option (List Ab×Int),AY (B2 .i64 (-2000000000000)) y=y:=λy=>AI (by decide) (by decide);rw[e1,e3])
  simp only[AbU];rw[this];have hw:Ee (BX (c0::r0)).2 S:=by have:=In (c0::r0);rw[this] at h;exact h.app
  simp only[Abh]
  cases Ed false (BX (c0::r0)).1 with
  | true=>exact .inl ⟨_,_,rfl,hw,rfl⟩
  | false=>exact .inr ⟨rfl,rfl⟩
theorem OU (b:Bool):∀(n:Nat) (s t u:Ae),s.length=n→CM b s=some (t,u)→∃p,s=p++34::u:=by
 intro n
 induction n using Nat.strongRecOn with
 | ind n ih=>
  intro s t u hn h
  cases s with
  | nil=>cases h
  | cons c r=>
   simp only[Abf] at hn;rw[EC] at h
   cases h1:decide (c=34) with
   | true=>
    rw[h1] at h;cases h;simp only[Abd] at h1;exact⟨[],by rw[h1];rfl⟩
   | false=>
    rw[h1] at h;simp only[Abh] at h
    cases h2:(b&&!KD c) with
    | true=>rw[h2] at h;cases h
    | false=>
     rw[h2] at h;simp only[Abh] at h
     cases h3:decide (c=92) with
     | true=>
      rw[h3] at h
      cases r with
      | nil=>cases h
      | cons d r'=>
       simp only[Abj] at h
       cases h4:(decide (d=34)||decide (d=92)) with
       | false=>rw[h4] at h;cases h
       | true=>
        rw[h4] at h;simp only[Abj] at h
        cases h5:CM b r' with
        | none=>rw[h5] at h;cases h
        | some q=>
         obtain⟨t',u'⟩:=q;rw[h5] at h;cases h;simp only[Abf] at hn;obtain⟨p,e⟩:=ih r'.length (by omega) r' t' u rfl h5;exact⟨c::d::p,by rw[e];rfl⟩
     | false=>
      rw[h3] at h;simp only[Abh] at h
      cases h5:CM b r with
      | none=>rw[h5] at h;cases h
      | some q=>
       obtain⟨t',u'⟩:=q;rw[h5] at h;cases h;obtain⟨p,e⟩:=ih r.length (by omega) r t' u rfl h5;exact⟨c::p,by rw[e];rfl⟩
theorem R9 {b m:Bool}{last key:Option Ae}{s u:Ae}(h:DL b m last s=some (key,u)):∃p,s=p++u:=by
 unfold DL at h
 cases m with
 | false=>cases h;exact⟨[],rfl⟩
 | true=>
  simp only[Abj] at h
  cases s with
  | nil=>cases h
  | cons c r=>
   simp only at h
   cases h1:decide (c=34) with
   | false=>rw[h1] at h;cases h
   | true=>
    rw[h1] at h;simp only[Abj] at h
    cases h2:CM b r with
    | none=>rw[h2] at h;cases h
    | some q=>
     obtain⟨k,w⟩:=q;obtain⟨p,e⟩:=OU b _ r k w rfl h2;rw[h2] at h;simp only at h
     cases h3:(b&&!BH true last (some k)) with
     | true=>rw[h3] at h;cases h
     | false=>
      rw[h3] at h;simp only[Abh] at h
      cases w with
      | nil=>cases h
      | cons d w'=>
       simp only at h
       cases h4:decide (d=58) with
       | false=>rw[h4] at h;cases h
       | true=>
        rw[h4] at h;cases h;exact⟨c::(p++[34,d]),by rw[e];simp⟩
theorem Rg (b:Bool):∀F:Nat,(∀s f u,GY b F s=some (f,u)→∃p c,s=p++c::u∧c≠44)∧(∀m last s g u,DA b F m last s=some (g,u)→∃p,s=p++Bu m::u)
 | 0=>⟨(λs f u h=>by rw[GY.eq_def] at h;cases h),(λm last s g u h=>by rw[DA.eq_def] at h;cases h)⟩
 | F+1=>by
  obtain⟨ih1,ih2⟩:=Rg b F;have hcl:∀m,Bu m≠44:=λm=>by cases m<;>decide
  constructor
  ·intro s f u h;rw[EP] at h
   cases h1:pre [110,117,108,108] s with
   | some r=>rw[h1] at h;cases h;exact⟨[110,117,108],108,by have e:=Dh h1;exact e,by decide⟩
   | none=>
   rw[h1] at h;simp only at h
   cases h2:pre [116,114,117,101] s with
   | some r=>rw[h2] at h;cases h;exact⟨[116,114,117],101,by have e:=Dh h2;exact e,by decide⟩
   | none=>
   rw[h2] at h;simp only at h
   cases h3:pre [102,97,108,115,101] s with
   | some r=>rw[h3] at h;cases h;exact⟨[102,97,108,115],101,by have e:=Dh h3;exact e,by decide⟩
   | none=>
   rw[h3] at h;simp only at h
   cases s with
   | nil=>cases h
   | cons c r=>
   simp only at h
   cases h4:decide (c=34) with
   | true=>
    rw[h4] at h;simp only[Abj] at h
    cases h5:CM b r with
    | none=>rw[h5] at h;cases h
    | some q=>
     obtain⟨t,w⟩:=q;rw[h5] at h;cases h;obtain⟨p,e⟩:=OU b _ r t u rfl h5;exact⟨c::p,34,by rw[e];rfl,by decide⟩
   | false=>
   rw[h4] at h;simp only[Abh] at h
   cases h5:(decide (c=91)||decide (c=123)) with
   | false=>
    rw[h5] at h;simp only[Abh] at h;unfold IP at h;simp only at h;have hsr:∃p,c::r=p++(bif decide ((c::r).head? =some 45) then(c::r).tail else c::r):=by
     cases decide ((c::r).head? =some 45) with
     | true=>exact⟨[c],rfl⟩
     | false=>exact⟨[],rfl⟩
    generalize(bif decide ((c::r).head? =some 45) then(c::r).tail else c::r)=r2 at h hsr
    cases hc:Ed (decide ((c::r).head? =some 45)) (BX r2).1 with
    | false=>rw[hc] at h;cases h
    | true=>
     rw[hc] at h;simp only[Abj,Option.some.injEq,Prod.mk.injEq] at h;obtain⟨_,h⟩:=h;obtain⟨p,e⟩:=hsr;have hne:(BX r2).1≠[]:=by
      intro e';rw[e'] at hc
      cases decide ((c::r).head? =some 45)<;>cases hc
     have hd:=IT r2;have hl:=List.dropLast_concat_getLast hne;have hlast:CI ((BX r2).1.getLast hne)=true:=List.all_eq_true.1 hd _ (List.getLast_mem hne);refine⟨p++(BX r2).1.dropLast,(BX r2).1.getLast hne,?_,λe'=>by rw[e'] at hlast;cases hlast⟩;rw[e,← h]
     conv=>lhs;rw[In r2,← hl]
     simp
   | true=>
   rw[h5] at h;simp only[Abj] at h
   cases r with
   | nil=>cases h
   | cons d r'=>
   simp only at h
   cases h6:decide (d=Bu (decide (c=123))) with
   | true=>
    rw[h6] at h;cases h;simp only[Abd] at h6;exact⟨[c],d,rfl,by rw[h6];exact hcl _⟩
   | false=>
   rw[h6] at h;simp only[Abh] at h
   cases h7:DA b F (decide (c=123)) none (d::r') with
   | none=>rw[h7] at h;cases h
   | some q=>
    obtain⟨g,w⟩:=q;rw[h7] at h;cases h;obtain⟨p,e⟩:=ih2 _ _ _ _ _ h7;exact⟨c::p,_,by rw[e];rfl,hcl _⟩
  ·intro m last s g u h;rw[Dy] at h
   cases h1:DL b m last s with
   | none=>rw[h1] at h;cases h
   | some q=>
   obtain⟨key,s1⟩:=q;obtain⟨p1,e1⟩:=R9 h1;rw[h1] at h;simp only at h
   cases h2:GY b F s1 with
   | none=>rw[h2] at h;cases h
   | some q=>
   obtain⟨f,s2⟩:=q;obtain⟨p2,c2,e2,_⟩:=ih1 _ _ _ h2;rw[h2] at h;simp only at h
   cases s2 with
   | nil=>cases h
   | cons c s3=>
   simp only at h
   cases h3:decide (c=Bu m) with
   | true=>
    rw[h3] at h;cases h;simp only[Abd] at h3;exact⟨p1++p2++[c2],by rw[e1,e2,h3];simp⟩
   | false=>
   rw[h3] at h;simp only[Abh] at h
   cases h4:decide (c=44) with
   | false=>rw[h4] at h;cases h
   | true=>
   rw[h4] at h;simp only[Abj] at h
   cases h5:DA b F m key s3 with
   | none=>rw[h5] at h;cases h
   | some q=>
    obtain⟨g',w⟩:=q;rw[h5] at h;cases h;obtain⟨p3,e3⟩:=ih2 _ _ _ _ _ h5;exact⟨p1++p2++[c2,c]++p3,by rw[e1,e2,e3];simp⟩
def rMB (cl:Ae)(F:Nat)(s:Ae)(hh:Ae→Int→Option ((List Ab)×Int))(hg:(List Ab))(hb:Int)(ha:Ab):Option (Stp ((List Ab)×Int×Ab) (Out ((List Ab)×Int) ((List Ab)×Int×Ab))):=
 AY ((B5 s hb cl).isSome)<|AY (imp (!(!(ov (B5 s hb cl)))) (imp (decide (0<ha.fN)) (B2 .i64 (hb-1))))<|AY (imp (!(!(ov (B5 s hb cl)))) (imp (decide (0<ha.fN)) (Cp (hb-1) (s.length:Int))))<|Bl (((!(ov (B5 s hb cl)))||((decide (0<ha.fN))&&(decide ((Be s (hb-1))=44))))) (Bl (decide (ha.fKind=6)) (B0 (Dl F s hb) λhd=>AY (imp (!(decide (hd.2<0))) ((B5 s hd.2 ([58]:Ae)).isSome))<|Bl (((decide (hd.2<0))||(!(ov (B5 s hd.2 ([58]:Ae)))))) (some (.out (.ret (([]:List Ab),(-1))))) (AY (Dz 40 (hg.length+([(Ab.mk 4 0 hd.1 0)]:List Ab).length))<|AY (B2 .i64 (hd.2+1))<|B0 (hh s (hd.2+1)) λhe=>Bl (decide (he.2<0)) (some (.out (.ret (([]:List Ab),(-1))))) (AY (Dz 40 ((hg++([(Ab.mk 4 0 hd.1 0)]:List Ab)).length+he.1.length))<|AY (B2 .i64 (ha.fN+1))<|B0 (B5 s he.2 ([44]:Ae)) λhi=>Bl (hi) (AY (B2 .i64 (he.2+1))<|some (.next ((hg++([(Ab.mk 4 0 hd.1 0)]:List Ab))++he.1,he.2+1,(Ab.mk ha.fKind ha.fInt ha.fStr (ha.fN+1))))) (B0 (B5 s he.2 cl) λhj=>Bl (!hj) (some (.out (.ret (([]:List Ab),(-1))))) (some (.next ((hg++([(Ab.mk 4 0 hd.1 0)]:List Ab))++he.1,he.2,(Ab.mk ha.fKind ha.fInt ha.fStr (ha.fN+1))))))))) (B0 (hh s hb) λhf=>Bl (decide (hf.2<0)) (some (.out (.ret (([]:List Ab),(-1))))) (AY (Dz 40 (hg.length+hf.1.length))<|AY (B2 .i64 (ha.fN+1))<|B0 (B5 s hf.2 ([44]:Ae)) λhk=>Bl (hk) (AY (B2 .i64 (hf.2+1))<|some (.next (hg++hf.1,hf.2+1,(Ab.mk ha.fKind ha.fInt ha.fStr (ha.fN+1))))) (B0 (B5 s hf.2 cl) λhl=>Bl (!hl) (some (.out (.ret (([]:List Ab),(-1))))) (some (.next (hg++hf.1,hf.2,(Ab.mk ha.fKind ha.fInt ha.fStr (ha.fN+1))))))))) (some (.out (.go (hg,hb,ha))))
def ZV (F P:Nat)(S u:Ae):Prop:=
 (∃f w,GY false P u=some (f,w)∧Ee w S∧Hd F S ((S.length:Int)-u.length)=some (f.flat,(S.length:Int)-w.length))∨(GY false P u=none∧∃v,Hd F S ((S.length:Int)-u.length)=some (v,-1))
abbrev Zm (m:Bool)(F:Nat)(S:Ae)(G:Nat):List Ab×Int×Ab→Option (Stp (List Ab×Int×Ab) (Out (List Ab×Int) (List Ab×Int×Ab))):=λσ=>rMB [Bu m] F S (Hd G) σ.1 σ.2.1 σ.2.2
def hd (m:Bool)(N:Int):Ab:=⟨bif m then 6 else 5,0,[],N⟩
theorem Y9 (m:Bool)(N:Int):decide ((hd m N).fKind=6)=m:=by cases m<;>rfl
theorem U2 {m:Bool}{F G P:Nat}{S u:Ae}{out:List Ab}{N:Int}(hS:S.length≤100000)(hs:Ee u S)(hF:S.length<F)(hN0:0≤N)(hN:N≤200000)(ho:out.length+u.length≤S.length)(hA:(pre [Bu m] u).isSome=false∨(0<N∧Ee (44::u) S))
  (hR:∀w,Ee w S→w.length≤u.length→ZV G P S w) :
  (∃v,Zm m F S G (out,(S.length:Int)-u.length,hd m N)=some (.out (.ret (v,-1)))∧(DL false m none u=none∨∃key s1,DL false m none u=some (key,s1)∧(GY false P s1=none∨∃f s2,GY false P s1=some (f,s2)∧∀c s3,s2=c::s3→decide (c=Bu m)=false∧decide (c=44)=false)))∨
  ∃key s1 f s2,DL false m none u=some (key,s1)∧GY false P s1=some (f,s2)∧Ee s2 S∧((∃s3,s2=Bu m::s3∧Zm m F S G (out,(S.length:Int)-u.length,hd m N)=some (.next (out++(B8 key++f.flat),(S.length:Int)-s2.length,hd m (N+1))))∨(∃s3,s2=44::s3∧Zm m F S G (out,(S.length:Int)-u.length,hd m N)=some (.next (out++(B8 key++f.flat),(S.length:Int)-s3.length,hd m (N+1))))):=by
 have hsl:=hs.len;have hb0:Zm m F S G (out,(S.length:Int)-u.length,hd m N)=rMB [Bu m] F S (Hd G) out ((S.length:Int)-u.length) (hd m N):=rfl;have hst:=CX (w:=[Bu m]) hS (by simp) hs;have htest:rMB [Bu m] F S (Hd G) out ((S.length:Int)-u.length) (hd m N)=Bl m (B0 (Dl F S ((S.length:Int)-u.length)) λha=>AY (imp (!(decide (ha.2<0))) ((B5 S ha.2 ([58]:Ae)).isSome))<|Bl (((decide (ha.2<0))||(!(ov (B5 S ha.2 ([58]:Ae)))))) (some (.out (.ret (([]:List Ab),(-1))))) (AY (Dz 40 (out.length+([(Ab.mk 4 0 ha.1 0)]:List Ab).length))<|AY (B2 .i64 (ha.2+1))<|B0 (Hd G S (ha.2+1)) λhb=>Bl (decide (hb.2<0)) (some (.out (.ret (([]:List Ab),(-1))))) (AY (Dz 40 ((out++([(Ab.mk 4 0 ha.1 0)]:List Ab)).length+hb.1.length))<|AY (B2 .i64 (N+1))<|B0 (B5 S hb.2 ([44]:Ae)) λhi=>Bl (hi) (AY (B2 .i64 (hb.2+1))<|some (.next ((out++([(Ab.mk 4 0 ha.1 0)]:List Ab))++hb.1,hb.2+1,hd m (N+1)))) (B0 (B5 S hb.2 [Bu m]) λhj=>Bl (!hj) (some (.out (.ret (([]:List Ab),(-1))))) (some (.next ((out++([(Ab.mk 4 0 ha.1 0)]:List Ab))++hb.1,hb.2,hd m (N+1)))))))) (B0 (Hd G S ((S.length:Int)-u.length)) λhe=>Bl (decide (he.2<0)) (some (.out (.ret (([]:List Ab),(-1))))) (AY (Dz 40 (out.length+he.1.length))<|AY (B2 .i64 (N+1))<|B0 (B5 S he.2 ([44]:Ae)) λhk=>Bl (hk) (AY (B2 .i64 (he.2+1))<|some (.next (out++he.1,he.2+1,hd m (N+1)))) (B0 (B5 S he.2 [Bu m]) λhl=>Bl (!hl) (some (.out (.ret (([]:List Ab),(-1))))) (some (.next (out++he.1,he.2,hd m (N+1))))))):=by
  unfold rMB;rw[hst,BS (p:=(some (pre [Bu m] u).isSome).isSome) rfl,Hu,Y9];rcases hA with h0 | ⟨hp,hc⟩
  ·rw[h0,BS (p:=imp (!(!false)) _) rfl,BS (p:=imp (!(!false)) _) rfl,AK (p:=!false||_) rfl];rfl
  ·have hcl:=hc.len;simp only[Abf] at hcl;have hm:Be S ((S.length:Int)-u.length-1)=44:=by
    have:=Du hc.get;rw[Abf] at this;rw[show(S.length:Int)-u.length-1=(S.length:Int)-((u.length+1:Nat):Int) from by omega];exact this
   have hN':decide (0<(hd m N).fN)=true:=Abm hp;rw[hN',hm,HQ (by omega) (by omega),LO (by omega) (by omega),BS (p:=imp _ (imp true true)) (by cases(pre [Bu m] u).isSome<;>rfl),BS (p:=imp _ (imp true true)) (by cases(pre [Bu m] u).isSome<;>rfl),AK (p:=_||(true&&decide ((44:Int)=44))) (by cases(pre [Bu m] u).isSome<;>rfl)];rfl
 rw[hb0,htest];have hh:∀s2:Ae,(pre [44] s2).isSome=match s2 with | []=>false | c::_=>decide (c=44):=λs2=>by
  rw[Jh]
  cases s2 with
  | nil=>rfl
  | cons c s3=>simp only;cases decide (c=44)<;>rfl
 have pcl:∀s2:Ae,(pre [Bu m] s2).isSome=match s2 with | []=>false | c::_=>decide (c=Bu m):=λs2=>by
  rw[Jh]
  cases s2 with
  | nil=>rfl
  | cons c s3=>simp only;cases decide (c=Bu m)<;>rfl
 have hcl44:decide (Bu m=44)=false:=by cases m<;>rfl
 cases m with
 | false=>
  rw[A8 rfl];have hkp:DL false false none u=some (none,u):=rfl;rcases hR u hs (AbA _) with⟨f,s2,q1,q2,q3⟩ | ⟨q1,v,q2⟩
  ·have hfl:=(E4 false P).1 _ _ _ q1;have h2l:=q2.len;rw[q3,AU rfl,A8 (Abi (by simp only;omega)),K2 (by simp only;omega),AI (by omega) (by omega),CX hS (by simp) q2,AU rfl,hh]
   cases s2 with
   | nil=>
    rw[A8 rfl,CX hS (by simp) q2,AU rfl,pcl];exact .inl ⟨[],rfl,.inr ⟨none,u,hkp,.inr ⟨f,[],q1,λc s3 e=>by cases e⟩⟩⟩
   | cons c s3=>
    simp only
    cases hf:decide (c=44) with
    | true=>
     simp only[Abd] at hf;subst hf;simp only[Abf] at h2l;rw[AK rfl,AI (by simp only[Abf];omega) (by simp only[Abf];omega)];refine .inr ⟨none,u,f,_,hkp,q1,q2,.inr ⟨s3,rfl,?_⟩⟩;simp only[Abf,B8,AbU]
     congr 4
     omega
    | false=>
     rw[A8 rfl,CX hS (by simp) q2,AU rfl,pcl];simp only
     cases hcc:decide (c=Bu false) with
     | true=>
      simp only[Abd] at hcc;subst hcc;exact .inr ⟨none,u,f,_,hkp,q1,q2,.inl ⟨s3,rfl,rfl⟩⟩
     | false=>exact .inl ⟨[],rfl,.inr ⟨none,u,hkp,.inr ⟨f,_,q1,λc' s3' e=>by cases e;exact⟨hcc,hf⟩⟩⟩⟩
  ·rw[q2,AU rfl];exact .inl ⟨[],rfl,.inr ⟨none,u,hkp,.inl q1⟩⟩
 | true=>
  rw[AK rfl];rcases JC hS hs hF with⟨r,t,w,e1,e2,e3,e4⟩ | ⟨e1,e2⟩
  ·have hwl:=e3.len;have hwl2:=IE false _ r t w rfl e2;subst e1;have hul:(34::r).length=r.length+1:=rfl;rw[e4,AU rfl];have hkc:DL false true none (34::r)=YN t w:=by rw[LM,e2];rfl
   have hlt:decide ((S.length:Int)-w.length<0)=false:=Abi (by omega);simp only;rw[hlt,CX hS (by simp) e3,BS (p:=imp (!false) (some (pre [58] w).isSome).isSome) rfl,Hu,Jh]
   cases w with
   | nil=>exact .inl ⟨[],rfl,.inl (by rw[hkc];rfl)⟩
   | cons d s1=>
    simp only
    cases hg:decide (d=58) with
    | false=>
     refine .inl ⟨[],rfl,.inl ?_⟩;rw[hkc];show(bif decide (d=58) then _ else none)=none;rw[hg];rfl
    | true=>
     simp only[Abd] at hg;subst hg;have hkp:DL false true none (34::r)=some (some t,s1):=hkc;simp only[Abf] at hwl hwl2;have hpos:(S.length:Int)-(58::s1).length+1=S.length-s1.length:=by rw[Abf];omega
     simp only[Abj];rw[A8 (p:=false||!(some s1).isSome) rfl,K2 (by rw[Ab8];omega),hpos,AI (by omega) (by omega)];rcases hR s1 e3.tail (by omega) with⟨f,s2,q1,q2,q3⟩ | ⟨q1,v,q2⟩
     ·have hfl:=(E4 false P).1 _ _ _ q1;have h2l:=q2.len;rw[q3,AU rfl,A8 (Abi (by simp only;omega)),K2 (by simp only[Abl,Ab8];omega),AI (by omega) (by omega),CX hS (by simp) q2,AU rfl,hh]
      cases s2 with
      | nil=>
       rw[A8 rfl,CX hS (by simp) q2,AU rfl,pcl];exact .inl ⟨[],rfl,.inr ⟨some t,s1,hkp,.inr ⟨f,[],q1,λc s3 e=>by cases e⟩⟩⟩
      | cons c s3=>
       simp only
       cases hf:decide (c=44) with
       | true=>
        simp only[Abd] at hf;subst hf;simp only[Abf] at h2l;rw[AK rfl,AI (by simp only[Abf];omega) (by simp only[Abf];omega)];refine .inr ⟨some t,s1,f,_,hkp,q1,q2,.inr ⟨s3,rfl,?_⟩⟩;simp only[Abf,B8,Ab7]
        congr 4
        omega
       | false=>
        rw[A8 rfl,CX hS (by simp) q2,AU rfl,pcl];simp only
        cases hcc:decide (c=Bu true) with
        | true=>
         simp only[Abd] at hcc;subst hcc;exact .inr ⟨some t,s1,f,_,hkp,q1,q2,.inl ⟨s3,rfl,by rw[Ab7];rfl⟩⟩
        | false=>exact .inl ⟨[],rfl,.inr ⟨some t,s1,hkp,.inr ⟨f,_,q1,λc' s3' e=>by cases e;exact⟨hcc,hf⟩⟩⟩⟩
     ·rw[q2,AU rfl];exact .inl ⟨[],rfl,.inr ⟨some t,s1,hkp,.inl q1⟩⟩
  ·rw[e2,AU rfl];refine .inl ⟨[],?_,.inl (TF _ _ e1)⟩;rfl
theorem Vc (m:Bool)(last:Option Ae)(s:Ae):DL false m last s=DL false m none s:=by
 cases m with
 | false=>rfl
 | true=>
  cases s with
  | nil=>rfl
  | cons c r=>
   by_cases hc:c=34
   ·subst hc;rw[LM,LM]
    cases CM false r with
    | none=>rfl
    | some q=>rfl
   ·show(bif decide (c=34) then _ else none)=(bif decide (c=34) then _ else none);rw[Abi hc];rfl
theorem Pb {m:Bool}{F G:Nat}{S w:Ae}{out:List Ab}{N:Int}(hS:S.length≤100000)(hs:Ee (Bu m::w) S)(hN0:0≤N)(h:N=0∨∃c,c≠44∧Ee (c::Bu m::w) S) :
  Zm m F S G (out,(S.length:Int)-(Bu m::w).length,hd m N)=some (.out (.go (out,(S.length:Int)-(Bu m::w).length,hd m N))):=by
 have hb0:Zm m F S G (out,(S.length:Int)-(Bu m::w).length,hd m N)=rMB [Bu m] F S (Hd G) out ((S.length:Int)-(Bu m::w).length) (hd m N):=rfl;rw[hb0];have hsl:=hs.len;have hp:pre [Bu m] (Bu m::w)=some w:=by rw[Jh];simp
 unfold rMB;rw[CX hS (by simp) hs,hp,BS (p:=(some (some w).isSome).isSome) rfl,Hu];rcases h with h0 | ⟨c,hc,hcs⟩
 ·subst h0;have e:decide (0<(hd m 0).fN)=false:=rfl;rw[e];rfl
 ·have hcl:=hcs.len;simp only[Abf] at hcl hsl;have hbt:Be S ((S.length:Int)-(Bu m::w).length-1)=c.toNat:=by
   have:=Du hcs.get;rw[Abf] at this;rw[show(S.length:Int)-(Bu m::w).length-1=(S.length:Int)-(((Bu m::w).length+1:Nat):Int) from by omega];exact this
  have ha:decide ((c.toNat:Int)=44)=false:=Abi (λe=>hc (by rw[← AbX];show c.toNat=44;omega));have i1:B2 .i64 ((S.length:Int)-(Bu m::w).length-1)=true:=HQ (by simp only[Abf];omega) (by simp only[Abf];omega);have i2:Cp ((S.length:Int)-(Bu m::w).length-1) (S.length:Int)=true:=LO (by simp only[Abf];omega) (by omega);rw[i1,i2,hbt,ha]
  cases decide (0<(hd m N).fN)<;>rfl
def RLk (P:Nat)(m:Bool)(last:Option Ae)(S u:Ae)(out:List Ab)(N:Int)(o:Out (List Ab×Int) (List Ab×Int×Ab)):Prop:=
 (∃G w,DA false P m last u=some (G,w)∧Ee (Bu m::w) S∧o = .go (out++G.flat,(S.length:Int)-(Bu m::w).length,hd m (N+(G.cnt:Int))))∨(DA false P m last u=none∧∃v,o = .ret (v,-1))
theorem Aag {S:Ae}(hS:S.length≤100000):∀n:Nat,
  (∀(F P:Nat) (u:Ae),u.length=n→Ee u S→S.length+2*n+5<F→2*n+2≤P→ZV F P S u)∧
  (∀(m:Bool) (F G P L:Nat) (u:Ae) (last:Option Ae) (out:List Ab) (N:Int),u.length=n→Ee u S→S.length<F→S.length+2*n+5<G→2*n+3≤P→n+1<L→out.length+n≤S.length→0≤N→N+n≤S.length+1→((pre [Bu m] u).isSome=false∨(0<N∧Ee (44::u) S))→
   ∃o,Ca (Zm m F S G) L (out,(S.length:Int)-u.length,hd m N)=some o∧RLk P m last S u out N o):=by
 intro n
 induction n using Nat.strongRecOn with
 | ind n ih=>
 have hV:∀(F P:Nat) (u:Ae),u.length=n→Ee u S→S.length+2*n+5<F→2*n+2≤P→ZV F P S u:=by
  intro F P u hn hs hF hP;obtain⟨F,rfl⟩:∃K,F=K+1:=⟨F-1,by omega⟩
  obtain⟨P,rfl⟩:∃K,P=K+1:=⟨P-1,by omega⟩
  have hsl:=hs.len;unfold ZV;rw[Hd];unfold PD;rw[EP];have word:∀(w:Ae) (k:Nat) (r:Ae),pre w u=some r→w.length=k→Ee r S∧(S.length:Int)-u.length+k=S.length-r.length:=λw k r hp hk=>by
   have e:=Dh hp;have hl:u.length=w.length+r.length:=by rw[e];simp
   refine⟨?_,by omega⟩;rw[e] at hs;exact hs.app
  by_cases hu:u=[]
  ·subst hu;rw[AK (Abm (by simp))];exact .inr ⟨rfl,[],rfl⟩
  have hne:0<u.length:=List.length_pos_iff.2 hu;rw[A8 (Abi (by omega)),CX hS (by decide) hs,AU rfl]
  cases h1:pre [110,117,108,108] u with
  | some r=>
   obtain⟨hr,hp⟩:=word _ 4 r h1 rfl;have hp:(S.length:Int)-u.length+4=S.length-r.length:=hp;rw[AK (p:=(some r).isSome) rfl,hp];refine .inl ⟨_,r,rfl,hr,?_⟩;show(B0 (QX) λr9=>AY (B2 .i64 ((S.length:Int)-r.length))<|some (r9,(S.length:Int)-r.length))=_;unfold QX;rw[AU rfl,AI (by omega) (by omega)];rfl
  | none=>
  rw[A8 (p:=(none:Option Ae).isSome) rfl,CX hS (by decide) hs,AU rfl];simp only
  cases h2:pre [116,114,117,101] u with
  | some r=>
   obtain⟨hr,hp⟩:=word _ 4 r h2 rfl;have hp:(S.length:Int)-u.length+4=S.length-r.length:=hp;rw[AK (p:=(some r).isSome) rfl,hp];refine .inl ⟨_,r,rfl,hr,?_⟩;show(B0 (MP true) λr9=>AY (B2 .i64 ((S.length:Int)-r.length))<|some (r9,(S.length:Int)-r.length))=_;rw[show MP true=some [⟨2,1,[],0⟩] from rfl,AU rfl,AI (by omega) (by omega)];rfl
  | none=>
  rw[A8 (p:=(none:Option Ae).isSome) rfl,CX hS (by decide) hs,AU rfl];simp only
  cases h3:pre [102,97,108,115,101] u with
  | some r=>
   obtain⟨hr,hp⟩:=word _ 5 r h3 rfl;have hp:(S.length:Int)-u.length+5=S.length-r.length:=hp;rw[AK (p:=(some r).isSome) rfl,hp];refine .inl ⟨_,r,rfl,hr,?_⟩;show(B0 (MP false) λr9=>AY (B2 .i64 ((S.length:Int)-r.length))<|some (r9,(S.length:Int)-r.length))=_;rw[show MP false=some [⟨2,0,[],0⟩] from rfl,AU rfl,AI (by omega) (by omega)];rfl
  | none=>
  rw[A8 (p:=(none:Option Ae).isSome) rfl];simp only
  cases u with
  | nil=>exact absurd rfl hu
  | cons c r=>
  have hbt:Be S ((S.length:Int)-(c::r).length)=c.toNat:=Du hs.get;have hpos:(S.length:Int)-(c::r).length+1=S.length-r.length:=by rw[Abf];omega
  simp only[Abf] at hn hsl;have hlt:(S.length:Int)-(c::r).length<S.length:=by rw[Abf];omega
  have h0:0≤(S.length:Int)-(c::r).length:=by rw[Abf];omega
  rw[Br h0 hlt,hbt,Pp];simp only
  cases he:decide (c=34) with
  | true=>
   rw[AK rfl];simp only[Abd] at he;subst he;simp only[Abj];rcases JC hS hs (F:=F) (by omega) with⟨r',t,w,e1,e2,e3,e4⟩ | ⟨e1,e2⟩
   ·cases e1
    rw[e4,e2,AU rfl];exact .inl ⟨_,w,rfl,e3,rfl⟩
   ·rw[e2,e1 r rfl,AU rfl];exact .inr ⟨rfl,_,rfl⟩
  | false=>
  rw[A8 rfl];simp only[Abh];have hi:decide ((c.toNat:Int)=91)=decide (c=91):=by
   rw[Abu,decide_eq_true_iff,decide_eq_true_iff,← AbX];show _↔c.toNat=91;omega
  have hh:decide ((c.toNat:Int)=123)=decide (c=123):=by
   rw[Abu,decide_eq_true_iff,decide_eq_true_iff,← AbX];show _↔c.toNat=123;omega
  rw[hi,hh]
  cases hb:(decide (c=91)||decide (c=123)) with
  | false=>
   rw[A8 rfl];simp only[Abh];rcases QV (F:=F) hS hs (by omega) with⟨f,w,e1,e2,e3⟩ | ⟨e1,e2⟩
   ·rw[e3,AU rfl];exact .inl ⟨f,w,e1,e2,rfl⟩
   ·rw[e2,AU rfl];exact .inr ⟨e1,_,rfl⟩
  | true=>
  rw[AK rfl];simp only[Abj];obtain⟨F,rfl⟩:∃K,F=K+1:=⟨F-1,by omega⟩
  have hmany:∀m:Bool,decide (c=123)=m→(∃f w,Ow false P m r=some (f,w)∧Ee w S∧DF (F+1) S ((S.length:Int)-(c::r).length)=some (f.flat,(S.length:Int)-w.length))∨(Ow false P m r=none∧∃v,DF (F+1) S ((S.length:Int)-(c::r).length)=some (v,-1)):=λm hm=>by
   have hrun:DF (F+1) S ((S.length:Int)-(c::r).length)=B0 (Ca (Zm m F S F) F ([],(S.length:Int)-r.length,hd m 0)) (BT λν=>(AY (Dz 40 (([ν.2.2]:List Ab).length+ν.1.length))<|AY (B2 .i64 (ν.2.1+1))<|some (([ν.2.2]:List Ab)++ν.1,ν.2.1+1))):=by
    rw[DF];unfold Je;rw[Br h0 hlt,hbt,hh,hm,hpos]
    cases m with
    | true=>rw[AK rfl,AI (by omega) (by omega)];rfl
    | false=>rw[A8 rfl,AI (by omega) (by omega)];rfl
   have hend:∀(g:Fo) (w:Ae) (o:Out (List Ab×Int) (List Ab×Int×Ab)),Ee (Bu m::w) S→g.flat.length≤200000→o = .go ([]++g.flat,(S.length:Int)-(Bu m::w).length,hd m (0+(g.cnt:Int)))→BT (λν:List Ab×Int×Ab=>(AY (Dz 40 (([ν.2.2]:List Ab).length+ν.1.length))<|AY (B2 .i64 (ν.2.1+1))<|some (([ν.2.2]:List Ab)++ν.1,ν.2.1+1))) o=some ((nd m g).flat,(S.length:Int)-w.length):=λg w o hsw hgl ho=>by
    have hwl:=hsw.len;simp only[Abf] at hwl;rw[ho,Di,Jm _ _ Io,AbU];simp only;rw[K2 (by rw[Ab8];omega),show(S.length:Int)-(Bu m::w).length+1=S.length-w.length from by rw[Abf];omega,AI (by omega) (by omega),Int.zero_add];rfl
   rw[hrun]
   by_cases hcl:∃w,r=Bu m::w
   ·obtain⟨w,rfl⟩:=hcl;obtain⟨F',rfl⟩:∃K,F=K+1:=⟨F-1,by omega⟩
    have hg:=Pb (F:=F'+1) (G:=F'+1) (out:=[]) (N:=0) hS hs.tail (Ab9 0) (.inl rfl);rw[AU (De hg)];refine .inl ⟨nd m .nil,w,?_,hs.tail.tail,?_⟩
    ·rw[K4,Abm rfl];rfl
    ·exact hend .nil w _ hs.tail (AbJ _) rfl
   ·have hA:(pre [Bu m] r).isSome=false:=by
     rw[Jh]
     cases r with
     | nil=>rfl
     | cons d r'=>
      simp only
      by_cases hd':d=Bu m
      ·exact absurd ⟨r',by rw[hd']⟩ hcl
      ·rw[Abi hd'];rfl
    obtain⟨o,ho1,ho2⟩:=(ih r.length (by omega)).2 m F F P F r none [] 0 rfl hs.tail (by omega) (by omega) (by omega) (by omega) (by simp;omega) (Ab9 0) (by omega) (.inl hA);rw[AU ho1];have hbk:Ow false P m r=match DA false P m none r with
      | none=>none
      | some (g,u)=>some (nd m g,u):=by
     cases r with
     | nil=>
      have:DA false P m none []=none:=by
       cases hp:DA false P m none [] with
       | none=>rfl
       | some q=>obtain⟨g,u⟩:=q;exact absurd ((DW false P).2 _ _ _ _ _ hp).1 (by simp)
      rw[this];rfl
     | cons d r'=>
      rw[K4]
      by_cases hd':d=Bu m
      ·exact absurd ⟨r',by rw[hd']⟩ hcl
      ·rw[Abi hd'];rfl
    rw[hbk];rcases ho2 with⟨g,w,q1,q2,q3⟩ | ⟨q1,v,q2⟩
    ·rw[q1];have hgl:=(E4 false P).2 _ _ _ _ _ q1;exact .inl ⟨_,w,rfl,q2.tail,hend g w o q2 (by omega) q3⟩
    ·rw[q1,q2];exact .inr ⟨rfl,v,rfl⟩
  have hgoal:(∃f w,Ow false P (decide (c=123)) r=some (f,w)∧Ee w S∧(B0 (DF (F+1) S ((S.length:Int)-(c::r).length)) λha=>some (ha.1,ha.2))=some (f.flat,(S.length:Int)-w.length))∨(Ow false P (decide (c=123)) r=none∧∃v,(B0 (DF (F+1) S ((S.length:Int)-(c::r).length)) λha=>some (ha.1,ha.2))=some (v,-1)):=by
   rcases hmany (decide (c=123)) rfl with⟨f,w,q1,q2,q3⟩ | ⟨q1,v,q2⟩
   ·rw[q3,AU rfl];exact .inl ⟨f,w,q1,q2,rfl⟩
   ·rw[q2,AU rfl];exact .inr ⟨q1,v,rfl⟩
  cases r with
  | nil=>exact hgoal
  | cons d r'=>exact hgoal
 refine⟨hV,?_⟩;intro m F G P L u last out N hn hs hF hG hP hL hb hN0 hN hA;obtain⟨P,rfl⟩:∃K,P=K+1:=⟨P-1,by omega⟩
 obtain⟨L,rfl⟩:∃K,L=K+1:=⟨L-1,by omega⟩
 have hsl:=hs.len;have hR:∀w,Ee w S→w.length≤u.length→ZV G P S w:=λw hw hwl=>by
  rcases Nat.lt_or_eq_of_le hwl with h | h
  ·exact(ih w.length (by omega)).1 G P w rfl hw (by omega) (by omega)
  ·exact hV G P w (by omega) hw (by omega) (by omega)
 unfold RLk;rw[Dy,Vc];rcases U2 (P:=P) (N:=N) (out:=out) hS hs hF hN0 (by omega) (by omega) hA hR with⟨v,hb1,hf⟩ | ⟨key,s1,f,s2,k1,k2,k3,h⟩
 ·refine⟨_,De hb1,.inr ⟨?_,v,rfl⟩⟩;rcases hf with hf | ⟨key,s1,hk,hf | ⟨f,s2,hf,hno⟩⟩
  ·rw[hf]
  ·rw[hk];simp only[hf]
  ·rw[hk];simp only[hf]
   cases s2 with
   | nil=>rfl
   | cons c s3=>
    obtain⟨a,b⟩:=hno c s3 rfl;simp only[a,b,Abh]
 ·obtain⟨l1,ho⟩:=(DW false P).1 _ _ _ k2;have l2:=(E4 false P).1 _ _ _ k2;have l3:=Pn k1;rw[k1];simp only[k2];rcases h with⟨s3,e,hb1⟩ | ⟨s3,e,hb1⟩
  ·subst e;obtain⟨L,rfl⟩:∃K,L=K+1:=⟨L-1,by omega⟩
   obtain⟨pp,c,e,hc⟩:=(Rg false P).1 _ _ _ k2;obtain⟨p1,e1⟩:=R9 k1;have hcs:Ee (c::Bu m::s3) S:=by
    obtain⟨q,e2⟩:=hs;exact⟨q++p1++pp,by rw[e2,e1,e];simp⟩
   have hg:=Pb (F:=F) (G:=G) (out:=out++(B8 key++f.flat)) (N:=N+1) hS k3 (by omega) (.inr ⟨c,hc,hcs⟩);refine⟨_,G7 hb1 (De hg),.inl ⟨f.put key .nil,s3,?_,k3,?_⟩⟩
   ·simp only[decide_true,Abj]
   ·rw[EO ho,Np ho];simp only[Fo.flat,Fo.cnt,AbL]
    congr 4
  ·subst e;have hj:decide ((44:UInt8)=Bu m)=false:=by cases m<;>rfl
   simp only[Abf] at l1 l2;obtain⟨o,ho1,ho2⟩:=(ih s3.length (by omega)).2 m F G P L s3 key (out++(B8 key++f.flat)) (N+1) rfl k3.tail hF (by omega) (by omega) (by omega) (by rw[Abl,Abl];omega) (by omega) (by omega) (.inr ⟨by omega,k3⟩);refine⟨o,G7 hb1 ho1,?_⟩;simp only[hj,Abh,decide_true,Abj];rcases ho2 with⟨g,w,q1,q2,q3⟩ | ⟨q1,v,q2⟩
   ·rw[q1];refine .inl ⟨f.put key g,w,rfl,q2,?_⟩;rw[q3,EO ho,Np ho];simp only[Ab7]
    congr 4
    omega
   ·rw[q1];exact .inr ⟨rfl,v,q2⟩
theorem Wa {S:Ae}(hS:S.length≤100000){F P:Nat}(hF:3*S.length+6≤F)(hP:2*S.length+2≤P):ZV F P S S:=
 (Aag hS S.length).1 F P S rfl ⟨[],rfl⟩ (by omega) hP
theorem QM:∀(n:Nat) (s:Ae),s.length=n→CM true s=match CM false s with
  | none=>none
  | some (t,u)=>bif t.all KD then some (t,u) else none:=by
 intro n
 induction n using Nat.strongRecOn with
 | ind n ih=>
  intro s hn
  cases s with
  | nil=>rfl
  | cons c r=>
   simp only[Abf] at hn;rw[EC,EC]
   cases h1:decide (c=34) with
   | true=>rfl
   | false=>
    simp only[Abh,Abp,Abw]
    cases h3:decide (c=92) with
    | true=>
     have hc:KD c=true:=by simp only[Abd] at h3;subst h3;rfl
     rw[hc]
     cases r with
     | nil=>rfl
     | cons d r'=>
      simp only[Abq,Abh,Abj];simp only[Abf] at hn
      cases h4:(decide (d=34)||decide (d=92)) with
      | false=>rfl
      | true=>
       have hd:KD d=true:=by
        simp only[AbC,Abd] at h4;rcases h4 with e | e<;>subst e<;>rfl
       simp only[Abj];rw[ih r'.length (by omega) r' rfl]
       cases CM false r' with
       | none=>rfl
       | some q=>
        obtain⟨t,u⟩:=q;simp only[AbS,hd,Abp]
        cases t.all KD<;>rfl
    | false=>
     simp only[Abh];rw[ih r.length (by omega) r rfl]
     cases hc:KD c with
     | false=>
      simp only[Aby,Abj]
      cases CM false r with
      | none=>rfl
      | some q=>obtain⟨t,u⟩:=q;simp[hc]
     | true=>
      simp only[Abq,Abh]
      cases CM false r with
      | none=>rfl
      | some q=>
       obtain⟨t,u⟩:=q;simp only[AbS,hc,Abp]
       cases t.all KD<;>rfl
theorem WP (m:Bool)(last:Option Ae)(s:Ae):DL true m last s=match DL false m none s with
  | none=>none
  | some (k,u)=>bif BH m last k then some (k,u) else none:=by
 cases m with
 | false=>rfl
 | true=>
  cases s with
  | nil=>rfl
  | cons c r=>
   unfold DL;simp only[Abj,Abp,Abw,Abh]
   cases hc:decide (c=34) with
   | false=>rfl
   | true=>
    simp only[Abj];rw[QM _ r rfl]
    cases CM false r with
    | none=>rfl
    | some q=>
     obtain⟨t,u⟩:=q;simp only
     cases ht:t.all KD with
     | false=>
      have hk:BH true last (some t)=false:=by simp[BH,ht]
      simp only[Abh]
      cases u with
      | nil=>rfl
      | cons d u'=>
       simp only
       cases decide (d=58) with
       | false=>rfl
       | true=>simp only[Abj,hk];rfl
     | true=>
      simp only[Abj]
      cases u with
      | nil=>cases BH true last (some t)<;>rfl
      | cons d u'=>
       simp only
       cases decide (d=58) with
       | false=>cases BH true last (some t)<;>rfl
       | true=>cases hk:BH true last (some t)<;>simp[hk]
def plr (c:Ab):Bool:=bif decide (c.fKind=4) then decide (c.fInt=0)&&decide (c.fN=0) else pl c
def Fo.rw:Bool→Fo→Bool
 | _,.nil=>true
 | m,.cell k c r=>(k.isSome ==m)&&plr c&&!decide (0<c.fN)&&r.rw m
 | m,.node k c kids r=>(k.isSome ==m)&&plr c&&decide (0<c.fN)&&decide (c.fN=kids.cnt)&&kids.rw (decide (c.fKind=6))&&r.rw m
theorem Tx {m:Bool}{last k:Option Ae}{r:List Ab}(h:(k.isSome ==m)=true):IN m last (B8 k++r)=bif BH m last k then some (k,r) else none:=by
 cases hk:BH m last k with
 | true=>exact PM hk
 | false=>
  cases k with
  | none=>
   have hm:m=false:=by cases m<;>simp_all
   subst hm
   cases hk
  | some s=>
   have hm:m=true:=by cases m<;>simp_all
   subst hm;show(bif pl ⟨4,0,s,0⟩&&decide ((4:Int)=4)&&BH true last (some s) then _ else none)=_;rw[hk,Ab0];rfl
theorem Nr:∀(f:Fo) (m:Bool) (last:Option Ae) (ys:List Ab),f.rw m=true→Nc m last f.cnt (f.flat++ys)=bif f.wf m last then some (f,ys) else none
 | .nil,_,_,_,_=>rfl
 | .cell k c r,m,last,ys,hw=>by
  simp only[Fo.rw,Abk,Abz] at hw;obtain⟨⟨⟨w1,w2⟩,w3⟩,w4⟩:=hw;simp only[Fo.cnt,Fo.flat,Ab7,AbY];rw[Gl,Tx w1];simp only[Fo.wf,w3,Aby,Abx]
  cases BH m last k with
  | false=>rfl
  | true=>
   simp only[Abj,GD,w3,Abh,Abp]
   cases hp:pl c with
   | false=>rfl
   | true=>
    simp only[Abq,Abh,Nr r m k ys w4,Abp]
    cases r.wf m k<;>rfl
 | .node k c kids r,m,last,ys,hw=>by
  simp only[Fo.rw,Abk,Abd] at hw;obtain⟨⟨⟨⟨⟨w1,w2⟩,w3⟩,w5⟩,w6⟩,w4⟩:=hw;simp only[Fo.cnt,Fo.flat,Ab7,AbY];rw[Gl,Tx w1];have e:c.fN.toNat=kids.cnt:=by omega
  have w5':decide (c.fN=kids.cnt)=true:=Abm w5;simp only[Fo.wf,Abm w3,w5',Abx]
  cases BH m last k with
  | false=>rfl
  | true=>
   simp only[Abj,GD,Abm w3,Abp]
   cases hp:pl c with
   | false=>rfl
   | true=>
    simp only[Abq,Abh,e,Nr kids _ none (r.flat++ys) w6,Abp]
    cases kids.wf (decide (c.fKind=6)) none with
    | false=>rfl
    | true=>
     simp only[Abj,Nr r m k ys w4,Abp]
     cases r.wf m k<;>rfl
theorem Wf {f:Fo}(h:f.one=true)(m:Bool)(last key:Option Ae)(r:Fo):(f.put key r).wf m last=(BH m last key&&f.wf false none&&r.wf m key):=by
 cases f with
 | nil=>cases h
 | cell k c r'=>
  cases k with
  | some _=>cases h
  | none=>cases r' with
   | nil=>simp[Fo.put,Fo.wf,BH,Bool.and_assoc]
   | cell _ _ _=>cases h
   | node _ _ _ _=>cases h
 | node k c kids r'=>
  cases k with
  | some _=>cases h
  | none=>cases r' with
   | nil=>simp[Fo.put,Fo.wf,BH,Bool.and_assoc]
   | cell _ _ _=>cases h
   | node _ _ _ _=>cases h
theorem Wg {f:Fo}(h:f.one=true)(m:Bool)(key:Option Ae)(r:Fo):(f.put key r).rw m=((key.isSome ==m)&&f.rw false&&r.rw m):=by
 cases f with
 | nil=>cases h
 | cell k c r'=>
  cases k with
  | some _=>cases h
  | none=>cases r' with
   | nil=>simp[Fo.put,Fo.rw,Bool.and_assoc]
   | cell _ _ _=>cases h
   | node _ _ _ _=>cases h
 | node k c kids r'=>
  cases k with
  | some _=>cases h
  | none=>cases r' with
   | nil=>simp[Fo.put,Fo.rw,Bool.and_assoc]
   | cell _ _ _=>cases h
   | node _ _ _ _=>cases h
theorem T5 (m:Bool)(g:Fo):(nd m g).wf false none=g.wf m none∧(nd m g).rw false=g.rw m:=by
 unfold nd
 cases hd:decide (g.cnt=0) with
 | true=>
  simp only[Abd] at hd;rw[Io hd]
  cases m<;>exact⟨rfl,rfl⟩
 | false=>
  simp only[Abc] at hd;have h1:decide ((0:Int)<(g.cnt:Int))=true:=Abm (by omega);have h2:decide ((0:Int)≤(g.cnt:Int))=true:=Abm (by omega)
  cases m<;>simp[Fo.wf,Fo.rw,BH,pl,plr]<;>omega
theorem Vb {m:Bool}{last k:Option Ae}{s u:Ae}{b:Bool}(h:DL b m last s=some (k,u)):(k.isSome ==m)=true:=by
 unfold DL at h
 cases m with
 | false=>cases h;rfl
 | true=>
  simp only[Abj] at h
  cases s with
  | nil=>cases h
  | cons c r=>
   simp only at h
   cases h1:decide (c=34) with
   | false=>rw[h1] at h;cases h
   | true=>
    rw[h1] at h;simp only[Abj] at h
    cases h2:CM b r with
    | none=>rw[h2] at h;cases h
    | some q=>
     obtain⟨t,w⟩:=q;rw[h2] at h;simp only at h
     cases h3:(b&&!BH true last (some t)) with
     | true=>rw[h3] at h;cases h
     | false=>
      rw[h3] at h;simp only[Abh] at h
      cases w with
      | nil=>cases h
      | cons d w'=>
       simp only at h
       cases h4:decide (d=58) with
       | false=>rw[h4] at h;cases h
       | true=>rw[h4] at h;cases h;rfl
theorem Nu:∀F:Nat,(∀s,GY true F s=(match GY false F s with
   | none=>none
   | some (f,u)=>bif f.wf false none then some (f,u) else none)∧∀f u,GY false F s=some (f,u)→f.rw false=true)∧
  (∀m last last' s,DA true F m last s=(match DA false F m last' s with
   | none=>none
   | some (g,u)=>bif g.wf m last then some (g,u) else none)∧∀g u,DA false F m last' s=some (g,u)→g.rw m=true)
 | 0=>⟨λs=>⟨by rw[GY.eq_def,GY.eq_def],(λf u h=>by rw[GY.eq_def] at h;cases h)⟩,λm last last' s=>⟨by rw[DA.eq_def,DA.eq_def],(λg u h=>by rw[DA.eq_def] at h;cases h)⟩⟩
 | F+1=>by
  obtain⟨ih1,ih2⟩:=Nu F;have lfw:∀k i t,pl ⟨k,i,t,0⟩=true→(lf k i t).wf false none=true:=λk i t h=>by simp[lf,Fo.wf,BH,h]
  have lfr:∀k i t,plr ⟨k,i,t,0⟩=true→(lf k i t).rw false=true:=λk i t h=>by simp[lf,Fo.rw,h]
  constructor
  ·intro s;rw[EP,EP]
   cases h1:pre [110,117,108,108] s with
   | some r=>exact⟨rfl,λf u h=>by cases h;rfl⟩
   | none=>
   simp only
   cases h2:pre [116,114,117,101] s with
   | some r=>exact⟨rfl,λf u h=>by cases h;rfl⟩
   | none=>
   simp only
   cases h3:pre [102,97,108,115,101] s with
   | some r=>exact⟨rfl,λf u h=>by cases h;rfl⟩
   | none=>
   simp only
   cases s with
   | nil=>exact⟨rfl,λf u h=>by cases h⟩
   | cons c r=>
   simp only
   cases h4:decide (c=34) with
   | true=>
    simp only[Abj];rw[QM _ r rfl]
    cases hq:CM false r with
    | none=>exact⟨rfl,λf u h=>by cases h⟩
    | some q=>
     obtain⟨t,u⟩:=q;simp only;have e:(lf 4 0 t).wf false none=t.all KD:=by simp[lf,Fo.wf,BH,pl]
     rw[e];refine⟨by cases t.all KD<;>rfl,λf u' h=>by cases h;exact lfr 4 0 t rfl⟩
   | false=>
   simp only[Abh]
   cases h5:(decide (c=91)||decide (c=123)) with
   | false=>
    simp only[Abh]
    cases hi:IP (c::r) with
    | none=>exact⟨rfl,λf u h=>by cases h⟩
    | some q=>
     obtain⟨f,u⟩:=q;have hf:f.wf false none=true∧f.rw false=true:=by
      unfold IP at hi;simp only at hi
      cases hc:Ed (decide ((c::r).head? =some 45)) (BX (bif decide ((c::r).head? =some 45) then(c::r).tail else c::r)).1 with
      | false=>rw[hc] at hi;cases hi
      | true=>rw[hc] at hi;cases hi;exact⟨rfl,rfl⟩
     refine⟨by simp only[hf.1];rfl,λf' u' h=>by cases h;exact hf.2⟩
   | true=>
   simp only[Abj]
   cases r with
   | nil=>exact⟨rfl,λf u h=>by cases h⟩
   | cons d r'=>
   simp only
   cases h6:decide (d=Bu (decide (c=123))) with
   | true=>
    simp only[Abj,(T5 _ _).1,Fo.wf];exact⟨trivial,λf u h=>by cases h;rw[(T5 _ _).2];rfl⟩
   | false=>
   simp only[Abh];obtain⟨e1,e2⟩:=ih2 (decide (c=123)) none none (d::r');rw[e1]
   cases hq:DA false F (decide (c=123)) none (d::r') with
   | none=>exact⟨rfl,λf u h=>by cases h⟩
   | some q=>
    obtain⟨g,u⟩:=q;simp only[(T5 _ _).1];refine⟨by cases g.wf (decide (c=123)) none<;>rfl,λf u' h=>by cases h;rw[(T5 _ _).2];exact e2 g u hq⟩
  ·intro m last last' s;rw[Dy,Dy,WP m last s];have hkl:DL false m last' s=DL false m none s:=by
    cases m with
    | false=>rfl
    | true=>unfold DL;simp only[Abw]
   rw[hkl]
   cases hk:DL false m none s with
   | none=>exact⟨rfl,λf u h=>by cases h⟩
   | some q=>
   obtain⟨key,s1⟩:=q;have hks:=Vb hk;simp only;obtain⟨e1,e2⟩:=ih1 s1
   cases hf:GY false F s1 with
   | none=>
    rw[hf] at e1;refine⟨?_,λf u h=>by cases h⟩
    cases BH m last key with
    | false=>rfl
    | true=>simp only[Abj,e1]
   | some q=>
   obtain⟨f,s2⟩:=q;have ho:=((DW false F).1 _ _ _ hf).2;have hfr:=e2 f s2 hf;rw[hf] at e1;simp only at e1;simp only
   cases s2 with
   | nil=>
    refine⟨?_,λf u h=>by cases h⟩
    cases BH m last key with
    | false=>rfl
    | true=>simp only[Abj,e1];cases f.wf false none<;>rfl
   | cons c s3=>
   simp only
   cases h3:decide (c=Bu m) with
   | true=>
    simp only[Abj,Wf ho,Fo.wf,Abx];refine⟨?_,λg u h=>by cases h;rw[Wg ho,hks,hfr];rfl⟩
    cases BH m last key with
    | false=>rfl
    | true=>simp only[Abj,e1,Abp];cases f.wf false none<;>simp[h3]
   | false=>
   simp only[Abh]
   cases h4:decide (c=44) with
   | false=>
    refine⟨?_,λg u h=>by cases h⟩
    cases BH m last key with
    | false=>rfl
    | true=>simp only[Abj,e1];cases f.wf false none<;>simp[h3,h4]
   | true=>
   simp only[Abj];obtain⟨e3,e4⟩:=ih2 m key key s3
   cases hq:DA false F m key s3 with
   | none=>
    rw[hq] at e3;refine⟨?_,λg u h=>by cases h⟩
    cases BH m last key with
    | false=>rfl
    | true=>simp only[Abj,e1];cases f.wf false none<;>simp[h3,h4,e3]
   | some q=>
    obtain⟨g,u⟩:=q;rw[hq] at e3;simp only at e3;simp only[Wf ho];refine⟨?_,λg' u' h=>by cases h;rw[Wg ho,hks,hfr,e4 g u hq];rfl⟩
    cases BH m last key with
    | false=>rfl
    | true=>
     simp only[Abj,e1,Abp]
     cases f.wf false none with
     | false=>rfl
     | true=>
      simp only[Abj,h3,h4,Abh,e3,Abp]
      cases g.wf m key<;>rfl
def VP (v:List Ab):Bool:=!decide (300<v.length)&&v.all λc=>!decide (300<c.fStr.length)
def KS (c:Ab):Bool:=B2 .i64 c.fKind&&B2 .i64 c.fInt&&XE c.fStr&&B2 .i64 c.fN
theorem IY.of {v:List Ab}(hs:VP v=true)(hc:v.all KS=true):IY 300 v:=by
 unfold VP at hs;simp only[Abk,Abz,Abc,AbO] at hs hc;refine⟨by decide,by omega,λc h=>?_⟩;obtain h1:=hs.2 c h;obtain h2:=hc c h;unfold KS at h2;simp only[Abk] at h2;exact⟨by omega,h2.1.1.2,(GK h2.2).2⟩
section
variable {M : Nat}
end
def JN (K:Nat)(c:Ab):Prop:=c.fStr.length≤K∧B2 .i64 c.fInt=true∧c.fN≤(K:Int)
theorem JN.mono {K K':Nat}{c:Ab}(h:JN K c)(hk:K≤K'):JN K' c:=⟨by have:=h.1;omega,h.2.1,by have:=h.2.2;omega⟩
theorem OT (b:Bool):∀(n:Nat) (s t u:Ae),s.length=n→CM b s=some (t,u)→t.length≤s.length:=by
 intro n
 induction n using Nat.strongRecOn with
 | ind n ih=>
  intro s t u hn h
  cases s with
  | nil=>cases h
  | cons c r=>
   simp only[Abf] at hn ⊢;rw[EC] at h
   cases h1:decide (c=34) with
   | true=>rw[h1] at h;cases h;simp
   | false=>
    rw[h1] at h;simp only[Abh] at h
    cases h2:(b&&!KD c) with
    | true=>rw[h2] at h;cases h
    | false=>
     rw[h2] at h;simp only[Abh] at h
     cases h3:decide (c=92) with
     | true=>
      rw[h3] at h
      cases r with
      | nil=>cases h
      | cons d r'=>
       simp only[Abj] at h
       cases h4:(decide (d=34)||decide (d=92)) with
       | false=>rw[h4] at h;cases h
       | true=>
        rw[h4] at h;simp only[Abj] at h
        cases h5:CM b r' with
        | none=>rw[h5] at h;cases h
        | some q=>
         obtain⟨t',u'⟩:=q;rw[h5] at h;cases h;simp only[Abf] at hn ⊢;have:=ih r'.length (by omega) r' t' u rfl h5;omega
     | false=>
      rw[h3] at h;simp only[Abh] at h
      cases h5:CM b r with
      | none=>rw[h5] at h;cases h
      | some q=>
       obtain⟨t',u'⟩:=q;rw[h5] at h;cases h;have:=ih r.length (by omega) r t' u rfl h5;simp only[Abf];omega
theorem Va {b m:Bool}{last:Option Ae}{s u:Ae}{t:Ae}(h:DL b m last s=some (some t,u)):t.length≤s.length:=by
 unfold DL at h
 cases m with
 | false=>cases h
 | true=>
  simp only[Abj] at h
  cases s with
  | nil=>cases h
  | cons c r=>
   simp only at h
   cases h1:decide (c=34) with
   | false=>rw[h1] at h;cases h
   | true=>
    rw[h1] at h;simp only[Abj] at h
    cases h2:CM b r with
    | none=>rw[h2] at h;cases h
    | some q=>
     obtain⟨k,w⟩:=q;have:=OT b _ r k w rfl h2;rw[h2] at h;simp only at h
     cases h3:(b&&!BH true last (some k)) with
     | true=>rw[h3] at h;cases h
     | false=>
      rw[h3] at h;simp only[Abh] at h
      cases w with
      | nil=>cases h
      | cons d w'=>
       simp only at h
       cases h4:decide (d=58) with
       | false=>rw[h4] at h;cases h
       | true=>rw[h4] at h;cases h;simp only[Abf];omega
theorem WT (neg:Bool){d:Ae}(hd:d.all CI=true):B2 .i64 (K7 neg d)=true:=by
 unfold K7
 cases ha:decide (18<d.length) with
 | true=>
  cases neg with
  | true=>exact(by decide:B2 .i64 (-2000000000000)=true)
  | false=>exact(by decide:B2 .i64 2000000000000=true)
 | false=>
  simp only[Abc] at ha;have hb:=PT hd (by omega)
  cases neg with
  | true=>exact HQ (by simp only[Abh,Abj];omega) (by simp only[Abh,Abj];omega)
  | false=>exact HQ (by simp only[Abh];omega) (by simp only[Abh];omega)
theorem Wz {m:Bool}{g:Fo}{K:Nat}(hg:∀c∈g.flat,JN K c)(hl:g.flat.length≤K):∀c∈(nd m g).flat,JN K c:=λc hc=>by
 rw[Jm _ _ Io] at hc;have hcf:=C0 g;rcases List.mem_cons.1 hc with rfl | hc
 ·exact⟨AbJ _,(by decide:B2 .i64 0=true),by show(g.cnt:Int)≤K;omega⟩
 ·exact hg c hc
theorem Tt {f r:Fo}{K:Nat}{key:Option Ae}(ho:f.one=true)(hf:∀c∈f.flat,JN K c)(hr:∀c∈r.flat,JN K c)(hk:∀t,key=some t→t.length≤K):∀c∈(f.put key r).flat,JN K c:=λc hc=>by
 rw[EO ho] at hc;rcases List.mem_append.1 hc with h | h
 ·cases key with
  | none=>cases h
  | some t=>
   have:c=⟨4,0,t,0⟩:=by simpa[B8] using h
   subst this;exact⟨hk t rfl,(by decide:B2 .i64 0=true),by show(0:Int)≤K;omega⟩
 ·rcases List.mem_append.1 h with h | h
  ·exact hf c h
  ·exact hr c h
theorem Kg (b:Bool)(K:Nat):∀F:Nat,(∀s f u,s.length≤K→GY b F s=some (f,u)→∀c∈f.flat,JN K c)∧(∀m last s g u,s.length≤K→DA b F m last s=some (g,u)→∀c∈g.flat,JN K c)
 | 0=>⟨(λs f u _ h=>by rw[GY.eq_def] at h;cases h),(λm last s g u _ h=>by rw[DA.eq_def] at h;cases h)⟩
 | F+1=>by
  obtain⟨ih1,ih2⟩:=Kg b K F;have lfc:∀k i t,t.length≤K→B2 .i64 i=true→∀c∈(lf k i t).flat,JN K c:=λk i t ht hi c hc=>by
   have:c=⟨k,i,t,0⟩:=by simpa[lf,Fo.flat,B8] using hc
   subst this;exact⟨ht,hi,by show(0:Int)≤K;omega⟩
  constructor
  ·intro s f u hs h;rw[EP] at h
   cases h1:pre [110,117,108,108] s with
   | some r=>rw[h1] at h;cases h;exact lfc _ _ _ (AbJ _) (by decide)
   | none=>
   rw[h1] at h;simp only at h
   cases h2:pre [116,114,117,101] s with
   | some r=>rw[h2] at h;cases h;exact lfc _ _ _ (AbJ _) (by decide)
   | none=>
   rw[h2] at h;simp only at h
   cases h3:pre [102,97,108,115,101] s with
   | some r=>rw[h3] at h;cases h;exact lfc _ _ _ (AbJ _) (by decide)
   | none=>
   rw[h3] at h;simp only at h
   cases s with
   | nil=>cases h
   | cons c r=>
   simp only[Abf] at hs;simp only at h
   cases h4:decide (c=34) with
   | true=>
    rw[h4] at h;simp only[Abj] at h
    cases h5:CM b r with
    | none=>rw[h5] at h;cases h
    | some q=>
     obtain⟨t,w⟩:=q;rw[h5] at h;cases h;have:=OT b _ r t u rfl h5;exact lfc _ _ _ (by omega) (by decide)
   | false=>
   rw[h4] at h;simp only[Abh] at h
   cases h5:(decide (c=91)||decide (c=123)) with
   | false=>
    rw[h5] at h;simp only[Abh] at h;unfold IP at h;simp only at h
    cases hc:Ed (decide ((c::r).head? =some 45)) (BX (bif decide ((c::r).head? =some 45) then(c::r).tail else c::r)).1 with
    | false=>rw[hc] at h;cases h
    | true=>
     rw[hc] at h;cases h;exact lfc 3 _ [] (AbJ _) (WT _ (IT _))
   | true=>
   rw[h5] at h;simp only[Abj] at h
   cases r with
   | nil=>cases h
   | cons d r'=>
   simp only at h
   cases h6:decide (d=Bu (decide (c=123))) with
   | true=>rw[h6] at h;cases h;exact Wz (λc hc=>by cases hc) (AbJ _)
   | false=>
   rw[h6] at h;simp only[Abh] at h
   cases h7:DA b F (decide (c=123)) none (d::r') with
   | none=>rw[h7] at h;cases h
   | some q=>
    obtain⟨g,w⟩:=q;rw[h7] at h;cases h;have:=(E4 b F).2 _ _ _ _ _ h7;exact Wz (ih2 _ _ _ _ _ (by omega) h7) (by omega)
  ·intro m last s g u hs h;rw[Dy] at h
   cases h1:DL b m last s with
   | none=>rw[h1] at h;cases h
   | some q=>
   obtain⟨key,s1⟩:=q;have l1:=R8 h1;have hkt:∀t,key=some t→t.length≤K:=λt e=>by subst e;have:=Va h1;omega
   rw[h1] at h;simp only at h
   cases h2:GY b F s1 with
   | none=>rw[h2] at h;cases h
   | some q=>
   obtain⟨f,s2⟩:=q;obtain⟨l2,o2⟩:=(DW b F).1 _ _ _ h2;have hf:=ih1 _ _ _ (by omega) h2;rw[h2] at h;simp only at h
   cases s2 with
   | nil=>cases h
   | cons c s3=>
   simp only[Abf] at l2;simp only at h
   cases h3:decide (c=Bu m) with
   | true=>rw[h3] at h;cases h;exact Tt o2 hf (λc hc=>by cases hc) hkt
   | false=>
   rw[h3] at h;simp only[Abh] at h
   cases h4:decide (c=44) with
   | false=>rw[h4] at h;cases h
   | true=>
   rw[h4] at h;simp only[Abj] at h
   cases h5:DA b F m key s3 with
   | none=>rw[h5] at h;cases h
   | some q=>
    obtain⟨g',w⟩:=q;rw[h5] at h;cases h;exact Tt o2 hf (ih2 _ _ _ _ _ (by omega) h5) hkt
theorem Xk:∀l:List Ab,l.any Co=false→l.map CU=l
 | [],_=>rfl
 | c::l,h=>by
  simp only[List.any_cons,Ab1] at h;simp only[AbV,Xk l h.2,CU,h.1,Abh]
def Nh (s:Ae):Option (List Ab×Int):=
 bif decide (4000<s.length) then some ([],3) else match GY true 10000 s with
  | some (f,[])=>some (bif decide (Gq f=0) then(f.flat,0) else([],Gq f))
  | _=>some ([],1)
theorem OE (s:Ae):Az.mk s 0 [] false=DJ s s [] false:=by simp[DJ]
theorem Xo {f:Fo}(h:f.flat.any Co=true):Gq f=2:=by unfold Gq;rw[h];rfl
theorem QJ {F:Nat}(hF:20000≤F){s:Ae}:Lo F s=Nh s:=by
 unfold Lo Nh;have a1:decide ((4000:Int)<(s.length:Int))=decide (4000<s.length):=by rw[Abu];simp;omega
 rw[a1]
 cases h4:decide (4000<s.length) with
 | true=>rfl
 | false=>
  simp only[Abc] at h4;rw[A8 rfl,OE];simp only[Abh];rcases Sh (S:=s) (by omega) (F:=F) (P:=10000) (by omega) (by omega) with⟨f,w,q1,q2,q3⟩ | ⟨q1,q',q2⟩
  ·rw[q3,q1,AU rfl,A8 (p:=!true) rfl];obtain⟨_,hone⟩:=(DW true 10000).1 _ _ _ q1;have hwl:=q2.len;have hcells:=(Kg true 4000 10000).1 _ _ _ (by omega) q1;have hfl:=(E4 true 10000).1 _ _ _ q1;unfold GB;have hat:(true,DJ s w ([]++f.flat.map CU) (false||f.flat.any Co)).2.fAt=(s.length:Int)-w.length:=rfl;rw[hat]
   cases w with
   | cons c w'=>
    have hd:decide ((s.length:Int)-(c::w').length=(s.length:Int))=false:=Abi (by simp only[Abf];omega);rw[hd];rfl
   | nil=>
    have hd:decide ((s.length:Int)-([]:Ae).length=(s.length:Int))=true:=Abm (by simp);rw[hd,A8 (p:=!true) rfl]
    change _=some (bif decide (Gq f=0) then(f.flat,0) else([],Gq f))
    have hgr:(true,DJ s [] ([]++f.flat.map CU) (false||f.flat.any Co)).2.fGreat=f.flat.any Co:=rfl;have hce:(true,DJ s [] ([]++f.flat.map CU) (false||f.flat.any Co)).2.fCells=f.flat.map CU:=rfl;rw[hgr,hce]
    cases ho:f.flat.any Co with
    | true=>rw[Xo ho];rfl
    | false=>
     rw[A8 rfl,Xk _ ho];have hA:IY 4000 f.flat:=⟨by decide,by omega,λc hc=>by obtain⟨c1,c2,c3⟩:=hcells c hc;exact⟨c1,c2,by omega⟩⟩
     have hwf:f.wf false none=true:=by
      have:=((Nu 10000).1 s).1;rw[q1] at this
      cases hp:GY false 10000 s with
      | none=>rw[hp] at this;cases this
      | some q=>
       obtain⟨f',u'⟩:=q;rw[hp] at this;simp only at this
       cases hw:f'.wf false none with
       | false=>rw[hw] at this;cases this
       | true=>rw[hw] at this;cases this;exact hw
     have hev:Hv f.flat=Gq f:=by unfold Hv;rw[Li hone hwf]
     unfold Lq;rw[Mc hA (by decide) (by omega),AU rfl,hev]
     cases decide (Gq f=0)<;>rfl
  ·rw[q2,q1];rfl
theorem Rb {F:Nat}(hF:20000≤F){s:Ae}:L2 F s=Nh s:=by
 unfold L2 Nh;have a1:decide ((4000:Int)<(s.length:Int))=decide (4000<s.length):=by rw[Abu];simp;omega
 rw[a1]
 cases h4:decide (4000<s.length) with
 | true=>rfl
 | false=>
  simp only[Abc] at h4;rw[A8 rfl];simp only[Abh];obtain⟨e1,e2⟩:=(Nu 10000).1 s;have hr:=Wa (S:=s) (by omega) (F:=F) (P:=10000) (by omega) (by omega);unfold ZV at hr;rw[Int.sub_self] at hr;rcases hr with⟨f,w,q1,q2,q3⟩ | ⟨q1,v,q2⟩
  ·rw[q1] at e1;simp only at e1;obtain⟨_,hone⟩:=(DW false 10000).1 _ _ _ q1;have hwl:=q2.len;have hcells:=(Kg false 4000 10000).1 _ _ _ (by omega) q1;have hfl:=(E4 false 10000).1 _ _ _ q1;rw[q3,AU rfl,e1]
   cases w with
   | cons c w'=>
    have hd:decide ((s.length:Int)-(c::w').length=(s.length:Int))=false:=Abi (by simp only[Abf];omega);simp only;rw[hd]
    cases f.wf false none<;>rfl
   | nil=>
    have hd:decide ((s.length:Int)-([]:Ae).length=(s.length:Int))=true:=Abm (by simp);simp only;rw[hd,A8 (p:=!true) rfl];have hA:IY 4000 f.flat:=⟨by decide,by omega,λc hc=>by obtain⟨c1,c2,c3⟩:=hcells c hc;exact⟨c1,c2,by omega⟩⟩
    unfold L3;rw[Mk hA (by decide) (by omega),AU rfl]
    cases hwf:f.wf false none with
    | true=>
     have hev:Hv f.flat=Gq f:=by unfold Hv;rw[Li hone hwf]
     rw[hev];simp only[Abj]
     cases decide (Gq f=0)<;>rfl
    | false=>
     have hwh:whole f.flat=none:=by
      have h1:=Nr f false none [] (e2 f [] q1);rw[hwf,L7 hone,AbL] at h1;have h2:Ix f.flat=none:=h1;unfold whole;rw[h2]
     have hev:Hv f.flat=1:=by unfold Hv;rw[hwh]
     rw[hev];rfl
  ·rw[q1] at e1;simp only at e1;rw[q2,AU rfl,e1];simp only;rw[AK (p:=!decide ((-1:Int)=(s.length:Int))) (by rw[Abi (by omega)];rfl)]
theorem UL (d:Ae)(c:UInt8)(a:Nat):Do a (d++[c])=10*Do a d+(c.toNat-48):=by simp[Do]
theorem ZM {u:Nat}(h:u<10):Lib.decDigits u=[UInt8.ofNat (48+u)]:=by rw[Lib.decDigits,dif_pos h]
theorem ZN {u:Nat}(h : ¬ u<10):Lib.decDigits u=Lib.decDigits (u/10)++[UInt8.ofNat (48+u % 10)]:=by
 rw[Lib.decDigits,dif_neg h]
theorem Xv:∀(n:Nat) (d:Ae),d.length=n→d.all CI=true→d≠[]→(d.head? =some 48→d.length=1)→Lib.decDigits (Do 0 d)=d:=by
 intro n
 induction n with
 | zero=>intro d hn _ hne;exact absurd (AbH hn) hne
 | succ n ih=>
  intro d hn ha hne hh;obtain⟨d',c,rfl⟩:∃d' c,d=d'++[c]:=⟨d.dropLast,d.getLast hne,(List.dropLast_concat_getLast hne).symm⟩
  rw[List.all_append] at ha;simp only[AbS,List.all_nil,Abx,Abk] at ha;have hc:48≤c.toNat∧c.toNat≤57:=by have:=ha.2;simp[CI] at this;omega
  have ec:UInt8.ofNat (48+(c.toNat-48))=c:=by rw[show 48+(c.toNat-48)=c.toNat from by omega];simp
  rw[UL]
  cases hd:d' with
  | nil=>
   show Lib.decDigits (10*0+(c.toNat-48))=[c];rw[ZM (by omega),show 48+(10*0+(c.toNat-48))=48+(c.toNat-48) from by omega,ec]
  | cons x r=>
   rw[← hd];have hne':d'≠[]:=by rw[hd];simp
   have h1:d'.head?≠some 48:=λe=>by
    have:=hh (by rw[hd] at e ⊢;simpa using e);rw[hd] at this;simp at this
   have ih':=ih d' (by simp at hn;omega) ha.1 hne' (λe=>absurd e h1);have hpos:1≤Do 0 d':=by
    rw[hd];show 1≤Do (10*0+(x.toNat-48)) r;have hx:48≤x.toNat∧x.toNat≤57:=by have:=ha.1;rw[hd] at this;simp[CI] at this;omega
    have hx2:x.toNat≠48:=λe=>h1 (by rw[hd];simp;rw[← AbX];exact e);exact Nat.le_trans (by omega) (Kk r _)
   rw[ZN (by omega),show(10*Do 0 d'+(c.toNat-48))/10=Do 0 d' from by omega,show(10*Do 0 d'+(c.toNat-48)) % 10=c.toNat-48 from by omega,ih',ec]
theorem Vd {s u:Ae}{f:Fo}(h:IP s=some (f,u)):∃n,f = .cell none ⟨3,n,[],0⟩ .nil∧(Co ⟨3,n,[],0⟩=false→s=Lib.itoa n++u):=by
 unfold IP at h;simp only at h;have key:∀(neg:Bool) (r:Ae),s=(bif neg then 45::r else r)→Ed neg (BX r).1=true→Co ⟨3,K7 neg (BX r).1,[],0⟩=false→s=Lib.itoa (K7 neg (BX r).1)++(BX r).2:=λneg r es hcan hout=>by
  have hd:=IT r;have he:=In r;generalize(BX r).1=d at *;generalize(BX r).2=w at *;unfold Ed at hcan;simp only[Abk,Abz,Abc] at hcan;obtain⟨hne,hz⟩:=hcan;have hl:d.length≤18:=by
   by_cases ha:d.length≤18
   ·exact ha
   ·exfalso;unfold K7 at hout;rw[Abm (by omega)] at hout
    cases neg<;>simp[Co] at hout
  have hn:K7 neg d=bif neg then -(Do 0 d:Int) else(Do 0 d:Int):=by
   have:=JI d 0 hd;unfold K7;rw[Abi (by omega)];show(bif neg then -(HM d) else HM d)=_;rw[show HM d=(Do 0 d:Int) from this]
  have hback:=Xv d.length d rfl hd hne (λe=>by
   cases h1:decide (1<d.length) with
   | true=>rw[Abm e,h1] at hz;simp at hz
   | false=>
    simp only[Abc] at h1
    cases d with
    | nil=>exact absurd rfl hne
    | cons x y=>simp only[Abf] at h1 ⊢;omega)
  rw[hn]
  cases neg with
  | true=>
   have hpos:1≤Do 0 d:=by
    cases d with
    | nil=>exact absurd rfl hne
    | cons x y=>
     have hx:48≤x.toNat∧x.toNat≤57:=by simp[CI] at hd;omega
     have hx2:x.toNat≠48:=λe=>by
      have:x=48:=by rw[← AbX];exact e
      rw[this] at hz;simp at hz
     show 1≤Do (10*0+(x.toNat-48)) y;exact Nat.le_trans (by omega) (Kk y _)
   have:=Lib.itoa_neg (Do 0 d) hpos;simp only[Abj] at es ⊢;rw[this,hback,es,AbY,← he]
  | false=>
   have:=Lib.itoa_nonneg (Do 0 d);simp only[Abh] at es ⊢;rw[this,hback,es,← he]
 cases hneg:decide (s.head? =some 45) with
 | true=>
  rw[hneg] at h;simp only[Abj] at h
  cases hcan:Ed true (BX s.tail).1 with
  | false=>rw[hcan] at h;cases h
  | true=>
   rw[hcan] at h;simp only[Abj,Option.some.injEq,Prod.mk.injEq] at h;obtain⟨rfl,rfl⟩:=h;refine⟨_,rfl,λhout=>key true s.tail ?_ hcan hout⟩
   cases s with
   | nil=>simp at hneg
   | cons c r=>
    simp at hneg;subst hneg;rfl
 | false=>
  rw[hneg] at h;simp only[Abh] at h
  cases hcan:Ed false (BX s).1 with
  | false=>rw[hcan] at h;cases h
  | true=>
   rw[hcan] at h;simp only[Abj,Option.some.injEq,Prod.mk.injEq] at h;obtain⟨rfl,rfl⟩:=h;exact⟨_,rfl,λhout=>key false s rfl hcan hout⟩
theorem OV:∀(n:Nat) (s t u:Ae),s.length=n→CM true s=some (t,u)→s=Gx t++34::u:=by
 intro n
 induction n using Nat.strongRecOn with
 | ind n ih=>
  intro s t u hn h
  cases s with
  | nil=>cases h
  | cons c r=>
   simp only[Abf] at hn;rw[EC] at h
   cases h1:decide (c=34) with
   | true=>
    rw[h1] at h;cases h;rw[AbE h1];rfl
   | false=>
    rw[h1] at h;simp only[Abh] at h
    cases h2:(true&&!KD c) with
    | true=>rw[h2] at h;cases h
    | false=>
     rw[h2] at h;simp only[Abh] at h
     cases h3:decide (c=92) with
     | true=>
      rw[h3] at h
      cases r with
      | nil=>cases h
      | cons d r'=>
       simp only[Abj] at h
       cases h4:(decide (d=34)||decide (d=92)) with
       | false=>rw[h4] at h;cases h
       | true=>
        rw[h4] at h;simp only[Abj] at h
        cases h5:CM true r' with
        | none=>rw[h5] at h;cases h
        | some q=>
         obtain⟨t',u'⟩:=q;rw[h5] at h;cases h;simp only[Abf] at hn;have:=ih r'.length (by omega) r' t' u rfl h5;rw[AbE h3,this];simp[Gx,h4]
     | false=>
      rw[h3] at h;simp only[Abh] at h
      cases h5:CM true r with
      | none=>rw[h5] at h;cases h
      | some q=>
       obtain⟨t',u'⟩:=q;rw[h5] at h;cases h;have:=ih r.length (by omega) r t' u rfl h5;rw[this];simp only[Abc] at h1 h3;simp[Gx,h1,h3]
theorem Ts {f:Fo}(h:f.one=true)(key:Option Ae)(r:Fo)(b:Bool):(f.put key r).txt b=Dv b++(Ia key++(f.txt true++r.txt false)):=by
 cases f with
 | nil=>cases h
 | cell k c s=>cases k with
  | some _=>cases h
  | none=>cases s with
   | nil=>simp[Fo.put,Fo.txt,Dv,Ia]
   | _=>cases h
 | node k c kids s=>cases k with
  | some _=>cases h
  | none=>cases s with
   | nil=>simp[Fo.put,Fo.txt,Dv,Ia]
   | _=>cases h
theorem Tu {f:Fo}(h:f.one=true)(key:Option Ae)(r:Fo):(f.put key r).flat.any Co=(f.flat.any Co||r.flat.any Co):=by
 rw[EO h,List.any_append,List.any_append,Ol,Abt]
theorem Po {m:Bool}{last k:Option Ae}{s w:Ae}(h:DL true m last s=some (k,w)):s=Ia k++w:=by
 unfold DL at h
 cases m with
 | false=>cases h;rfl
 | true=>
  simp only[Abj] at h
  cases s with
  | nil=>cases h
  | cons c r=>
   simp only at h
   cases h1:decide (c=34) with
   | false=>rw[h1] at h;cases h
   | true=>
    rw[h1] at h;simp only[Abj] at h
    cases h2:CM true r with
    | none=>rw[h2] at h;cases h
    | some q=>
     obtain⟨t,u⟩:=q;have:=OV _ r t u rfl h2;rw[h2] at h;simp only at h
     cases h3:(true&&!BH true last (some t)) with
     | true=>rw[h3] at h;cases h
     | false=>
      rw[h3] at h;simp only[Abh] at h
      cases u with
      | nil=>cases h
      | cons d u'=>
       simp only at h
       cases h4:decide (d=58) with
       | false=>rw[h4] at h;cases h
       | true=>
        rw[h4] at h;cases h;rw[AbE h1,this,AbE h4];simp[Ia,G0]
theorem Rh:∀F:Nat,(∀s f u,GY true F s=some (f,u)→f.flat.any Co=false→s=f.txt true++u)∧(∀m last s g u,DA true F m last s=some (g,u)→g.flat.any Co=false→s=g.txt true++Bu m::u)
 | 0=>⟨(λs f u h=>by rw[GY.eq_def] at h;cases h),(λm last s g u h=>by rw[DA.eq_def] at h;cases h)⟩
 | F+1=>by
  obtain⟨ih1,ih2⟩:=Rh F;obtain⟨pl1,pl2⟩:=DW true F;constructor
  ·intro s f u h ho;rw[EP] at h
   cases h1:pre [110,117,108,108] s with
   | some r=>rw[h1] at h;cases h;rw[Dh h1];rfl
   | none=>
   rw[h1] at h;simp only at h
   cases h2:pre [116,114,117,101] s with
   | some r=>rw[h2] at h;cases h;rw[Dh h2];rfl
   | none=>
   rw[h2] at h;simp only at h
   cases h3:pre [102,97,108,115,101] s with
   | some r=>rw[h3] at h;cases h;rw[Dh h3];rfl
   | none=>
   rw[h3] at h;simp only at h
   cases s with
   | nil=>cases h
   | cons c r=>
    simp only at h
    cases h4:decide (c=34) with
    | true=>
     rw[h4] at h;simp only[Abj] at h
     cases h5:CM true r with
     | none=>rw[h5] at h;cases h
     | some q=>
      obtain⟨t,u'⟩:=q;rw[h5] at h;cases h;rw[AbE h4,OV _ r t _ rfl h5];simp[lf,Fo.txt,Dv,Ia,EI,G0]
    | false=>
    rw[h4] at h;simp only[Abh] at h
    cases h5:(decide (c=91)||decide (c=123)) with
    | true=>
     rw[h5] at h;simp only[Abj] at h;have hopen:∀x:Ae,(c::x)=(bif decide (c=123) then(123:UInt8) else 91)::x:=λx=>by
      cases h6:decide (c=123) with
      | true=>rw[AbE h6];rfl
      | false=>rw[h6,Ab2] at h5;rw[AbE h5];rfl
     rw[hopen];generalize decide (c=123)=m at *
     cases r with
     | nil=>cases h
     | cons d r'=>
      simp only at h
      cases h6:decide (d=Bu m) with
      | true=>
       rw[h6] at h;cases h;rw[AbE h6]
       cases m<;>simp[nd,Fo.cnt,Fo.txt,Dv,Ia,EI,Bu]
      | false=>
       rw[h6] at h;simp only[Abh] at h
       cases h7:DA true F m none (d::r') with
       | none=>rw[h7] at h;cases h
       | some q=>
        obtain⟨g,u'⟩:=q;rw[h7] at h;cases h;have hc:=(pl2 _ _ _ _ _ h7).2;rw[Jm _ _ Io,List.any_cons,Ab1] at ho;rw[ih2 _ _ _ _ _ h7 ho.2];unfold nd;rw[Abi (by omega)]
        cases m<;>simp[Fo.txt,Dv,Ia,Ox,Bu]
    | false=>
     rw[h5] at h;simp only[Abh] at h;obtain⟨n,rfl,hb⟩:=Vd h;have ho':Co ⟨3,n,[],0⟩=false:=by simpa[Fo.flat,B8] using ho
     rw[hb ho'];simp[Fo.txt,Dv,Ia,EI]
  ·intro m last s g u h ho;rw[Dy] at h
   cases h1:DL true m last s with
   | none=>rw[h1] at h;cases h
   | some q=>
    obtain⟨key,s1⟩:=q;rw[h1] at h;simp only at h
    cases h2:GY true F s1 with
    | none=>rw[h2] at h;cases h
    | some q=>
     obtain⟨f,s2⟩:=q;have hone:=(pl1 _ _ _ h2).2;rw[h2] at h;simp only at h
     cases s2 with
     | nil=>cases h
     | cons c s3=>
      simp only at h
      cases h3:decide (c=Bu m) with
      | true=>
       rw[h3] at h;cases h;rw[Tu hone,Ab1] at ho;rw[Po h1,ih1 _ _ _ h2 ho.1,Ts hone,AbE h3];simp[Dv,Fo.txt]
      | false=>
       rw[h3] at h;simp only[Abh] at h
       cases h4:decide (c=44) with
       | false=>rw[h4] at h;cases h
       | true=>
        rw[h4] at h;simp only[Abj] at h
        cases h5:DA true F m key s3 with
        | none=>rw[h5] at h;cases h
        | some q=>
         obtain⟨g',w⟩:=q;rw[h5] at h;cases h;have hc:=(pl2 _ _ _ _ _ h5).2;rw[Tu hone,Ab1] at ho;have e5:=ih2 _ _ _ _ _ h5 ho.2;have e6:g'.txt false=44::g'.txt true:=by
          cases g' with
          | nil=>simp[Fo.cnt] at hc
          | cell k c r=>simp[Fo.txt,Dv]
          | node k c kids r=>simp[Fo.txt,Dv]
         rw[Po h1,ih1 _ _ _ h2 ho.1,Ts hone,AbE h4,e5,e6];simp[Dv]
open Go Go.RowKit
theorem Xp {f:Fo}(h:Gq f=0):f.flat.any Co=false∧f.flat.any Il=false∧f.flat.length≤200∧f.dep≤8∧(f.txt true).length≤4000:=by
 unfold Gq at h
 cases h1:f.flat.any Co with
 | true=>rw[h1] at h;cases h
 | false=>
  rw[h1] at h
  cases h2:(f.flat.any Il||(decide (200<f.flat.length)||(decide (8<f.dep)||decide (4000<(f.txt true).length)))) with
  | true=>rw[h2] at h;cases h
  | false=>
   simp only[Ab1,Abc] at h2;exact⟨rfl,h2.1,by omega,by omega,by omega⟩
theorem YI {f:Fo}(h1:f.one=true)(hw:f.wf false none=true)(he:Gq f=0):Hv f.flat=0:=by
 unfold Hv;rw[Li h1 hw];exact he
theorem Z1 {F:Nat}{s u:Ae}{f:Fo}(h:GY true F s=some (f,u)):f.wf false none=true:=by
 have:=((Nu F).1 s).1;rw[h] at this
 cases h2:GY false F s with
 | none=>rw[h2] at this;cases this
 | some q=>
  obtain⟨g,w⟩:=q;rw[h2] at this;simp only at this
  cases hw:g.wf false none with
  | true=>rw[hw] at this;cases this;exact hw
  | false=>rw[hw] at this;cases this
theorem YM {s:Ae}{r:List Ab×Int}(h:Nh s=some r)(h0:r.2=0):IY 4000 r.1∧Nf r.1=(s,0)∧Hv r.1=0:=by
 unfold Nh at h
 cases h4:decide (4000<s.length) with
 | true=>rw[h4] at h;cases h;cases h0
 | false=>
  rw[h4] at h;simp only[Abc] at h4;simp only[Abh] at h
  cases hp:GY true 10000 s with
  | none=>rw[hp] at h;cases h;cases h0
  | some q=>
   obtain⟨f,w⟩:=q;rw[hp] at h
   cases w with
   | cons _ _=>cases h;cases h0
   | nil=>
    simp only[Option.some.injEq] at h;subst h
    cases he:decide (Gq f=0) with
    | false=>rw[he] at h0;exact absurd h0 (of_decide_eq_false he)
    | true=>
     have hf:=AbE he;have hw:=Z1 hp;have hone:=((DW true 10000).1 _ _ _ hp).2;have hcells:=(Kg true 4000 10000).1 _ _ _ (by omega) hp;have hfl:=(E4 true 10000).1 _ _ _ hp;obtain⟨h1,h2,h3,_⟩:=Xp hf;have hb:=(Rh 10000).1 _ _ _ hp h1;rw[AbL] at hb;refine⟨⟨by decide,by show f.flat.length≤4000;omega,λc hc=>?_⟩,?_,YI hone hw hf⟩
     ·obtain⟨a,b,c'⟩:=hcells c hc;exact⟨a,b,by omega⟩
     ·show Nf f.flat=_;unfold Nf;rw[Li hone hw];simp only;rw[he,hb];rfl
theorem Vn (s:Ae):∃r,Nh s=some r:=by
 unfold Nh
 cases decide (4000<s.length) with
 | true=>exact⟨_,rfl⟩
 | false=>
  simp only[Abh]
  split<;>exact⟨_,rfl⟩
theorem QL {α:Type}{a b:List α}{n:Nat}(h:a.take n=b.take n)(h1:a.length≤n)(h2:b.length≤n):a=b:=by
 rw[List.take_of_length_le h1,List.take_of_length_le h2] at h;exact h
theorem Sq {F:Nat}{a b:List Ab}(hF:a.length<F)(hv:a.length≤1152921504606846976):Jc F a b=some (decide (a=b)):=by
 unfold Jc
 by_cases hl:(a.length:Int)=(b.length:Int)
 ·rw[A8 (by simp[hl])];obtain⟨o,h1,h2⟩:=Ik (body:=λσ=>Ey a b σ) (λx=>0≤x∧x≤(a.length:Int)∧a.take x.toNat=b.take x.toNat) (λx=>a.length-x.toNat) (λo=>BT (λ_=>HG) o=some (decide (a=b))) (λx ⟨h0,hx,ht⟩=>by
   by_cases h:x<(a.length:Int)
   ·have hb:x<(b.length:Int):=by omega
    obtain⟨c,hc⟩:∃c,a[x.toNat]? =some c:=⟨a[x.toNat]'(by omega),Abn (by omega)⟩
    obtain⟨d,hd⟩:∃d,b[x.toNat]? =some d:=⟨b[x.toNat]'(by omega),Abn (by omega)⟩
    have ac:Am a x=c:=by simp[Am,hc]
    have bd:Am b x=d:=by simp[Am,hd]
    have heq:(decide (c.fKind=d.fKind)&&decide (c.fInt=d.fInt)&&decide (c.fStr=d.fStr)&&decide (c.fN=d.fN))=decide (c=d):=by
     cases c;cases d
     rw[Abu];simp only[Ab.mk.injEq,Abk,Abd];constructor
     ·rintro⟨⟨⟨h1,h2⟩,h3⟩,h4⟩;exact⟨h1,h2,h3,h4⟩
     ·rintro⟨h1,h2,h3,h4⟩;exact⟨⟨⟨h1,h2⟩,h3⟩,h4⟩
    have hb1:Ey a b x=Bl (!decide (c=d)) (some (.out (.ret false))) (some (.next (x+1))):=by
     unfold Ey;rw[AK (Abm h),Br h0 h,Br h0 hb,ac,bd,heq,AI (by omega) (by omega)]
    by_cases hcd:c=d
    ·refine .inl ⟨x+1,hb1.trans (by rw[A8 (by simp[hcd])]),⟨by omega,by omega,?_⟩,by omega⟩;rw[show(x+1).toNat=x.toNat+1 from by omega,List.take_add_one,List.take_add_one,ht,hc,hd,hcd]
    ·refine .inr ⟨.ret false,hb1.trans (by rw[AK (by simp[hcd])]),?_⟩;rw[L6,Abi];intro e;subst e;rw[hc] at hd;cases hd;exact hcd rfl
   ·refine .inr ⟨.go (),by unfold Ey;rw[A8 (Abi h)],?_⟩;rw[Di,Abm (QL ht (by omega) (by omega))];rfl) F 0 ⟨Ab9 0,by omega,rfl⟩ (by show a.length-0<F;omega)
  rw[AU h1,h2]
 ·rw[AK (by simp[hl]),Abi];intro e;subst e;exact hl rfl
theorem VY {F:Nat}{a b:List Ab}(hF:a.length<F)(hv:a.length≤1152921504606846976):QU F a b=some (decide (a=b)):=(show QU F a b=Jc F a b from rfl).trans (Sq hF hv)
section
variable {M : Nat} {v : List Ab}
theorem S4 (hA:IY M v)(hM:M≤1000000){F:Nat}(hF:4*M+8<F):L0 F v=some (Nf v):=by
 have hvM:=hA.hv;unfold L0 Nf;rw[Mk hA hM (by omega),AU rfl];unfold Hv
 cases hwh:whole v with
 | none=>rfl
 | some f=>
  change Bl (!decide (Gq f=0)) _ _=some (bif decide (Gq f=0) then(f.txt true,0) else([],Gq f))
  cases he:decide (Gq f=0) with
  | false=>rw[AK (p:=!false) rfl];rfl
  | true=>
   obtain⟨h1,h2,h3⟩:=KJ hwh;have hl:v.length=f.flat.length:=by rw[h1]
   have hc:∀c∈f.flat,c.fStr.length≤M∧B2 .i64 c.fInt=true∧c.fN≤9223372036854775807:=λc hc=>hA.hc c (by rw[h1];exact hc);have hb:=K3 hM h2 (by omega) hc;have htl:((f.txt true).length:Int)=f.byt:=by rw[Ib f false none true h2,L7 h3];simp
   have hd0:v.drop (0:Int).toNat=f.flat++[]:=by rw[AbL];exact h1
   rw[A8 (p:=!true) rfl,QT hA (Ab9 0) h3 h2 hd0 (by omega) (by omega),AU rfl];rfl
end
theorem GM {α:Type}[Inhabited α]{l:List α}{i:Nat}(h:i<l.length):Am l (i:Int)=l[i]:=by simp[Am,h]
def Iz {α:Type}(f:α→Int):List α→Int
 | []=>0
 | x::r=>if f x=0 then Iz f r else f x
theorem UV {α U:Type}{l:List α}{f:α→Int}{body:Int→Option (Stp Int (Out Int U))}{u:U}(hb:∀(i:Nat) (h:i<l.length),body (i:Int)=Bl (!decide (f l[i]=0)) (some (.out (.ret (f l[i])))) (some (.next ((i:Int)+1))))(he:body (l.length:Int)=some (.out (.go u))) :
  ∀(d n i:Nat),i+d=l.length→d<n→Ca body n (i:Int)=some (if Iz f (l.drop i)=0 then .go u else .ret (Iz f (l.drop i))):=by
 intro d
 induction d with
 | zero=>
  intro n i h hn;obtain⟨n,rfl⟩:∃m,n=m+1:=⟨n-1,by omega⟩
  obtain rfl:i=l.length:=by omega
  rw[Ca,he,List.drop_length];rfl
 | succ d ih=>
  intro n i h hn;obtain⟨n,rfl⟩:∃m,n=m+1:=⟨n-1,by omega⟩
  have hi:i<l.length:=by omega
  rw[Ca,hb i hi,List.drop_eq_getElem_cons hi]
  by_cases hf:f l[i]=0
  ·rw[A8 (by simp[hf])];have:=ih n (i+1) (by omega) (by omega);rw[Iz,AbB hf];exact this
  ·rw[AK (by simp[hf]),Iz,Ab6 hf,Ab6 hf]
theorem Od {α U:Type}{l:List α}{f:α→Int}{body:Int→Option (Stp Int (Out Int U))}{u:U}{F:Nat}(hF:l.length<F)(hb:∀(i:Nat) (h:i<l.length),body (i:Int)=Bl (!decide (f l[i]=0)) (some (.out (.ret (f l[i])))) (some (.next ((i:Int)+1))))(he:body (l.length:Int)=some (.out (.go u))) :
  B0 (Ca body F 0) (BT λ_=>some 0)=some (Iz f l):=by
 have h:=UV hb he l.length F 0 (by omega) hF;have h':Ca body F 0=_:=h;rw[List.drop_zero] at h';rw[AU h']
 by_cases h0:Iz f l=0
 ·rw[AbB h0,h0];rfl
 ·rw[Ab6 h0];rfl
theorem Y0 {α U:Type}{l:List α}{body:Int→Option (Stp Int (Out Bool U))}{bad:α→Bool}{u:U}(hb:∀(i:Nat) (h:i<l.length),body (i:Int)=Bl (bad l[i]) (some (.out (.ret false))) (some (.next ((i:Int)+1))))(he:body (l.length:Int)=some (.out (.go u))) :
  ∀(d n i:Nat),i+d=l.length→d<n→Ca body n (i:Int)=some (if (l.drop i).any bad=true then .ret false else .go u):=by
 intro d
 induction d with
 | zero=>
  intro n i h hn;obtain⟨n,rfl⟩:∃m,n=m+1:=⟨n-1,by omega⟩
  obtain rfl:i=l.length:=by omega
  rw[Ca,he,List.drop_length];rfl
 | succ d ih=>
  intro n i h hn;obtain⟨n,rfl⟩:∃m,n=m+1:=⟨n-1,by omega⟩
  have hi:i<l.length:=by omega
  rw[Ca,hb i hi,List.drop_eq_getElem_cons hi,List.any_cons]
  cases hf:bad l[i] with
  | false=>rw[A8 rfl,Abt];exact ih n (i+1) (by omega) (by omega)
  | true=>rw[AK rfl,Ab5,AbB rfl]
theorem LH {α U:Type}{l:List α}{body:Int→Option (Stp Int (Out Bool U))}{bad:α→Bool}{u:U}{F:Nat}(hF:l.length<F)(hb:∀(i:Nat) (h:i<l.length),body (i:Int)=Bl (bad l[i]) (some (.out (.ret false))) (some (.next ((i:Int)+1))))(he:body (l.length:Int)=some (.out (.go u)))(k:U→Option Bool) :
  B0 (Ca body F 0) (BT k)=bif l.any bad then some false else k u:=by
 have h:=Y0 hb he l.length F 0 (by omega) hF;have h':Ca body F 0=_:=h;rw[List.drop_zero] at h';rw[AU h']
 cases l.any bad<;>rfl
def Oy (v:List Ab):Bool:=decide (100<v.length)||v.any λc=>decide (250<c.fStr.length)
theorem IU {α:Type}(n:Nat)(f:List α):decide (((n:Nat):Int)<(f.length:Int))=decide (n<f.length):=by rw[Abu];simp
theorem UZ {F:Nat}(hF:100<F)(v:List Ab):Og F v=some (!Oy v):=by
 unfold Og Oy;rw[show decide ((100:Int)<(v.length:Int))=decide (100<v.length) from IU 100 v]
 cases hl:decide (100<v.length) with
 | true=>rfl
 | false=>
  have hl' : ¬ 100<v.length:=of_decide_eq_false hl;rw[A8 rfl,LH (l:=v) (bad:=λc=>decide (250<c.fStr.length)) (u:=()) (by omega) (λi h=>by
   unfold H5;rw[AK (Abm (by omega)),Br (by omega) (by omega),GM h,AI (by omega) (by omega),show decide ((250:Int)<((v[i]).fStr.length:Int))=decide (250<(v[i]).fStr.length) from IU 250 _]) (by unfold H5;rw[A8 (Abi (by omega))])]
  cases v.any _<;>rfl
def JP (op:A0):Bool:=(decide (100<op.fEntity.length)||(decide (100<op.fID.length)||(decide (100<op.fOp.length)||decide (4<op.fArgs.length))))||op.fArgs.any Oy
theorem UX {F:Nat}(hF:100<F)(op:A0):Jo F op=some (!JP op):=by
 unfold Jo JP;have hk:((decide (100<(op.fEntity.length:Int)))||((decide (100<(op.fID.length:Int)))||((decide (100<(op.fOp.length:Int)))||(decide (4<(op.fArgs.length:Int))))))=(decide (100<op.fEntity.length)||(decide (100<op.fID.length)||(decide (100<op.fOp.length)||decide (4<op.fArgs.length)))):=by
  rw[← IU 100 op.fEntity,← IU 100 op.fID,← IU 100 op.fOp,← IU 4 op.fArgs];rfl
 rw[hk]
 cases hb:(decide (100<op.fEntity.length)||(decide (100<op.fID.length)||(decide (100<op.fOp.length)||decide (4<op.fArgs.length)))) with
 | true=>rfl
 | false=>
  simp only[Ab1,Abc] at hb;rw[A8 rfl,LH (l:=op.fArgs) (bad:=Oy) (u:=()) (by omega) (λi h=>by
   unfold H4;rw[AK (Abm (by omega)),Br (by omega) (by omega),GM h,UZ hF,AU rfl,Bool.not_not,AI (by omega) (by omega)]) (by unfold H4;rw[A8 (Abi (by omega))])]
  cases op.fArgs.any Oy<;>rfl
theorem IY.ofN {v:List Ab}(hs:Oy v=false)(hc:v.all KS=true):IY 250 v:=by
 unfold Oy at hs;simp only[Ab1,Abc,List.any_eq_false,AbO,Abd] at hs hc;refine⟨by decide,by omega,λc h=>?_⟩;have h1:=hs.2 c h;have h2:=hc c h;unfold KS at h2;simp only[Abk] at h2;exact⟨by omega,h2.1.1.2,(GK h2.2).2⟩
structure V0 (M:Nat) (op:A0):Prop where
 e:op.fEntity.length≤1000000
 i:op.fID.length≤1000000
 o:op.fOp.length≤1000000
 n:op.fArgs.length≤1000000
 a:∀v∈op.fArgs,IY M v
theorem V0.of {op:A0}(hs:JP op=false)(hc:op.fArgs.all (λv=>v.all KS)=true):V0 250 op:=by
 unfold JP at hs;simp only[Ab1,Abc,List.any_eq_false] at hs;exact⟨by omega,by omega,by omega,by omega,λv hv=>IY.ofN (by have:=hs.2 v hv;simpa using this) (List.all_eq_true.1 hc v hv)⟩
abbrev NI:Ae:=[114,101,97,100]
abbrev KM:Ae:=[119,114,105,116,101]
abbrev Su:Ae:=[97,100,100]
abbrev Ss:Ae:=[99,97,115]
def HV (op:Ae):Int:=if op=NI then 0 else if op=KM then 1 else if op=Su then 1 else if op=Ss then 2 else -1
theorem Vs:By (By (By (By ([]:List (Ae×Int)) NI 0) KM 1) Su 1) Ss 2=[(Su,1),(Ss,2),(NI,0),(KM,1)]:=by decide
theorem UQ (op:Ae):∃n,Oc op=some (n,decide (0≤HV op))∧(0≤HV op→n=HV op):=by
 unfold Oc;rw[show By (By (By (By ([]:List (Ae×Int)) ([114,101,97,100]:Ae) 0) ([119,114,105,116,101]:Ae) 1) ([97,100,100]:Ae) 1) ([99,97,115]:Ae) 2=[(Su,1),(Ss,2),(NI,0),(KM,1)] from Vs];unfold AN C2 HV
 by_cases h1:op=NI
 ·subst h1;exact⟨0,rfl,λ_=>rfl⟩
 ·by_cases h2:op=KM
  ·subst h2;exact⟨1,rfl,λ_=>rfl⟩
  ·by_cases h3:op=Su
   ·subst h3;exact⟨1,rfl,λ_=>rfl⟩
   ·by_cases h4:op=Ss
    ·subst h4;exact⟨2,rfl,λ_=>rfl⟩
    ·have hn:G1 [(Su,(1:Int)),(Ss,2),(NI,0),(KM,1)] op=none:=by
      simp only[G1];rw[Abi (λe=>h3 e.symm),Abi (λe=>h4 e.symm),Abi (λe=>h1 e.symm),Abi (λe=>h2 e.symm)];rfl
     rw[hn,Ab6 h1,Ab6 h2,Ab6 h3,Ab6 h4];exact⟨0,rfl,λe=>by omega⟩
theorem S6 (op:Ae):L4 op=some (HV op):=by
 unfold L4 HV
 by_cases h1:op=NI
 ·rw[AK (Abm h1),AbB h1]
 ·rw[A8 (Abi h1),Ab6 h1]
  by_cases h2:op=KM
  ·rw[AK (Abm h2),AbB h2]
  ·rw[A8 (Abi h2),Ab6 h2]
   by_cases h3:op=Su
   ·rw[AK (Abm h3),AbB h3]
   ·rw[A8 (Abi h3),Ab6 h3]
    by_cases h4:op=Ss
    ·rw[AK (Abm h4),AbB h4]
    ·rw[A8 (Abi h4),Ab6 h4]
def Hf (op:A0):Int:=if (J4 op.fEntity&&(J4 op.fID&&decide (0≤HV op.fOp)))=false then 4 else if (op.fArgs.length:Int)=HV op.fOp then Iz Hv op.fArgs else 7
theorem Pg {M F:Nat}{op:A0}(hA:V0 M op)(hM:M≤1000000)(hF:M<F)(hF2:op.fArgs.length<F):Jn F op=some (Hf op):=by
 obtain⟨n,h1,h2⟩:=UQ op.fOp;unfold Jn Hf;rw[h1,AU rfl];simp only;have hk:((!(J4 op.fEntity))||((!(J4 op.fID))||(!decide (0≤HV op.fOp)))) = !(J4 op.fEntity&&(J4 op.fID&&decide (0≤HV op.fOp))):=by
  cases J4 op.fEntity<;>cases J4 op.fID<;>cases decide (0≤HV op.fOp)<;>rfl
 rw[hk]
 cases hb:(J4 op.fEntity&&(J4 op.fID&&decide (0≤HV op.fOp))) with
 | false=>rfl
 | true=>
  have h0:0≤HV op.fOp:=by
   simp only[Abk,Abd] at hb;exact hb.2.2
  rw[A8 (by rfl),h2 h0,Ab6 (by simp)]
  by_cases hl:(op.fArgs.length:Int)=HV op.fOp
  ·rw[AbB hl,A8 (by simp[hl])];exact Od (l:=op.fArgs) (f:=Hv) (u:=()) hF2 (λi h=>by
    unfold H3;rw[AK (Abm (by omega)),Br (by omega) (by omega),GM h,Mc (hA.a _ (List.getElem_mem h)) hM hF,AU rfl,AI (by omega) (by have:=hA.n;omega)]) (by unfold H3;rw[A8 (Abi (by omega))])
  ·rw[Ab6 hl,AK (by simp[hl])]
theorem Yl:∀a b d e f g h i j:Bool,(B0 (some a) λha=>Bl ha (some true) (Bl d (Bl e (some true) (B0 (some b) λhb=>Bl hb (some true) (Bl f (some true) (Bl g (some true) (Bl h (some true) (Bl i (some true) (some j))))))) (B0 (some b) λhd=>Bl hd (some true) (Bl f (some true) (Bl g (some true) (Bl h (some true) (Bl i (some true) (some j))))))))=some (a||b||(d&&e)||f||g||h||i||j):=by decide
theorem ST (c:Int):PZ c=some (D6 c):=Yl (decide (97≤c)&&decide (c≤122)) (decide (48≤c)&&decide (c≤57)) (decide (65≤c)) (decide (c≤90)) (decide (c=45)) (decide (c=95)) (decide (c=46)) (decide (c=58)) (decide (c=47))
theorem LV:∀(s:Ae) (k:Nat),BD Mx k s=s.all λu=>D6 u.toNat
 | [],k=>rfl
 | u::r,k=>by rw[BD,LV r (k+1),AbS];rfl
theorem RD {F:Nat}(hF:64<F)(s:Ae):La F s=some (J4 s):=by
 unfold La J4;rw[LV]
 by_cases hl:(s.length:Int)<1∨(64:Int)<(s.length:Int)
 ·rw[AK (by simpa using hl)];have:(decide (1≤s.length)&&decide (s.length≤64))=false:=by
   simp only[AbG,Abc];omega
  rw[Bool.and_assoc,this,Ab0]
 ·rw[A8 (by simpa using hl)];have hb:(decide (1≤s.length)&&decide (s.length≤64))=true:=by
   simp only[Abk,Abd];omega
  rw[Bool.and_assoc,hb,Abx,LH (l:=s) (bad:=λu=>!D6 u.toNat) (u:=()) (by omega) (λi h=>by
   unfold Kw;rw[AK (Abm (by omega)),Br (by omega) (by omega),Ld (Abn h),ST,AU rfl,AI (by omega) (by omega)]) (by unfold Kw;rw[A8 (Abi (by omega))])]
  have:(s.any λu=>!D6 u.toNat) = !(s.all λu=>D6 u.toNat):=by rw[List.not_all_eq_any_not]
  rw[this]
  cases s.all λu=>D6 u.toNat<;>rfl
theorem MO {M F:Nat}{op:A0}(hA:V0 M op)(hM:M≤1000000)(hF:4*M+70<F)(hF2:op.fArgs.length<F):HJ F op=some (Hf op):=by
 unfold HJ Hf;rw[S6,AU rfl,RD (by omega),RD (by omega),Option.isSome_some,Option.isSome_some,BS rfl,BS (by unfold imp;simp),Hu,Hu];have hk:((!(J4 op.fEntity))||((!(J4 op.fID))||(decide (HV op.fOp<0)))) = !(J4 op.fEntity&&(J4 op.fID&&decide (0≤HV op.fOp))):=by
  have:decide (HV op.fOp<0) = !decide (0≤HV op.fOp):=by rw[Abu];simp
  rw[this]
  cases J4 op.fEntity<;>cases J4 op.fID<;>cases decide (0≤HV op.fOp)<;>rfl
 rw[hk]
 cases hb:(J4 op.fEntity&&(J4 op.fID&&decide (0≤HV op.fOp))) with
 | false=>rfl
 | true=>
  rw[A8 (by rfl),Ab6 (by simp)]
  by_cases hl:(op.fArgs.length:Int)=HV op.fOp
  ·rw[AbB hl,A8 (by simp[hl])];exact Od (l:=op.fArgs) (f:=Hv) (u:=()) hF2 (λi h=>by
    unfold Gj;rw[AK (Abm (by omega)),Br (by omega) (by omega),GM h,Mk (hA.a _ (List.getElem_mem h)) hM (by omega),AU rfl,AI (by omega) (by have:=hA.n;omega)]) (by unfold Gj;rw[A8 (Abi (by omega))])
  ·rw[Ab6 hl,AK (by simp[hl])]
theorem Xn {op:A0}(h:Hf op=0):J4 op.fEntity=true∧J4 op.fID=true∧0≤HV op.fOp∧(op.fArgs.length:Int)=HV op.fOp∧∀v∈op.fArgs,Hv v=0:=by
 unfold Hf at h
 split at h
 ·simp at h
 ·rename_i h1
  rw[Bool.not_eq_false] at h1;simp only[Abk,Abd] at h1
  split at h
  ·rename_i h2
   refine⟨h1.1,h1.2.1,h1.2.2,h2,?_⟩;have key:∀l:List (List Ab),Iz Hv l=0→∀v∈l,Hv v=0:=by
    intro l
    induction l with
    | nil=>intro _ v hv;cases hv
    | cons x r ih=>
     intro hf v hv;rw[Iz] at hf
     by_cases hx:Hv x=0
     ·rw[AbB hx] at hf;rcases List.mem_cons.1 hv with rfl | hv
      ·exact hx
      ·exact ih hf v hv
     ·rw[Ab6 hx] at hf;exact absurd hf hx
   exact key _ h
  ·simp at h
theorem R7:GU 30000=some true:=by decide +kernel
theorem Yr (s:Ae):Qs (D9 s)=s:=by
 unfold Qs D9;rw[Acb];have:((λx:Int=>UInt8.ofNat x.toNat) ∘ λc:UInt8=>(c.toNat:Int))=id:=by funext c;simp
 rw[this,List.map_id]
theorem Yc (a b:Ae):D9 a++D9 b=D9 (a++b):=by simp[D9]
theorem Sm (a:Ae):(D9 a).length=a.length:=by simp[D9]
theorem OP (n:Nat):IntKind.wrap .u8 (n:Int)=((UInt8.ofNat n).toNat:Int):=by
 simp[IntKind.wrap,IntKind.signed,IntKind.bits]
theorem AaF (n:Nat):KZ .i64 (n:Int) 8=((n/256:Nat):Int):=by
 unfold KZ;have e:min (8:Int).toNat (IntKind.bits .i64)=8:=by decide
 rw[e,Int.fdiv_eq_ediv_of_nonneg _ (by decide)];simp
def Oo (f:Ae):Ae:=UInt8.ofNat (f.length/256)::UInt8.ofNat (f.length % 256)::f
def T1 (l:List Ae):Ae:=UInt8.ofNat l.length::l.flatMap Oo
def Ze (l:List Ae):Bool:=decide (l.length≤64)&&l.all λf=>decide (f.length≤4000)
def NQ (l:List Ae):Ae×Int:=bif Ze l then(T1 l,0) else([],3)
theorem Pd (l:List Ae)(b:List Int×Int→Option (Stp (List Int×Int) (Out (Ae×Int) (List Int))))(hl:l.length≤64)
  (hb:∀(acc:List Int) (x:Int) (f:Ae),acc.length≤300000→0≤x→x<(l.length:Int)→Am l x=f→b (acc,x)=bif decide (4000<f.length) then some (.out (.ret ([],3))) else some (.next (acc++D9 (Oo f),x+1)))
  (he:∀acc,b (acc,(l.length:Int))=some (.out (.go acc))) {F:Nat} (hF:64<F) :
  B0 (Ca b F (D9 [UInt8.ofNat l.length],0)) (BT λq=>some (Qs q,0))=some (NQ l):=by
 have key:∀(k:Nat) (F:Nat) (acc:Ae),k<F→k≤l.length→acc.length≤1+(l.length-k)*4002→
   B0 (Ca b F (D9 acc,((l.length-k:Nat):Int))) (BT λq=>some (Qs q,0))=some (bif (l.drop (l.length-k)).all (λf=>decide (f.length≤4000)) then(acc++(l.drop (l.length-k)).flatMap Oo,0) else([],3)):=by
  intro k
  induction k with
  | zero=>
   intro F acc hF _ _
   cases F with
   | zero=>omega
   | succ F=>rw[Ca,Nat.sub_zero,he];simp[B0,BT,Yr]
  | succ k ih=>
   intro F acc hF hk hacc
   cases F with
   | zero=>omega
   | succ F=>
    have hlt:l.length-(k+1)<l.length:=by omega
    have hat:Am l ((l.length-(k+1):Nat):Int)=l[l.length-(k+1)]:=by simp[Am,hlt]
    have hd:l.drop (l.length-(k+1))=l[l.length-(k+1)]::l.drop (l.length-k):=by
     rw[List.drop_eq_getElem_cons hlt];congr 2;omega
    have ha:(l.length-(k+1))*4002≤64*4002:=Nat.mul_le_mul_right _ (by omega);rw[Ca,hb _ _ _ (by rw[Sm];omega) (by omega) (by omega) hat,hd];generalize l[l.length-(k+1)]=f at *
    cases h4:decide (4000<f.length) with
    | true=>
     simp only[Abd] at h4;rw[AbS,Abi (by omega),Abw];rfl
    | false=>
     simp only[Abc] at h4;have e2:(l.length-(k+1))*4002+4002=(l.length-k)*4002:=by
      rw[show l.length-k=l.length-(k+1)+1 from by omega,Nat.succ_mul]
     have:=ih F (acc++Oo f) (by omega) (by omega) (by simp[Oo];omega);rw[show((l.length-(k+1):Nat):Int)+1=((l.length-k:Nat):Int) from by omega];simp only[Abh,Yc];rw[this,AbS,Abm (by omega),Abp,List.flatMap_cons,Ab7]
 have:=key l.length F [UInt8.ofNat l.length] (by omega) (AbA _) (by simp);simp only[Nat.sub_self,List.drop_zero] at this;refine Eq.trans this ?_;unfold NQ Ze T1;rw[Abm hl,Abp];rfl
theorem IW {α:Type}{n:Nat}{x:Option α}(h:n≤1000000000):AY (Dz 1 n) x=x:=BS (Abm (by omega))
theorem K1 {α:Type}{n:Nat}{x:Option α}(h:n≤1000000000):AY (Dz 16 n) x=x:=BS (Abm (by omega))
theorem MV (f:Ae):decide ((4000:Int)<(f.length:Int))=decide (4000<f.length):=by rw[Abu];simp;omega
theorem Xm {F:Nat}{l:List Ae}(hF:64<F):RF F l=some (NQ l):=by
 unfold RF
 by_cases ha:l.length≤64
 ·rw[A8 (Abi (by omega)),OP];refine Pd l _ ha (λacc x f hacc h0 hx hat=>?_) (λacc=>?_) hF
  ·show GV l acc x=_;unfold GV;rw[AK (Abm hx),Br h0 hx,hat,MV]
   cases h4:decide (4000<f.length) with
   | true=>rfl
   | false=>
    simp only[Abc] at h4;have e1:([IntKind.wrap .u8 (KZ .i64 (f.length:Int) 8),IntKind.wrap .u8 (f.length:Int)]:List Int)++D9 f=D9 (Oo f):=by
     rw[AaF,OP,OP];simp[D9,Oo]
    rw[A8 rfl,IW (by simp;omega),IW (by simp;omega),AI (by omega) (by omega),Ab7,e1];rfl
  ·show GV l acc _=_;unfold GV;rw[A8 (Abi (by omega))]
 ·rw[AK (Abm (by omega))];unfold NQ Ze;rw[Abi ha];rfl
theorem UC {F:Nat}{l:List Ae}(hF:64<F):NO F l=some (NQ l):=by
 unfold NO
 by_cases ha:l.length≤64
 ·rw[A8 (Abi (by omega)),OP];refine Pd l _ ha (λacc x f hacc h0 hx hat=>?_) (λacc=>?_) hF
  ·show Gk l acc x=_;unfold Gk;rw[AK (Abm hx),Br h0 hx,hat,MV]
   cases h4:decide (4000<f.length) with
   | true=>rfl
   | false=>
    simp only[Abc] at h4;have ed:Int.tdiv (f.length:Int) 256=((f.length/256:Nat):Int):=by rw[Int.tdiv_eq_ediv_of_nonneg (by omega)];rfl
    have em:Int.tmod (f.length:Int) 256=((f.length % 256:Nat):Int):=by rw[Int.tmod_eq_emod_of_nonneg (by omega)];rfl
    have e1:([IntKind.wrap .u8 (Int.tdiv (f.length:Int) 256),IntKind.wrap .u8 (Int.tmod (f.length:Int) 256)]:List Int)++D9 f=D9 (Oo f):=by
     rw[ed,em,OP,OP];simp[D9,Oo]
    rw[A8 rfl,AI (by rw[ed];omega) (by rw[ed];omega),IW (by simp;omega),IW (by simp;omega),AI (by omega) (by omega),Ab7,e1];rfl
  ·show Gk l acc _=_;unfold Gk;rw[A8 (Abi (by omega))]
 ·rw[AK (Abm (by omega))];unfold NQ Ze;rw[Abi ha];rfl
def NF:Nat→Ae→List Ae→List Ae×Int
 | 0,s,acc=>bif decide (s=[]) then(acc,0) else([],13)
 | n+1,a::b::r,acc=>bif decide (4000<a.toNat*256+b.toNat) then([],13) else bif decide (r.length<a.toNat*256+b.toNat) then([],14) else NF n (r.drop (a.toNat*256+b.toNat)) (acc++[r.take (a.toNat*256+b.toNat)])
 | n+1,_,acc=>([],14)
def Ck:Ae→List Ae×Int
 | []=>([],14)
 | c::s=>bif decide (64<c.toNat) then([],13) else NF c.toNat s []
theorem AaL (a b:UInt8):MS .i64 (G2 .i64 (a.toNat:Int) 8) (b.toNat:Int)=((a.toNat*256+b.toNat:Nat):Int):=by
 have ha:=a.toNat_lt;have hb:=b.toNat_lt;have e0:G2 .i64 (a.toNat:Int) 8=((a.toNat*256:Nat):Int):=by
  unfold G2;have e:min (8:Int).toNat (IntKind.bits .i64)=8:=by decide
  rw[e,IntKind.wrap_i64];omega
 rw[e0];unfold MS;have h1:(BitVec.ofInt (IntKind.bits .i64) ((a.toNat*256:Nat):Int)||| BitVec.ofInt (IntKind.bits .i64) (b.toNat:Int)).toNat=a.toNat*256+b.toNat:=by
  rw[BitVec.toNat_or,BitVec.toNat_ofInt,BitVec.toNat_ofInt];have hbits:IntKind.bits .i64=64:=rfl;rw[hbits];have e1:(((a.toNat*256:Nat):Int) % ((2 ^ 64:Nat):Int)).toNat=a.toNat*256:=by omega
  have e2:(((b.toNat:Nat):Int) % ((2 ^ 64:Nat):Int)).toNat=b.toNat:=by omega
  rw[e1,e2,show a.toNat*256=a.toNat <<< 8 from by rw[Nat.shiftLeft_eq]];rw[Nat.shiftLeft_add_eq_or_of_lt (by simpa using hb)]
 rw[h1,IntKind.wrap_i64];omega
theorem ZR (a:UInt8)(r:Ae):Be (a::r) 0=(a.toNat:Int):=rfl
theorem AaN (a b:UInt8)(r:Ae):Be (a::b::r) 1=(b.toNat:Int):=rfl
theorem Xl (s:Ae)(c:UInt8)(hs:Be s 0=(c.toNat:Int)):∀(k:Nat) (F:Nat) (t:Ae) (acc:List Ae) (z i:Int),k<F→i+k=(c.toNat:Int)→0≤i→acc.length≤64-k→k≤64→t.length≤1000000000→
  B0 (Ca (λσ=>CP s σ.1 σ.2.1 σ.2.2.1 σ.2.2.2) F (t,acc,z,i)) (BT λν=>Ga ν.1 ν.2)=some (NF k t acc)
 | k,0,t,acc,z,i,h,_,_,_,_,_=>by omega
 | 0,F+1,t,acc,z,i,hF,hi,h0,ha,hk,ht=>by
  rw[Ca];have hb:CP s t acc z i=some (.out (.go (t,acc))):=by
   unfold CP;rw[A8 (Abi (by omega))]
  simp only[hb];show Ga t acc=_;unfold Ga NF
  cases h:decide (t=[]) with
  | true=>rw[A8 (p:=!true) rfl,C1 (by omega) (Ab9 _)];simp
  | false=>rfl
 | k+1,F+1,t,acc,z,i,hF,hi,h0,ha,hk,ht=>by
  rw[Ca];have hcc:=c.toNat_lt
  match t,ht with
  | [],ht=>
   have hb:CP s [] acc z i=some (.out (.ret ([],14))):=by
    unfold CP;rw[AK (Abm (by omega)),AK (by decide)];rfl
   simp only[hb];rfl
  | [a],ht=>
   have hb:CP s [a] acc z i=some (.out (.ret ([],14))):=by
    unfold CP;rw[AK (Abm (by omega)),AK (by simp)];rfl
   simp only[hb];rfl
  | a::b::r,ht=>
   have haa:=a.toNat_lt;have hbb:=b.toNat_lt;simp only[Abf] at ht;have hd:List.drop (Int.toNat 2) (a::b::r)=r:=rfl;have hb:CP s (a::b::r) acc z i=bif decide (4000<a.toNat*256+b.toNat) then some (.out (.ret ([],13))) else bif decide (r.length<a.toNat*256+b.toNat) then some (.out (.ret ([],14))) else some (.next (r.drop (a.toNat*256+b.toNat),acc++[r.take (a.toNat*256+b.toNat)],((a.toNat*256+b.toNat:Nat):Int),i+1)):=by
    unfold CP;rw[AK (Abm (by omega)),A8 (Abi (by simp only[Abf];omega)),ZR,AaN,hd,AaL];have hlen:((a::b::r).length:Int)=(r.length:Int)+2:=by simp only[Abf];omega
    rw[hlen,Br (by omega) (by omega),AI (by omega) (by omega),Br (by omega) (by omega),AI (by omega) (by omega),C1 (by omega) (by omega)];generalize a.toNat*256+b.toNat=m;rw[show decide ((4000:Int)<(m:Int))=decide (4000<m) from by rw[Abu];simp;omega,show decide ((r.length:Int)<(m:Int))=decide (r.length<m) from by rw[Abu];simp]
    cases h1:decide (4000<m) with
    | true=>rfl
    | false=>
     cases h2:decide (r.length<m) with
     | true=>rfl
     | false=>
      simp only[Abc] at h1 h2;rw[A8 rfl,A8 rfl,C1 (by omega) (by omega),K1 (by simp;omega),AI (by omega) (by omega)];rfl
   simp only[hb];rw[NF]
   cases h1:decide (4000<a.toNat*256+b.toNat) with
   | true=>rfl
   | false=>
    cases h2:decide (r.length<a.toNat*256+b.toNat) with
    | true=>rfl
    | false=>
     simp only[Abh];exact Xl s c hs k F _ _ _ _ (by omega) (by omega) (by omega) (by simp;omega) (by omega) (by simp;omega)
theorem SV {F:Nat}{s:Ae}(hF:64<F)(hs:s.length≤1000000000):LR F s=some (Ck s):=by
 unfold LR
 cases s with
 | nil=>rfl
 | cons c t=>
  have hc:=c.toNat_lt;simp only[Abf] at hs;rw[A8 (by simp),Br (by omega) (by simp only[Abf];omega),ZR,AI (by omega) (by omega),C1 (by omega) (by simp only[Abf];omega)];rw[show decide ((64:Int)<(c.toNat:Int))=decide (64<c.toNat) from by rw[Abu];simp;omega];rw[Ck]
  cases h:decide (64<c.toNat) with
  | true=>rfl
  | false=>
   simp only[Abc] at h;rw[A8 rfl];exact Xl (c::t) c rfl c.toNat F t [] 0 0 (by omega) (by omega) (Ab9 0) (by simp) (by omega) (by omega)
theorem RO {s:Ae}{k:Nat}{a:UInt8}{r:Ae}(h:s.drop k=a::r):Be s (k:Int)=(a.toNat:Int):=by
 have:s[k]? =some a:=by rw[← List.head?_drop,h];rfl
 simp[Be,this]
theorem S8 {s:Ae}{c a b:UInt8}{r:Ae}{p:Nat}{acc:List Ae}{i:Int}(hs:Be s 0=(c.toNat:Int))(hsl:s.length≤1000000000)(hd:s.drop p=a::b::r)(hi:i<(c.toNat:Int))(h0:0≤i)(ha:acc.length≤64) :
  C7 s acc (p:Int) i=bif decide (4000<a.toNat*256+b.toNat) then some (.out (.ret ([],13))) else bif decide (r.length<a.toNat*256+b.toNat) then some (.out (.ret ([],14))) else some (.next (acc++[r.take (a.toNat*256+b.toNat)],((p+2+(a.toNat*256+b.toNat):Nat):Int),i+1)):=by
 have hcc:=c.toNat_lt;have haa:=a.toNat_lt;have hbb:=b.toNat_lt;have hdl:(s.drop p).length=s.length-p:=AbK ..;rw[hd] at hdl;simp only[Abf] at hdl;have hd1:s.drop (p+1)=b::r:=by rw[← List.drop_drop,hd];rfl
 have hd2:s.drop (p+2)=r:=by rw[← List.drop_drop,hd];rfl
 have b1:Be s ((p:Int)+1)=(b.toNat:Int):=by rw[show(p:Int)+1=((p+1:Nat):Int) from by omega];exact RO hd1
 unfold C7;rw[hs,AK (Abm hi),AI (by omega) (by omega),A8 (Abi (by omega)),RO hd,b1];have e1:(a.toNat:Int)*256+(b.toNat:Int)=((a.toNat*256+b.toNat:Nat):Int):=by omega
 rw[Br (by omega) (by omega),AI (by omega) (by omega),AI (by omega) (by omega),AI (by omega) (by omega),Br (by omega) (by omega),AI (by omega) (by omega),AI (by omega) (by omega),e1];have hm2:a.toNat*256+b.toNat≤100000:=by omega
 generalize a.toNat*256+b.toNat=m at *;have e2:(s.length:Int)-(p:Int)-2=(r.length:Int):=by omega
 have e3:(p:Int)+2+(m:Int)=((p+2+m:Nat):Int):=by omega
 have e4:Int.toNat ((p:Int)+2)=p+2:=by omega
 rw[e2,e3,e4,hd2,show decide ((4000:Int)<(m:Int))=decide (4000<m) from by rw[Abu];simp;omega,show decide ((r.length:Int)<(m:Int))=decide (r.length<m) from by rw[Abu];simp]
 cases h1:decide (4000<m) with
 | true=>rw[AK rfl,Abj]
 | false=>
  rw[A8 rfl,Abh,AI (by omega) (by omega)]
  cases h2:decide (r.length<m) with
  | true=>rw[AK rfl,Abj]
  | false=>
   simp only[Abc] at h1 h2;rw[A8 rfl,Abh,AI (by omega) (by omega),AI (by omega) (by omega),C1 (by omega) (by omega),C1 (by omega) (by omega),K1 (by simp;omega),AI (by omega) (by omega)];rw[show(((p+2+m:Nat):Int)).toNat-(p+2)=m from by omega]
theorem Yj (s:Ae)(c:UInt8)(hs:Be s 0=(c.toNat:Int))(hsl:s.length≤1000000000)(k:Nat):∀(F:Nat) (p:Nat) (acc:List Ae) (i:Int),k<F→i+k=(c.toNat:Int)→0≤i→acc.length≤64-k→k≤64→p≤s.length→
  B0 (Ca (λσ=>C7 s σ.1 σ.2.1 σ.2.2) F (acc,(p:Int),i)) (BT λν=>E3 s ν.1 ν.2)=some (NF k (s.drop p) acc):=by
 induction k with
 | zero=>
  intro F p acc i hF hi h0 ha hk hp;obtain⟨F,rfl⟩:∃G,F=G+1:=⟨F-1,by omega⟩
  rw[Ca];have hb:C7 s acc (p:Int) i=some (.out (.go (acc,(p:Int)))):=by
   unfold C7;rw[A8 (Abi (by omega))]
  simp only[hb];show E3 s acc p=_;unfold E3 NF;rw[show decide ((p:Int)<(s.length:Int)) = !decide (s.drop p=[]) from by rw[Abu];simp]
  cases h:decide (s.drop p=[])<;>rfl
 | succ k ih=>
  intro F p acc i hF hi h0 ha hk hp;obtain⟨F,rfl⟩:∃G,F=G+1:=⟨F-1,by omega⟩
  rw[Ca];have hcc:=c.toNat_lt;have hdl:(s.drop p).length=s.length-p:=AbK ..
  match hd:s.drop p with
  | []=>
   rw[hd] at hdl;simp only[AbP] at hdl;have hb:C7 s acc (p:Int) i=some (.out (.ret ([],14))):=by
    unfold C7;rw[AK (Abm (by omega)),AI (by omega) (by omega),AK (Abm (by omega))]
   simp only[hb];rfl
  | [a]=>
   rw[hd] at hdl;simp only[Abf,AbP] at hdl;have hb:C7 s acc (p:Int) i=some (.out (.ret ([],14))):=by
    unfold C7;rw[AK (Abm (by omega)),AI (by omega) (by omega),AK (Abm (by omega))]
   simp only[hb];rfl
  | a::b::r=>
   have hd2:s.drop (p+2)=r:=by rw[← List.drop_drop,hd];rfl
   have hb:=S8 (acc:=acc) (i:=i) hs hsl hd (by omega) h0 (by omega);simp only[hb];rw[hd] at hdl;simp only[Abf] at hdl;rw[NF];generalize a.toNat*256+b.toNat=m
   cases h1:decide (4000<m) with
   | true=>simp only[Abj];rfl
   | false=>
    cases h2:decide (r.length<m) with
    | true=>simp only[Abj,Abh];rfl
    | false=>
     simp only[Abc] at h1 h2;simp only[Abh];have:=ih F (p+2+m) (acc++[r.take m]) (i+1) (by omega) (by omega) (by omega) (by rw[Abl];simp only[Abf,AbP];omega) (by omega) (by omega);rw[← List.drop_drop,hd2] at this;exact this
theorem Rd {F:Nat}{s:Ae}(hF:64<F)(hs:s.length≤1000000000):JE F s=some (Ck s):=by
 unfold JE
 cases s with
 | nil=>rfl
 | cons c t=>
  have hc:=c.toNat_lt;simp only[Abf] at hs;rw[A8 (Abi (by simp;omega)),Br (by omega) (by simp only[Abf];omega),ZR];rw[show decide ((64:Int)<(c.toNat:Int))=decide (64<c.toNat) from by rw[Abu];simp;omega];rw[Ck]
  cases h:decide (64<c.toNat) with
  | true=>rfl
  | false=>
   simp only[Abc] at h;rw[A8 rfl,AI (by omega) (by omega)];exact Yj (c::t) c rfl (by simp;omega) c.toNat F 1 [] 0 (by omega) (by omega) (Ab9 0) (by simp) (by omega) (by simp)
theorem QK:∀(n:Nat) (s:Ae) (acc:List Ae) (q:List Ae),NF n s acc=(q,0)→∃l,q=acc++l∧l.length=n∧(l.all λf=>decide (f.length≤4000))=true∧l.flatMap Oo=s
 | 0,s,acc,q,h=>by
  rw[NF] at h
  cases hs:decide (s=[]) with
  | true=>rw[hs] at h;simp only[Abj,Prod.mk.injEq] at h;exact⟨[],by simp[h.1],rfl,rfl,by rw[AbE hs];rfl⟩
  | false=>rw[hs] at h;cases h
 | n+1,[],acc,q,h=>by have h2:(([]:List Ae),(14:Int))=(q,0):=h;cases h2
 | n+1,[a],acc,q,h=>by have h2:(([]:List Ae),(14:Int))=(q,0):=h;cases h2
 | n+1,a::b::r,acc,q,h=>by
  rw[NF] at h;have ha:=a.toNat_lt;have hb:=b.toNat_lt
  cases h1:decide (4000<a.toNat*256+b.toNat) with
  | true=>rw[h1] at h;cases h
  | false=>
   cases h2:decide (r.length<a.toNat*256+b.toNat) with
   | true=>rw[h1,h2] at h;cases h
   | false=>
    rw[h1,h2] at h;simp only[Abh] at h;simp only[Abc] at h1 h2;obtain⟨l,e1,e2,e3,e4⟩:=QK n _ _ _ h;have hl:(r.take (a.toNat*256+b.toNat)).length=a.toNat*256+b.toNat:=by simp;omega
    refine⟨r.take (a.toNat*256+b.toNat)::l,by rw[e1];simp,by simp[e2],?_,?_⟩
    ·rw[AbS,e3,Abx,Abd,hl];omega
    ·rw[List.flatMap_cons,e4];unfold Oo;rw[hl];have x1:UInt8.ofNat ((a.toNat*256+b.toNat)/256)=a:=by
      apply UInt8.toNat_inj.1;simp only[UInt8.toNat_ofNat'];omega
     have x2:UInt8.ofNat ((a.toNat*256+b.toNat) % 256)=b:=by
      apply UInt8.toNat_inj.1;simp only[UInt8.toNat_ofNat'];omega
     rw[x1,x2];simp
theorem Ri {s:Ae}{l:List Ae}(h:Ck s=(l,0)):Ze l=true∧T1 l=s:=by
 cases s with
 | nil=>cases h
 | cons c t=>
  rw[Ck] at h
  cases h1:decide (64<c.toNat) with
  | true=>rw[h1] at h;cases h
  | false=>
   rw[h1] at h;simp only[Abh] at h;simp only[Abc] at h1;obtain⟨l',e1,e2,e3,e4⟩:=QK _ _ _ _ h;simp only[AbU] at e1;subst e1;unfold Ze T1;rw[e3,e4,e2,Abm (by omega)];exact⟨rfl,by simp⟩
theorem Md {s:Ae}{f:Ae}(h:f∈(Ck s).1)(h0:(Ck s).2=0):f.length≤4000:=by
 have:=(Ri (s:=s) (l:=(Ck s).1) (by rw[← h0])).1;unfold Ze at this;simp only[Abk,Abd,AbO] at this;exact this.2 f h
theorem V1 {α:Type}[DecidableEq α]:∀{a b:List α},a.length=b.length→((a.zip b).any λp=>!decide (p.1=p.2)) = !decide (a=b)
 | [],[],_=>rfl
 | x::a,y::b,h=>by
  have ih:=V1 (a:=a) (b:=b) (by simpa using h);rw[List.zip_cons_cons,List.any_cons,ih]
  by_cases h1:x=y
  ·subst h1
   by_cases h2:a=b
   ·subst h2;simp
   ·simp[h2]
  ·simp[h1]
 | [],_::_,h=>by simp at h
 | _::_,[],h=>by simp at h
theorem UF (a b:A0):a=b↔a.fEntity=b.fEntity∧a.fID=b.fID∧a.fOp=b.fOp∧a.fArgs=b.fArgs:=by
 cases a;cases b;simp
theorem Sw {M F:Nat}{a b:A0}(hA:V0 M a)(hM:M≤1000000)(hF:M<F)(hF2:a.fArgs.length<F):GI F a b=some (decide (a=b)):=by
 unfold GI
 by_cases hc:a.fEntity=b.fEntity∧a.fID=b.fID∧a.fOp=b.fOp∧(a.fArgs.length:Int)=(b.fArgs.length:Int)
 ·rw[A8 (by simp[hc.1,hc.2.1,hc.2.2.1,hc.2.2.2])];have hl:a.fArgs.length=b.fArgs.length:=by have:=hc.2.2.2;omega
  have hn:=hA.n;rw[LH (l:=a.fArgs.zip b.fArgs) (bad:=λp=>!decide (p.1=p.2)) (u:=()) (by rw[List.length_zip];omega) (λi h=>by
   rw[List.length_zip] at h;unfold GC;have h1:i<a.fArgs.length:=by omega
   have h2:i<b.fArgs.length:=by omega
   rw[AK (Abm (by omega)),Br (by omega) (by omega),Br (by omega) (by omega),GM h1,GM h2,VY (by have:=(hA.a _ (List.getElem_mem h1)).hv;omega) (by have:=(hA.a _ (List.getElem_mem h1)).hv;omega),AU rfl,AI (by omega) (by omega),List.getElem_zip]) (by
   unfold GC;rw[List.length_zip,A8 (Abi (by omega))]),V1 hl]
  have he:decide (a=b)=decide (a.fArgs=b.fArgs):=by
   rw[Abu,Abd,Abd,UF];exact⟨λh=>h.2.2.2,λh=>⟨hc.1,hc.2.1,hc.2.2.1,h⟩⟩
  rw[he]
  cases decide (a.fArgs=b.fArgs)<;>rfl
 ·have he : ¬ a=b:=λe=>hc (by subst e;exact⟨rfl,rfl,rfl,rfl⟩);rw[AK (by
   simp only[AbC,Abz,Abc]
   by_cases h1:a.fEntity=b.fEntity
   ·by_cases h2:a.fID=b.fID
    ·by_cases h3:a.fOp=b.fOp
     ·exact .inr (.inr (.inr λh4=>hc ⟨h1,h2,h3,h4⟩))
     ·exact .inr (.inr (.inl h3))
    ·exact .inr (.inl h2)
   ·exact .inl h1),Abi he]
theorem TC {α β S O:Type}{l:List α}{g:α→β}{mk:Nat→List β→S}{body:S→Option (Stp S O)}{fin:List β→O}{K:Nat}(hb:∀(i:Nat) (h:i<l.length) (acc:List β),acc.length≤K→body (mk i acc)=some (.next (mk (i+1) (acc++[g l[i]]))))(he:∀acc,body (mk l.length acc)=some (.out (fin acc))) :
  ∀(d n i:Nat) (acc:List β),i+d=l.length→d<n→acc.length+d≤K→Ca body n (mk i acc)=some (fin (acc++(l.drop i).map g)):=by
 intro d
 induction d with
 | zero=>
  intro n i acc h hn hK;obtain⟨n,rfl⟩:∃m,n=m+1:=⟨n-1,by omega⟩
  obtain rfl:i=l.length:=by omega
  rw[Ca,he,List.drop_length];simp
 | succ d ih=>
  intro n i acc h hn hK;obtain⟨n,rfl⟩:∃m,n=m+1:=⟨n-1,by omega⟩
  have hi:i<l.length:=by omega
  rw[Ca,hb i hi acc (by omega)];simp only;rw[ih n (i+1) _ (by omega) (by omega) (by simp;omega),List.drop_eq_getElem_cons hi,AbV,Ab7];rfl
def Aav (op:A0)(now:Int):List Ae:=[op.fEntity,op.fID,op.fOp,Lib.itoa now]++op.fArgs.map λv=>(Nf v).1
def YJ (op:A0)(now:Int):Ae×Int:=if Hf op≠0 then([],Hf op) else if now<0∨1073741824<now then([],2) else NQ (Aav op now)
theorem Vl (v:List Ab):(Nf v).2=Hv v:=by
 unfold Nf Hv
 cases whole v with
 | none=>rfl
 | some f=>
  simp only
  cases h:decide (Gq f=0) with
  | true=>rw[AbE h];rfl
  | false=>rfl
theorem SJ {M F:Nat}{op:A0}(hA:V0 M op)(hM:M≤1000000)(hF:4*M+100<F)(hF2:op.fArgs.length<F)(now:Int):LE F op now=some (YJ op now):=by
 have hn:=hA.n;unfold LE YJ;rw[Pg hA hM (by omega) hF2,AU rfl]
 by_cases he:Hf op=0
 ·rw[A8 (by simp[he]),Ab6 (by simp[he])]
  by_cases ht:now<0∨1073741824<now
  ·rw[AbB ht,AK (by simpa using ht)]
  ·rw[Ab6 ht,A8 (by simp only[Ab1,Abc];omega),AI (by omega) (by omega)];obtain⟨_,_,_,_,ev⟩:=Xn he;have h:=TC (O:=Out (Ae×Int) (List Ae)) (l:=op.fArgs) (g:=λv=>(Nf v).1) (mk:=λi acc=>(acc,(i:Int))) (body:=λσ=>E6 F op σ.1 σ.2) (fin:=λacc=>.go acc) (K:=2000000) (λi h acc hK=>by
    unfold E6;simp only;rw[AK (Abm (by omega)),Br (by omega) (by omega),GM h,Sj (hA.a _ (List.getElem_mem h)) hM (by omega),AU rfl,Vl,ev _ (List.getElem_mem h),A8 (by decide),K1 (by simp;omega),AI (by omega) (by omega)];rfl) (λacc=>by unfold E6;simp only;rw[A8 (Abi (by omega))]) op.fArgs.length F 0 [op.fEntity,op.fID,op.fOp,Lib.itoa now] (by omega) hF2 (by simp;omega)
   have h':Ca (λσ=>E6 F op σ.1 σ.2) F ([op.fEntity,op.fID,op.fOp,Lib.itoa now],0)=_:=h;rw[h',AU rfl,Di,List.drop_zero];unfold HN;rw[Xm (by omega),AU rfl];rfl
 ·rw[AK (by simp[he]),AbB he]
theorem PI {M F:Nat}{op:A0}(hA:V0 M op)(hM:M≤1000000)(hF:4*M+100<F)(hF2:op.fArgs.length<F)(now:Int):II F op now=some (YJ op now):=by
 have hn:=hA.n;unfold II YJ;rw[MO hA hM (by omega) hF2,AU rfl]
 by_cases he:Hf op=0
 ·rw[A8 (by simp[he]),Ab6 (by simp[he])]
  by_cases ht:now<0∨1073741824<now
  ·rw[AbB ht,AK (by simpa using ht)]
  ·rw[Ab6 ht,A8 (by simp only[Ab1,Abc];omega),AI (by omega) (by omega)];have h:=TC (O:=Out (Ae×Int) (List Ae)) (l:=op.fArgs) (g:=λv=>(Nf v).1) (mk:=λi acc=>(acc,(i:Int))) (body:=λσ=>D2 F op σ.1 σ.2) (fin:=λacc=>.go acc) (K:=2000000) (λi h acc hK=>by
    unfold D2;simp only;rw[AK (Abm (by omega)),Br (by omega) (by omega),GM h,S4 (hA.a _ (List.getElem_mem h)) hM (by omega),AU rfl,K1 (by simp;omega),AI (by omega) (by omega)];rfl) (λacc=>by unfold D2;simp only;rw[A8 (Abi (by omega))]) op.fArgs.length F 0 [op.fEntity,op.fID,op.fOp,Lib.itoa now] (by omega) hF2 (by simp;omega)
   have h':Ca (λσ=>D2 F op σ.1 σ.2) F ([op.fEntity,op.fID,op.fOp,Lib.itoa now],0)=_:=h;rw[h',AU rfl,Di,List.drop_zero];unfold Gt;rw[UC (by omega),AU rfl];rfl
 ·rw[AK (by simp[he]),AbB he]
def M3 (s:Ae):List Ab×Int:=ov (Nh s)
def ER:List Ae→List (List Ab)×Int
 | []=>([],0)
 | s::r=>if (M3 s).2≠0 then([],(M3 s).2) else if (ER r).2=0 then((M3 s).1::(ER r).1,0) else([],(ER r).2)
theorem TD {R S:Type}{l:List Ae}{mk:Nat→List (List Ab)→S}{body:S→Option (Stp S (Out R (List (List Ab))))}{bad:Int→R}{K:Nat}
  (hb:∀(i:Nat) (h:i<l.length) (acc:List (List Ab)),acc.length≤K→body (mk i acc)=if (M3 l[i]).2≠0 then some (.out (.ret (bad (M3 l[i]).2))) else some (.next (mk (i+1) (acc++[(M3 l[i]).1])))) (he:∀acc,body (mk l.length acc)=some (.out (.go acc))) :
  ∀(d n i:Nat) (acc:List (List Ab)),i+d=l.length→d<n→acc.length+d≤K→Ca body n (mk i acc)=some (if (ER (l.drop i)).2=0 then .go (acc++(ER (l.drop i)).1) else .ret (bad (ER (l.drop i)).2)):=by
 intro d
 induction d with
 | zero=>
  intro n i acc h hn hK;obtain⟨n,rfl⟩:∃m,n=m+1:=⟨n-1,by omega⟩
  obtain rfl:i=l.length:=by omega
  rw[Ca,he,List.drop_length];simp[ER]
 | succ d ih=>
  intro n i acc h hn hK;obtain⟨n,rfl⟩:∃m,n=m+1:=⟨n-1,by omega⟩
  have hi:i<l.length:=by omega
  rw[Ca,hb i hi acc (by omega),List.drop_eq_getElem_cons hi]
  by_cases h0:(M3 l[i]).2=0
  ·have hd:ER (l[i]::l.drop (i+1))=if (ER (l.drop (i+1))).2=0 then((M3 l[i]).1::(ER (l.drop (i+1))).1,0) else([],(ER (l.drop (i+1))).2):=by rw[ER,Ab6 (by simp[h0])]
   rw[Ab6 (by simp[h0]),hd];simp only;rw[ih n (i+1) _ (by omega) (by omega) (by simp;omega)]
   by_cases h1:(ER (l.drop (i+1))).2=0
   ·rw[AbB h1,AbB h1];simp only[AbN];rw[Ab7];rfl
   ·rw[Ab6 h1,Ab6 h1];simp only[Ab6 h1]
  ·have hd:ER (l[i]::l.drop (i+1))=([],(M3 l[i]).2):=by rw[ER,AbB h0]
   rw[AbB h0,hd];simp only[Ab6 h0]
def V2:A0:=⟨[],[],[],[]⟩
def Rx (l:List Ae)(args:List (List Ab)):A0:=⟨Am l 0,Am l 1,Am l 2,args⟩
def YG (l:List Ae)(args:List (List Ab)):A0×Int×Int:=
 if Hf (Rx l args)≠0 then(V2,0,Hf (Rx l args)) else if B7 (Am l 3)<0∨1073741824<B7 (Am l 3) then(V2,0,2) else(Rx l args,B7 (Am l 3),0)
def SX (s:Ae):A0×Int×Int:=
 if (Ck s).2≠0 then(V2,0,(Ck s).2) else if (Ck s).1.length<4 then(V2,0,13)
 else if BR (Am (Ck s).1 3)≠0 then(V2,0,BR (Am (Ck s).1 3)) else if (ER ((Ck s).1.drop 4)).2≠0 then(V2,0,(ER ((Ck s).1.drop 4)).2) else YG (Ck s).1 (ER ((Ck s).1.drop 4)).1
theorem Xw {s:Ae}{r:List Ab×Int}(h:Nh s=some r):IY 4000 r.1:=by
 by_cases h0:r.2=0
 ·exact(YM h h0).1
 ·have:r.1=[]:=by
   unfold Nh at h
   cases h4:decide (4000<s.length) with
   | true=>rw[h4] at h;cases h;rfl
   | false=>
    rw[h4] at h;simp only[Abh] at h
    split at h
    ·rename_i f _
     cases he:decide (Gq f=0) with
     | true=>rw[he] at h;cases h;exact absurd rfl h0
     | false=>rw[he] at h;cases h;rfl
    ·cases h;rfl
  rw[this];exact⟨by decide,by simp,λc hc=>by cases hc⟩
theorem M1 (s:Ae):Nh s=some (M3 s):=by
 obtain⟨r,hr⟩:=Vn s;unfold M3;rw[hr,Hu]
theorem N1:∀(l:List Ae),(ER l).1.length≤l.length∧∀v∈(ER l).1,IY 4000 v
 | []=>⟨AbA _,λv hv=>by cases hv⟩
 | s::r=>by
  obtain⟨h1,h2⟩:=N1 r;rw[ER]
  split
  ·exact⟨AbJ _,λv hv=>by cases hv⟩
  ·split
   ·refine⟨by simp;omega,λv hv=>?_⟩;rcases List.mem_cons.1 hv with rfl | hv
    ·exact Xw (M1 s)
    ·exact h2 v hv
   ·exact⟨AbJ _,λv hv=>by cases hv⟩
theorem LU {l:List Ae}(h:∀f∈l,f.length≤4000)(i:Int):(Am l i).length≤4000:=by
 unfold Am
 cases hi:l[i.toNat]? with
 | none=>exact AbJ _
 | some f=>exact h f (Abs hi)
theorem P9 {s:Ae}(h:(Ck s).2=0):(Ck s).1.length≤64:=by
 have:=(Ri (s:=s) (l:=(Ck s).1) (by rw[← h])).1;unfold Ze at this;simp only[Abk,Abd] at this;exact this.1
theorem SO {l:List Ae}(h:∀f∈l,f.length≤4000){args:List (List Ab)}(ha:args.length≤64)(hc:∀v∈args,IY 4000 v):V0 4000 (Rx l args):=
 ⟨Nat.le_trans (LU h 0) (by decide),Nat.le_trans (LU h 1) (by decide),Nat.le_trans (LU h 2) (by decide),Nat.le_trans ha (by decide),hc⟩
theorem Px {α:Type}{n:Nat}{x:Option α}(h:n≤1000000000):AY (Dz 24 n) x=x:=BS (Abm (by omega))
theorem SK {F:Nat}(hF:30000≤F){s:Ae}(hs:s.length≤1000000):LF F s=some (SX s):=by
 unfold LF SX;rw[SV (by omega) (by omega),AU rfl]
 by_cases h1:(Ck s).2=0
 ·have hsm:∀f∈(Ck s).1,f.length≤4000:=λf hf=>Md hf h1;have ha:=P9 h1;rw[A8 (by simp[h1]),Ab6 (by simp[h1])]
  by_cases h2:(Ck s).1.length<4
  ·rw[AK (Abm (by omega)),AbB h2];rfl
  ·have e3:=LU hsm 3;rw[A8 (Abi (by omega)),Ab6 h2,Br (by omega) (by omega),IW (by omega)]
   by_cases h3:BR (Am (Ck s).1 3)=0
   ·rw[A8 (by simp[h3]),Ab6 (by simp[h3]),Br (by omega) (by omega),Br (by omega) (by omega),Br (by omega) (by omega),C1 (by omega) (by omega)];have h:=TD (l:=(Ck s).1.drop 4) (R:=A0×Int×Int) (mk:=λi acc=>((i:Int),acc)) (body:=λσ=>E7 F (Ck s) σ.1 σ.2) (bad:=λe=>(V2,0,e)) (K:=100000) (λi h acc hK=>by
     unfold E7;simp only;rw[show(List.drop (Int.toNat 4) (Ck s).1)=(Ck s).1.drop 4 from rfl,AK (Abm (by omega)),Br (by omega) (by omega),GM h,QJ (by omega),M1,AU rfl];rw[AbK] at h
     by_cases hq:(M3 ((Ck s).1.drop 4)[i]).2=0
     ·rw[A8 (by first | exact Abi (λh=>h hq) | rw[hq];rfl),Ab6 (λh=>h hq),Px (by simp;omega),AI (by omega) (by omega)];rfl
     ·rw[AK (by first | exact Abm hq | (rw[Abi hq];rfl)),AbB hq];rfl) (λacc=>by unfold E7;simp only;rw[A8 (Abi (by rw[show(List.drop (Int.toNat 4) (Ck s).1)=(Ck s).1.drop 4 from rfl];omega))]) ((Ck s).1.drop 4).length F 0 [] (by omega) (by rw[AbK];omega) (by rw[AbK];simp;omega)
    have h':Ca (λσ=>E7 F (Ck s) σ.1 σ.2) F (0,([]:List (List Ab)))=_:=h;rw[h',AU rfl,List.drop_zero]
    by_cases h4:(ER ((Ck s).1.drop 4)).2=0
    ·rw[AbB h4,Ab6 (by simp[h4]),Di,AbU];obtain⟨k1,k2⟩:=N1 ((Ck s).1.drop 4);rw[AbK] at k1;unfold HO YG;have hc:Jn F ⟨Am (Ck s).1 0,Am (Ck s).1 1,Am (Ck s).1 2,(ER ((Ck s).1.drop 4)).1⟩=some (Hf (Rx (Ck s).1 (ER ((Ck s).1.drop 4)).1)):=Pg (SO hsm (by omega) k2) (by decide) (by omega) (by show(ER ((Ck s).1.drop 4)).1.length<F;omega);rw[hc,AU rfl]
     by_cases h5:Hf (Rx (Ck s).1 (ER ((Ck s).1.drop 4)).1)=0
     ·rw[A8 (by simp[h5]),Ab6 (by simp[h5])]
      by_cases h6:B7 (Am (Ck s).1 3)<0∨1073741824<B7 (Am (Ck s).1 3)
      ·rw[AK (by simpa using h6),AbB h6];rfl
      ·rw[A8 (by simp only[Ab1,Abc];omega),Ab6 h6];rfl
     ·rw[AK (by simp[h5]),AbB h5];rfl
    ·rw[Ab6 h4,AbB h4];rfl
   ·rw[AK (by simp[h3]),AbB h3];rfl
 ·rw[AK (by simp[h1]),AbB h1];rfl
theorem PK {F:Nat}(hF:30000≤F){s:Ae}(hs:s.length≤1000000):IJ F s=some (SX s):=by
 unfold IJ SX;rw[Rd (by omega) (by omega),AU rfl]
 by_cases h1:(Ck s).2=0
 ·have hsm:∀f∈(Ck s).1,f.length≤4000:=λf hf=>Md hf h1;have ha:=P9 h1;rw[A8 (by simp[h1]),Ab6 (by simp[h1])]
  by_cases h2:(Ck s).1.length<4
  ·rw[AK (Abm (by omega)),AbB h2];rfl
  ·have e3:=LU hsm 3;rw[A8 (Abi (by omega)),Ab6 h2,Br (by omega) (by omega),IW (by omega)]
   by_cases h3:BR (Am (Ck s).1 3)=0
   ·rw[A8 (by simp[h3]),Ab6 (by simp[h3]),Br (by omega) (by omega),Br (by omega) (by omega),Br (by omega) (by omega)];have h:=TD (l:=(Ck s).1.drop 4) (R:=A0×Int×Int) (mk:=λi acc=>((i:Int)+4,acc)) (body:=λσ=>D3 F (Ck s) σ.1 σ.2) (bad:=λe=>(V2,0,e)) (K:=100000) (λi h acc hK=>by
     have hi4:i+4<(Ck s).1.length:=by rw[AbK] at h;omega
     have hget:((Ck s).1.drop 4)[i]=(Ck s).1[i+4]:=by rw[List.getElem_drop];congr 1;omega
     have hat:Am (Ck s).1 ((i:Int)+4)=(Ck s).1[i+4]:=GM (i:=i+4) hi4;unfold D3;simp only;rw[AK (Abm (by omega)),Br (by omega) (by omega),hat,Rb (by omega),M1,AU rfl,hget]
     by_cases hq:(M3 (Ck s).1[i+4]).2=0
     ·rw[A8 (by first | exact Abi (λh=>h hq) | rw[hq];rfl),Ab6 (λh=>h hq),Px (by simp;omega),AI (by omega) (by omega),show((i:Int)+4+1)=((i+1:Nat):Int)+4 from by omega]
     ·rw[AK (by first | exact Abm hq | (rw[Abi hq];rfl)),AbB hq];rfl) (λacc=>by unfold D3;simp only;rw[A8 (Abi (by rw[AbK];omega))]) ((Ck s).1.drop 4).length F 0 [] (by omega) (by rw[AbK];omega) (by rw[AbK];simp;omega)
    have h':Ca (λσ=>D3 F (Ck s) σ.1 σ.2) F (4,([]:List (List Ab)))=_:=h;rw[h',AU rfl,List.drop_zero]
    by_cases h4:(ER ((Ck s).1.drop 4)).2=0
    ·rw[AbB h4,Ab6 (by simp[h4]),Di,AbU];obtain⟨k1,k2⟩:=N1 ((Ck s).1.drop 4);rw[AbK] at k1;unfold Gu YG;have hc:HJ F ⟨Am (Ck s).1 0,Am (Ck s).1 1,Am (Ck s).1 2,(ER ((Ck s).1.drop 4)).1⟩=some (Hf (Rx (Ck s).1 (ER ((Ck s).1.drop 4)).1)):=MO (SO hsm (by omega) k2) (by decide) (by omega) (by show(ER ((Ck s).1.drop 4)).1.length<F;omega);rw[hc,AU rfl]
     by_cases h5:Hf (Rx (Ck s).1 (ER ((Ck s).1.drop 4)).1)=0
     ·by_cases h6:B7 (Am (Ck s).1 3)<0∨1073741824<B7 (Am (Ck s).1 3)
      ·rw[AK (by rw[h5];simpa using h6),Ab6 (by simp[h5]),AbB h6];rfl
      ·rw[A8 (by rw[h5];simp only[decide_true,Abp,Ab1,Abc];omega),A8 (by simp[h5]),Ab6 (by simp[h5]),Ab6 h6];rfl
     ·rw[A8 (by rw[Abi h5,Abw]),AK (by simp[h5]),AbB h5];rfl
    ·rw[Ab6 h4,AbB h4];rfl
   ·rw[AK (by simp[h3]),AbB h3];rfl
 ·rw[AK (by simp[h1]),AbB h1];rfl
theorem Aac:V0 4000 V2:=⟨by decide,by decide,by decide,by decide,λv hv=>by cases hv⟩
theorem ZO (s:Ae):V0 4000 (SX s).1∧(SX s).1.fArgs.length≤64:=by
 have hz:V0 4000 V2∧V2.fArgs.length≤64:=⟨Aac,by decide⟩
 unfold SX
 by_cases h1:(Ck s).2=0
 ·rw[Ab6 (λx=>x h1)];have hsm:∀f∈(Ck s).1,f.length≤4000:=λf hf=>Md hf h1;have ha:=P9 h1
  split
  ·exact hz
  ·split
   ·exact hz
   ·split
    ·exact hz
    ·unfold YG;obtain⟨k1,k2⟩:=N1 ((Ck s).1.drop 4);rw[AbK] at k1
     split
     ·exact hz
     ·split
      ·exact hz
      ·exact⟨SO hsm (by omega) k2,by show(ER ((Ck s).1.drop 4)).1.length≤64;omega⟩
 ·rw[AbB h1];exact hz
theorem X5 {op:A0}(h2:JP op=false):op.fArgs.length<30000:=by
 unfold JP at h2;simp only[Ab1,Abc] at h2;omega
theorem R6 (op:A0)(now:Int)(rec:Ae)(ho:op.fArgs.all (λv=>v.all KS)=true):LK 30000 op now rec=some true:=by
  unfold LK;rw[UX (by omega),R7,Option.isSome_some,BS rfl,Hu]
  by_cases hb:JP op=false∧rec.length≤2000
  · rw[hb.1,A8 (by rw[Abi (by have:=hb.2;omega)];rfl)]
    have hA:=V0.of hb.1 ho;have hal:=X5 hb.1;have hr:=hb.2;obtain⟨hD,hD2⟩:=ZO rec;rw[SJ hA (by decide) (by decide) hal,AU rfl,PI hA (by decide) (by decide) hal,AU rfl,SK (by decide) (by omega),AU rfl,PK (by decide) (by omega),AU rfl,Sw hD (by decide) (by decide) (by omega),Abm rfl,Abm rfl,Abm rfl,Abm rfl,Abm rfl,Hu];rfl
  · rw[AK (by
      cases h2:JP op with
      | true=>rfl
      | false=>rw[Abm (by
                                        have : ¬ rec.length≤2000:=λh=>hb ⟨h2,h⟩;omega)];rfl)]
    rfl
end Go.Proofs.YtogdediiodmnbaaGreatDoor
namespace Go.Proofs.YtogdediiodmnbaaGreatDoor.lawEntityCodes
open Go
set_option linter.unusedVariables false
theorem Yq {op:A0}(h:Wq op=true):op.fArgs.all (λv=>v.all KS)=true:=by
 unfold Wq at h;simp only[Abk] at h;exact List.all_eq_true.2 λv hv=>(Bool.and_eq_true_iff.1 (List.all_eq_true.1 h.2.1 v hv)).1
theorem law:Law:=λop now rec h0 _ _=>⟨30000,R6 op now rec (Yq h0)⟩
end Go.Proofs.YtogdediiodmnbaaGreatDoor.lawEntityCodes
