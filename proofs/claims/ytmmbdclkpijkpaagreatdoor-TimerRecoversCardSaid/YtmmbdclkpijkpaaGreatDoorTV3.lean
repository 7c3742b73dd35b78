/-
  Texts of the proof, put together: PS, PN, PSo, PTa, QU, QT, QN, QM, QI, QW, QV, PH, QJ, QX, QL, WTa, QK, PTb, QP, SoC, SoT, SoL, SoQ, keys29, collect28, QCo, WTb, PTc, WTc, PTd, WTd, PFr, QH, QY.
-/
import Derived.Test.YtmmbdclkpijkpaaGreatDoorTV2
import Derived.Laws.Cover3
import Derived.MapKept
import Derived.Maps.RangeRun
import GoSem.Op.IntBits
import GoSem.Op.Shift
import Derived.ScopeJumps
import Derived.Laws.CopyRow
import Derived.Laws.IdiomCopy
import Derived.Laws.OwnMore
import Derived.Sort.KeysCollected
import Derived.Shelf.SlSortCmp.NoneTotal
import Derived.Test.YtmmbdclkpijkpaaGreatDoorProg
import Derived.Tactics
import Derived.Lib.Small
import Derived.Lib.Walk
import Derived.Sort.Grow
import Derived.Deep.QuietTactic
import Derived.BigQuiet
import Derived.LoopN
import Derived.StillTailTactics
import Derived.Shelf.SlIter.Collect
namespace Go.Proofs.YtmmbdclkpijkpaaGreatDoor
open Go
set_option linter.unusedVariables false
section
variable {T S : Type}
def KJ (lt:T→T→Bool)(x:T):List T→List T
 | []=>[x]
 | y::r=>bif lt y x then y::KJ lt x r else x::y::r
def srt (lt:T→T→Bool):List T→List T
 | []=>[]
 | x::r=>KJ lt x (srt lt r)
theorem ER (lt:T→T→Bool)(x:T):∀xs:List T,(KJ lt x xs).Perm (x::xs)
 | []=>Ys _
 | y::r=>by
  rw[KJ]
  cases lt y x with
  | true=>exact((ER lt x r).cons y).trans (List.Perm.swap _ _ _)
  | false=>exact Ys _
theorem H9 (lt:T→T→Bool):∀xs:List T,(srt lt xs).Perm xs
 | []=>Ys _
 | x::r=>(ER lt x _).trans ((H9 lt r).cons x)
def GK (lt:T→T→Bool):List T→Bool
 | []=>true
 | x::r=>r.all (λy=>lt x y||lt y x)&&GK lt r
structure VL (lt:T→T→Bool):Prop where
 irrefl:∀x,lt x x=false
 ntrans:∀x y z,lt x y=false→lt y z=false→lt x z=false
 asym:∀x y,lt x y=true→lt y x=false
theorem IL {lt:T→T→Bool}:∀{xs:List T},GK lt xs=true→xs.Pairwise λx y=>(lt x y||lt y x)=true
 | [],_=>List.Pairwise.nil
 | x::r,h=>by
  simp only[GK,Yv,YL] at h;exact List.pairwise_cons.2 ⟨λy hy=>h.1 y hy,IL h.2⟩
theorem Ow {R:T→T→Prop}(hs:∀x y,R x y→R y x):∀{xs:List T},xs.Pairwise R→∀a b,a∈xs→b∈xs→a=b∨R a b
 | [],_,a,b,h,_=>by cases h
 | x::r,h,a,b,ha,hb=>by
  rw[List.pairwise_cons] at h;rcases List.mem_cons.1 ha with e | ha1
  ·rcases List.mem_cons.1 hb with e2 | hb1
   ·exact .inl (e.trans e2.symm)
   ·exact .inr (e▸h.1 b hb1)
  ·rcases List.mem_cons.1 hb with e2 | hb1
   ·exact .inr (hs _ _ (e2▸h.1 a ha1))
   ·exact Ow hs h.2 a b ha1 hb1
theorem HA {lt:T→T→Bool}(L:VL lt)(x:T):∀{xs:List T},(xs.Pairwise λx y=>lt y x=false)→(KJ lt x xs).Pairwise λx y=>lt y x=false
 | [],_=>List.pairwise_singleton _ _
 | y::r,h=>by
  rw[List.pairwise_cons] at h;rw[KJ]
  cases hy:lt y x with
  | true=>
   refine List.pairwise_cons.2 ⟨λz hz=>?_,HA L x h.2⟩;rcases List.mem_cons.1 ((ER lt x r).subset hz) with e | h1
   ·rw[e];exact L.asym _ _ hy
   ·exact h.1 z h1
  | false=>
   refine List.pairwise_cons.2 ⟨λz hz=>?_,List.pairwise_cons.2 h⟩;rcases List.mem_cons.1 hz with e | h1
   ·rw[e];exact hy
   ·exact L.ntrans _ _ _ (h.1 z h1) hy
theorem IJ {lt:T→T→Bool}(L:VL lt):∀xs:List T,(srt lt xs).Pairwise λx y=>lt y x=false
 | []=>List.Pairwise.nil
 | x::r=>HA L x (IJ L r)
theorem P3 {lt:T→T→Bool}(L:VL lt){xs ys:List T}(hd:GK lt xs=true)(hp:ys.Perm xs)(hs:ys.Pairwise λx y=>lt y x=false):ys=srt lt xs:=by
 refine List.Perm.eq_of_pairwise (le:=λx y=>lt y x=false) ?_ hs (IJ L xs) (hp.trans (H9 lt xs).symm);intro a b ha hb h2 h3;have hb':b∈xs:=(H9 lt xs).subset hb;rcases Ow (R:=λx y=>(lt x y||lt y x)=true) (λx y h=>by rw[Bool.or_comm];exact h) (IL hd) a b (hp.subset ha) hb' with h | h
 ·exact h
 ·rw[h2,h3] at h;cases h
theorem P5 {lt:T→T→Bool}{xs ys:List T}(hd:GK lt xs=true)(hp:ys.Perm xs):GK lt ys=true:=by
 have h1:=(hp.symm.pairwise_iff (R:=λx y=>(lt x y||lt y x)=true) (fun {x y} h=>by rw[Bool.or_comm];exact h)).1 (IL hd);clear hd hp
 induction ys with
 | nil=>rfl
 | cons x r ih=>
  rw[List.pairwise_cons] at h1;simp only[GK,Yv,YL];exact⟨h1.1,ih h1.2⟩
theorem Rv {lt:T→T→Bool}(L:VL lt){xs ys:List T}(hd:GK lt xs=true)(hp:ys.Perm xs):srt lt ys=srt lt xs:=P3 L hd ((H9 lt ys).trans hp) (IJ L ys)
inductive All2 (R:T→S→Prop):List T→List S→Prop
 | nil:All2 R [] []
 | cons {x y xs ys}:R x y→All2 R xs ys→All2 R (x::xs) (y::ys)
theorem All2.length {R:T→S→Prop}{xs:List T}{ys:List S}(h:All2 R xs ys):xs.length=ys.length:=by
 induction h with
 | nil=>rfl
 | cons _ _ ih=>simp[ih]
theorem All2.perm {R:T→S→Prop}{ys zs:List S}(hp:ys.Perm zs):∀{xs:List T},All2 R xs ys→∃xs',xs'.Perm xs∧All2 R xs' zs:=by
 induction hp with
 | nil=>intro xs h;exact⟨xs,Ys _,h⟩
 | cons a _ ih=>
  intro xs h
  cases h with
  | cons h1 h2=>obtain⟨x',p,h3⟩:=ih h2;exact⟨_,p.cons _,.cons h1 h3⟩
 | swap a b l=>
  intro xs h
  cases h with
  | cons h1 h2=>cases h2 with
   | cons h3 h4=>exact⟨_,List.Perm.swap _ _ _,.cons h3 (.cons h1 h4)⟩
 | trans _ _ ih1 ih2=>
  intro xs h;obtain⟨x1,p1,h1⟩:=ih1 h;obtain⟨x2,p2,h2⟩:=ih2 h1;exact⟨x2,p2.trans p1,h2⟩
theorem All2.pairwise {R:T→S→Prop}{p:T→T→Prop}{q:S→S→Prop}(hpq:∀x x' y y',R x y→R x' y'→q y y'→p x x'){xs:List T}{ys:List S}(h:All2 R xs ys):ys.Pairwise q→xs.Pairwise p:=by
 have key:∀{xs:List T} {ys:List S},All2 R xs ys→∀x∈xs,∃y∈ys,R x y:=fun {xs ys} h=>by
  induction h with
  | nil=>intro x hx;cases hx
  | cons h1 _ ih=>
   intro x hx;rcases List.mem_cons.1 hx with rfl | hx
   ·exact⟨_,List.mem_cons_self ..,h1⟩
   ·obtain⟨y,hy,hr⟩:=ih x hx;exact⟨y,List.mem_cons_of_mem _ hy,hr⟩
 induction h with
 | nil=>intro _;exact List.Pairwise.nil
 | cons h1 h2 ih=>
  intro hq;rw[List.pairwise_cons] at hq ⊢;refine⟨λx' hx'=>?_,ih hq.2⟩;obtain⟨y',hy',hr⟩:=key h2 x' hx';exact hpq _ _ _ _ h1 hr (hq.1 y' hy')
end
set_option linter.unusedSimpArgs false
theorem IK:∀a:Ae,Bv a a=false
 | []=>rfl
 | x::a=>by
  show Op.bytesLess (x::a) (x::a)=false;have h : ¬ x<x:=λh=>absurd h (by simp);have ih:Op.bytesLess a a=false:=IK a;simp[Op.bytesLess,h,ih]
theorem Nr (x y:UInt8)(a b:Ae):Bv (x::a) (y::b)=(decide (x<y)||(decide (x=y)&&Bv a b)):=by
 show Op.bytesLess (x::a) (y::b)=_;simp only[Op.bytesLess]
 by_cases h:x<y
 ·simp[h]
 ·by_cases e:x=y
  ·subst e;simp[h]
  ·have:y<x:=by
    rcases Nat.lt_trichotomy x.toNat y.toNat with h1 | h1 | h1
    ·exact absurd (UInt8.lt_iff_toNat_lt.2 h1) h
    ·exact absurd (UInt8.toNat_inj.1 h1) e
    ·exact UInt8.lt_iff_toNat_lt.2 h1
   simp[h,e,this]
theorem GJ:∀{a b c:Ae},Bv a b=true→Bv b c=true→Bv a c=true
 | [],[],_,h,_=>by cases h
 | [],_::_,[],_,h=>by cases h
 | [],_::_,_::_,_,_=>rfl
 | _::_,[],_,h,_=>by cases h
 | _::_,_::_,[],_,h=>by cases h
 | x::a,y::b,z::c,h,h'=>by
  rw[Nr] at h h' ⊢;simp only[YZ,Yq,Yv] at h h' ⊢;have t:∀{u v:UInt8},u<v↔u.toNat<v.toNat:=UInt8.lt_iff_toNat_lt;rcases h with h | ⟨rfl,h⟩
  ·rcases h' with h' | ⟨rfl,h'⟩
   ·exact .inl (t.2 (Nat.lt_trans (t.1 h) (t.1 h')))
   ·exact .inl h
  ·rcases h' with h' | ⟨rfl,h'⟩
   ·exact .inl h'
   ·exact .inr ⟨rfl,GJ h h'⟩
theorem Jr:∀(a b:Ae),Bv a b=true∨a=b∨Bv b a=true
 | [],[]=>.inr (.inl rfl)
 | [],_::_=>.inl rfl
 | _::_,[]=>.inr (.inr rfl)
 | x::a,y::b=>by
  rw[Nr,Nr];simp only[YZ,Yq,Yv];rcases Nat.lt_trichotomy x.toNat y.toNat with h1 | h1 | h1
  ·exact .inl (.inl (UInt8.lt_iff_toNat_lt.2 h1))
  ·have e:=UInt8.toNat_inj.1 h1;subst e;rcases Jr a b with h | rfl | h
   ·exact .inl (.inr ⟨rfl,h⟩)
   ·exact .inr (.inl rfl)
   ·exact .inr (.inr (.inr ⟨rfl,h⟩))
  ·exact .inr (.inr (.inl (UInt8.lt_iff_toNat_lt.2 h1)))
theorem Ta {a b:Ae}(h:Bv a b=true):Bv b a=false:=by
 cases h':Bv b a with
 | false=>rfl
 | true=>have:=GJ h h';rw[IK] at this;cases this
theorem WZ {a b:Ae}(h:Bv a b=true):a≠b:=λe=>by subst e;rw[IK] at h;cases h
section
variable {T : Type}
def Ms (xs:List (Ae×T)):Prop:=xs.Pairwise λp q=>Bv p.1 q.1=true
theorem Ms.nil:Ms ([]:List (Ae×T)):=List.Pairwise.nil
theorem Ms.nodup {xs:List (Ae×T)}(h:Ms xs):(xs.map (·.1)).Nodup:=by
 rw[List.Nodup,List.pairwise_map];exact h.imp λhpq=>WZ hpq
theorem Hh {xs:List (Ae×T)}{k:Ae}:B8 xs k=none↔∀p∈xs,p.1≠k:=by
 induction xs with
 | nil=>simp[B8]
 | cons p r ih=>
  rw[B8]
  by_cases h:p.1=k
  ·rw[Y0 h];simp[h]
  ·rw[Yx h];simp[h,ih]
theorem E7 {xs:List (Ae×T)}{k:Ae}{v:T}(h:B8 xs k=some v):(k,v)∈xs:=by
 induction xs with
 | nil=>cases h
 | cons p r ih=>
  rw[B8] at h
  by_cases e:p.1=k
  ·rw[Y0 e] at h;cases h;subst e;exact List.mem_cons_self ..
  ·rw[Yx e] at h;exact List.mem_cons_of_mem _ (ih h)
theorem HE {xs:List (Ae×T)}{k:Ae}{v:T}(hn:(xs.map (·.1)).Nodup)(h:(k,v)∈xs):B8 xs k=some v:=by
 induction xs with
 | nil=>cases h
 | cons p r ih=>
  rw[YV,List.nodup_cons] at hn;rw[B8];rcases List.mem_cons.1 h with h | h
  ·subst h;rw[Y0 rfl];rfl
  ·have hne : ¬ p.1=k:=λe=>hn.1 (by rw[e];exact List.mem_map.2 ⟨(k,v),h,rfl⟩);rw[Yx hne];exact ih hn.2 h
theorem RL (xs:List (Ae×T))(k k':Ae)(v:T):B8 (mput xs k v) k'=bif decide (k'=k) then(B8 xs k).map (λ_=>v) else B8 xs k':=by
 induction xs with
 | nil=>cases decide (k'=k)<;>rfl
 | cons p r ih=>
  show B8 ((bif decide (p.1=k) then(k,v) else p)::mput r k v) k'=_
  by_cases h:p.1=k
  ·rw[Y0 h];simp only[Yw,B8]
   by_cases e:k'=k
   ·subst e;rw[Y0 rfl,h,Y0 rfl];rfl
   ·rw[Yx (Ne.symm e),Yx e,ih,Yx e,h,Yx (Ne.symm e)];rfl
  ·rw[Yx h];simp only[Yt,B8];rw[ih]
   by_cases e:k'=k
   ·subst e;rw[Y0 rfl,Yx h];rfl
   ·rw[Yx e]
    cases decide (p.1=k')<;>rfl
theorem RM (xs:List (Ae×T))(k k':Ae)(v:T)(h:B8 xs k=none):B8 (mins k v xs) k'=bif decide (k'=k) then some v else B8 xs k':=by
 induction xs with
 | nil=>
  show(bif decide (k=k') then some v else none)=bif decide (k'=k) then some v else none
  by_cases e:k'=k
  ·rw[Y0 e,Y0 e.symm]
  ·rw[Yx e,Yx (Ne.symm e)]
 | cons p r ih=>
  rw[B8] at h
  by_cases hk:p.1=k
  ·rw[Y0 hk] at h;cases h
  ·rw[Yx hk] at h;rw[mins]
   cases Bv k p.1 with
   | true=>
    simp only[Yw,B8]
    by_cases e:k'=k
    ·subst e;rw[Y0 rfl]
     try rfl
    ·rw[Yx e,Yx (Ne.symm e)]
     try rfl
   | false=>
    simp only[Yt,B8];rw[ih h]
    by_cases e:k'=k
    ·subst e;rw[Y0 rfl,Yx hk];rfl
    ·rw[Yx e]
     cases decide (p.1=k')<;>rfl
theorem RK (xs:List (Ae×T))(k k':Ae)(v:T):B8 (mset xs k v) k'=bif decide (k'=k) then some v else B8 xs k':=by
 unfold mset E3
 cases h:B8 xs k with
 | none=>exact RM xs k k' v h
 | some w=>
  simp only[Option.isSome_some,Yw];rw[RL,h]
  cases decide (k'=k)<;>rfl
theorem OB {k:Ae}{v:T}{q:Ae×T}:∀{xs:List (Ae×T)},q∈mins k v xs→q=(k,v)∨q∈xs
 | [],h=>by simp[mins] at h;exact .inl h
 | p::r,h=>by
  rw[mins] at h
  cases hs:Bv k p.1 with
  | true=>rw[hs] at h;simpa using h
  | false=>
   rw[hs] at h;rcases List.mem_cons.1 h with h | h
   ·exact .inr (by rw[h];exact List.mem_cons_self ..)
   ·rcases OB h with h | h
    ·exact .inl h
    ·exact .inr (List.mem_cons_of_mem _ h)
theorem Ms.mins {k:Ae}{v:T}:∀{xs:List (Ae×T)},Ms xs→B8 xs k=none→Ms (mins k v xs)
 | [],_,_=>List.pairwise_singleton ..
 | p::r,h,hk=>by
  obtain⟨h1,h2⟩:=List.pairwise_cons.1 h;rw[B8] at hk
  by_cases e:p.1=k
  ·rw[Y0 e] at hk;cases hk
  ·rw[Yx e] at hk;rw[Proofs.YtmmbdclkpijkpaaGreatDoor.mins]
   cases hs:Bv k p.1 with
   | true=>exact List.pairwise_cons.2 ⟨λq hq=>by
     rcases List.mem_cons.1 hq with rfl | hq
     ·exact hs
     ·exact GJ hs (h1 q hq),h⟩
   | false=>
    have hp:Bv p.1 k=true:=by
     rcases Jr p.1 k with h | h | h
     ·exact h
     ·exact absurd h e
     ·rw[h] at hs;cases hs
    exact List.pairwise_cons.2 ⟨λq hq=>by
     rcases OB hq with rfl | hq
     ·exact hp
     ·exact h1 q hq,Ms.mins h2 hk⟩
theorem Ms.mput {xs:List (Ae×T)}(h:Ms xs)(k:Ae)(v:T):Ms (mput xs k v):=by
 unfold Proofs.YtmmbdclkpijkpaaGreatDoor.mput;unfold Ms;rw[List.pairwise_map];refine h.imp fun {p q} hpq=>?_;have e:∀p:Ae×T,(bif decide (p.1=k) then(k,v) else p).1=p.1:=λp=>by
  by_cases hp:p.1=k
  ·rw[Y0 hp];exact hp.symm
  ·rw[Yx hp];rfl
 rw[e,e];exact hpq
theorem Ms.mset {xs:List (Ae×T)}(h:Ms xs)(k:Ae)(v:T):Ms (mset xs k v):=by
 unfold Proofs.YtmmbdclkpijkpaaGreatDoor.mset E3
 cases hk:B8 xs k with
 | none=>exact h.mins hk
 | some w=>exact h.mput k v
theorem Ms.mdel {xs:List (Ae×T)}(h:Ms xs)(k:Ae):Ms (mdel xs k):=h.sublist (List.filter_sublist ..)
theorem Ms.ext:∀{xs ys:List (Ae×T)},Ms xs→Ms ys→(∀k,B8 xs k=B8 ys k)→xs=ys
 | [],[],_,_,_=>rfl
 | [],q::s,_,_,h=>by
  have:=h q.1;rw[B8,B8,Y0 rfl] at this;cases this
 | p::r,[],_,_,h=>by
  have:=h p.1;rw[B8,B8,Y0 rfl] at this;cases this
 | p::r,q::s,hx,hy,h=>by
  obtain⟨x1,x2⟩:=List.pairwise_cons.1 hx;obtain⟨y1,y2⟩:=List.pairwise_cons.1 hy;have hpq:p.1=q.1:=by
   have a1:=h p.1;have a2:=h q.1;rw[B8,Y0 rfl] at a1;rw[show B8 (q::s) q.1=bif decide (q.1=q.1) then some q.2 else B8 s q.1 from rfl,Y0 rfl] at a2;simp only[Yw] at a1 a2;have m1:=E7 a1.symm;have m2:=E7 a2;rcases List.mem_cons.1 m1 with e | m1
   ·exact congrArg Prod.fst e
   ·rcases List.mem_cons.1 m2 with e | m2
    ·exact(congrArg Prod.fst e).symm
    ·have c1:=y1 _ m1;have c2:=x1 _ m2;have:=GJ c1 c2;rw[IK] at this;cases this
  have e:p=q:=by
   have a1:=h p.1;rw[B8,Y0 rfl,B8,Y0 hpq.symm] at a1;simp only[Yw,Option.some.injEq] at a1;exact Prod.ext hpq a1
  subst e;rw[Ms.ext x2 y2 λk=>by
   have a1:=h k;rw[B8,B8] at a1
   by_cases e:p.1=k
   ·have n1:B8 r k=none:=Hh.2 λz hz e'=>by have:=x1 z hz;rw[e',← e,IK] at this;cases this
    have n2:B8 s k=none:=Hh.2 λz hz e'=>by have:=y1 z hz;rw[e',← e,IK] at this;cases this
    rw[n1,n2]
   ·rw[Yx e] at a1;exact a1]
end
def Dc (n1 n2:Int)(s1 s2:Ae):Bool:=decide (n1<n2)||(decide (n1=n2)&&Bv s1 s2)
theorem MS {n1 n2:Int}{s1 s2:Ae}:Dc n1 n2 s1 s2=true↔n1<n2∨(n1=n2∧Bv s1 s2=true):=by
 unfold Dc;simp
theorem Le {n1 n2:Int}{s1 s2:Ae}:Dc n1 n2 s1 s2=false↔¬ n1<n2∧(n1=n2→Bv s1 s2=false):=by
 unfold Dc;simp
theorem MR (n:Int)(s:Ae):Dc n n s s=false:=Le.2 ⟨Int.lt_irrefl n,λ_=>IK s⟩
theorem Rw {a b c:Ae}(h1:Bv a b=false)(h2:Bv b c=false):Bv a c=false:=by
 cases h:Bv a c with
 | false=>rfl
 | true=>
  rcases Jr a b with h3 | h3 | h3
  ·rw[h3] at h1;cases h1
  ·subst h3;rw[h] at h2;cases h2
  ·have:=GJ h3 h;rw[this] at h2;cases h2
theorem JC {n1 n2 n3:Int}{s1 s2 s3:Ae}(h1:Dc n1 n2 s1 s2=false)(h2:Dc n2 n3 s2 s3=false):Dc n1 n3 s1 s3=false:=by
 rw[Le] at *;refine⟨by omega,λe=>?_⟩;have e1:n1=n2:=by omega
 have e2:n2=n3:=by omega
 exact Rw (h1.2 e1) (h2.2 e2)
theorem OF {n1 n2 n3:Int}{s1 s2 s3:Ae}(h1:Dc n1 n2 s1 s2=true)(h2:Dc n2 n3 s2 s3=true):Dc n1 n3 s1 s3=true:=by
 rw[MS] at *;rcases h1 with h1 | ⟨e1,h1⟩
 ·rcases h2 with h2 | ⟨e2,h2⟩
  ·exact .inl (by omega)
  ·exact .inl (by omega)
 ·rcases h2 with h2 | ⟨e2,h2⟩
  ·exact .inl (by omega)
  ·exact .inr ⟨by omega,GJ h1 h2⟩
theorem PJ {n1 n2:Int}{s1 s2:Ae}(h:Dc n1 n2 s1 s2=true):Dc n2 n1 s2 s1=false:=by
 rw[MS] at h;rw[Le];rcases h with h | ⟨e,h⟩
 ·exact⟨by omega,λe=>by omega⟩
 ·exact⟨by omega,λ_=>Ta h⟩
theorem OG {n1 n2:Int}{s1 s2:Ae}(h1:Dc n1 n2 s1 s2=false)(h2:Dc n2 n1 s2 s1=false):n1=n2∧s1=s2:=by
 rw[Le] at *;have e:n1=n2:=by omega
 refine⟨e,?_⟩;rcases Jr s1 s2 with h | h | h
 ·rw[h1.2 e] at h;cases h
 ·exact h
 ·rw[h2.2 e.symm] at h;cases h
theorem PH {T:Type}(n:T→Int)(s:T→Ae):VL λx y=>Dc (n x) (n y) (s x) (s y):=⟨λx=>MR _ _,λx y z h1 h2=>JC h1 h2,λx y h=>PJ h⟩
structure Ad where
 fID:Ae
 fAt:Int
 fTenant:Ae
 fSource:Ae
 fBody:(List Aa)
 deriving DecidableEq,Inhabited
def LZ (ys:(List Aa)):Option ((List Aa)):=
 Bc (Ea 40 (([]:List Aa).length+ys.length))<|some (([]:List Aa)++ys)
def H6 (n:Int):Option (Bool):=
 some ((decide (0≤n))&&(decide (n≤1073741824)))
def H7 (F:Nat)(t:Ad):Option (Int):=
 Bw (!(QK t.fID)) (some 4) (B0 (H6 t.fAt) λr5=>Bw (!r5) (some 2) (Bw (((!(CS t.fTenant))||(!(CS t.fSource)))) (some 4) (B0 (II F t.fBody) λha=>some ha)))
def Rs (t:Ad):Option (Ad):=
 B0 (LZ t.fBody) λr3=>some (Ad.mk t.fID t.fAt t.fTenant t.fSource r3)
end Go.Proofs.YtmmbdclkpijkpaaGreatDoor
namespace Go.Proofs.YtmmbdclkpijkpaaGreatDoor.Q
open Go Go.RowKit
set_option linter.unusedVariables false
set_option linter.unusedSimpArgs false
def NH (ops:List Oper)(N:Nat):Bool:=
 let cl:=Ma ops []
 (List.range ops.length).all (λi=>(Eg (ops.getD i default)).all (·<i))&&
 (List.range ops.length).all (λi=>i<N||(List.range i).all (λj=>(cl.getD i 0).testBit j))
section
variable {P : Program} {Q : Exit → Act → World → Prop}
theorem OY {listed:Array Bool}{len m:Nat}(hs:listed.size=len)(hm:m≤len)(h:∀j,j<len→(listed.getD j true=true↔j<m)):listed.toList.count false=len-m:=by
 have:listed.toList=List.replicate m true++List.replicate (len-m) false:=by
  apply List.ext_getElem
  ·simp[hs];omega
  ·intro j h1 h2;have hj:j<len:=by simpa[hs] using h1
   have:=h j hj;rw[Array.getD_eq_getD_getElem?,Array.getElem?_eq_getElem (by omega)] at this;simp only[YS] at this;rw[Array.getElem_toList,List.getElem_append]
   split
   ·rename_i h3
    simp at h3;simp[this.2 h3]
   ·rename_i h3
    simp at h3;simp only[List.getElem_replicate]
    cases hb:listed[j] with
    | false=>rfl
    | true=>have:=this.1 hb;omega
 rw[this];simp[List.count_append,List.count_replicate]
theorem QM {listed:Array Bool}{j:Nat}(h:j<listed.size)(d d':Bool):listed.getD j d=listed.getD j d':=by
 simp[Array.getD_eq_getD_getElem?,Array.getElem?_eq_getElem h]
theorem Md {ops:List Oper}{listed:Array Bool}{i:Nat}{o:Oper}(ho:ops[i]? =some o)(hb:∀e∈Eg o,listed.getD e true=true)
  (hcl:∀j o,ops[j]? =some o→listed.getD j true=true→∀e∈Eg o,listed.getD e true=true) (j:Nat) (h:((Ma ops []).getD i 0).testBit j=true):j=i∨listed.getD j true=true:=
 GV ops (λk=>k=i∨listed.getD k true=true) ops [] (λt o' ht e he hF=>by
  rcases hF with hF | hF
  ·simp at hF;subst hF;rw[ho] at ht;simp at ht;subst ht;exact .inr (hb e he)
  ·exact .inr (hcl t o' ht (by simpa using hF) e he)) (λj i hb=>by simp at hb) i j h (.inl rfl)
theorem IN {ops:List Oper}{listed:Array Bool}{i:Nat}(hsz:listed.size=ops.length)(hlt:∀i,i<ops.length→∀e∈Eg (ops.getD i default),e<i)(h:i∈Region.ready .any ops.toArray listed) :
  listed.getD i true=false∧i<ops.length∧∃o,ops[i]? =some o∧∀e∈Eg o,listed.getD e true=true:=by
 obtain⟨h1,o,ho,h2⟩:=mem_ready.1 h;have ho':ops[i]? =some o:=by simpa using ho
 have hil:=(List.getElem?_eq_some_iff.1 ho').1;refine⟨h1,hil,o,ho',λe he=>?_⟩;have hei:=hlt i hil e (by rw[Y2,ho'];exact he);simp only[Eg,List.mem_map,List.mem_filter] at he;obtain⟨x,⟨hx1,hx2⟩,rfl⟩:=he;have h3:=h2 x (by simpa using hx1) hx2;rw[QM (by omega) true false];exact h3
theorem IB {ops:List Oper}{listed:Array Bool}(hsz:listed.size=ops.length)(hlt:∀i,i<ops.length→∀e∈Eg (ops.getD i default),e<i)(h:Region.ready .any ops.toArray listed=[]) :
  ∀j,j<ops.length→listed.getD j true=true:=by
 intro j
 induction j using Nat.strongRecOn with
 | ind j ih=>
  intro hj
  cases hb:listed.getD j true with
  | true=>rfl
  | false=>
   have:j∈Region.ready .any ops.toArray listed:=mem_ready.2 ⟨hb,ops[j],by simp[hj],λe he hbn=>by
    have hel:e.on<j:=hlt j hj e.on (by
     rw[Y2,Y1 hj];simp only[Eg,YS,List.mem_map,List.mem_filter];exact⟨e,⟨by simpa using he,hbn⟩,rfl⟩)
    rw[QM (by omega) false true];exact ih e.on hel (by omega)⟩
   rw[h] at this;cases this
theorem KV {listed:Array Bool}{i j:Nat}(hi:i<listed.size):(listed.setIfInBounds i true).getD j true=true↔(j=i∨listed.getD j true=true):=by
 by_cases hj:i=j
 ·subst hj;simp[hi]
 ·rw[getD_set_ne true hj];exact⟨.inr,λh=>h.elim (λh=>absurd h.symm hj) id⟩
theorem Ry {listed:Array Bool}{i fuel:Nat}(hi:i<listed.size)(hun:listed.getD i true=false)(hc:listed.toList.count false=fuel+1):(listed.setIfInBounds i true).toList.count false=fuel:=by
 have hfi:listed.toList[i]? =some false:=by
  rw[Array.getD_eq_getD_getElem?,Array.getElem?_eq_getElem hi] at hun;simp at hun;simp[hi,hun]
 rw[Array.toList_setIfInBounds];have h1:=List.count_set (a:=true) (b:=false) (l:=listed.toList) (i:=i) (by simpa using hi);have h2:listed.toList[i]'(by simpa using hi)=false:=by
  have:=List.getElem?_eq_some_iff.1 hfi;exact this.2
 rw[h1,h2,hc];rfl
theorem Kw {ops:List Oper}{N:Nat}(hlt:∀i,i<ops.length→∀e∈Eg (ops.getD i default),e<i)
  (hch:∀i,N≤i→i<ops.length→∀j,j<i→((Ma ops []).getD i 0).testBit j=true):∀(k m:Nat) (listed:Array Bool) (a:Act) (w:World),m+k=ops.length→N≤m→listed.size=ops.length→
   (∀j,j<ops.length→(listed.getD j true=true↔j<m))→(∀j o,ops[j]? =some o→listed.getD j true=true→∀e∈Eg o,listed.getD e true=true)→wpList P ops.toArray Q (ops.drop m) a w→wpAny P .any ops.toArray Q k listed a w
 | 0,m,listed,a,w,hk,hN,hsz,hl,hcl,h=>by
  refine⟨?_,?_⟩
  ·cases hr:Region.ready .any ops.toArray listed with
   | nil=>rfl
   | cons i r=>
    obtain⟨h1,h2,_⟩:=IN hsz hlt (i:=i) (by rw[hr];simp);rw[(hl i h2).2 (by omega)] at h1;cases h1
  ·rw[List.drop_of_length_le (by omega)] at h;exact h
 | k+1,m,listed,a,w,hk,hN,hsz,hl,hcl,h=>by
  refine⟨λhr=>?_,λi hi=>?_⟩
  ·have:=(hl m (by omega)).1 (IB hsz hlt hr m (by omega));omega
  ·obtain⟨h1,h2,o,ho,hb⟩:=IN hsz hlt hi;have him:i=m:=by
    have hmi : ¬ i<m:=λh'=>by rw[(hl i h2).2 h'] at h1;cases h1
    by_cases e:i=m
    ·exact e
    ·rcases Md ho hb hcl m (hch i (by omega) h2 m (by omega)) with h3 | h3
     ·exact h3.symm
     ·have:=(hl m (by omega)).1 h3;omega
   subst him;have hd:ops.drop i=o::ops.drop (i+1):=by
    rw[List.drop_eq_getElem_cons h2]
    congr 1
    exact(List.getElem?_eq_some_iff.1 ho).2
   rw[hd] at h;have ih:∀a' w',wpList P ops.toArray Q (ops.drop (i+1)) a' w'→wpAny P .any ops.toArray Q k (listed.setIfInBounds i true) a' w':=λa' w' h'=>by
    refine Kw hlt hch k (i+1) _ a' w' (by omega) (by omega) (by simpa using hsz) (λj hj=>?_) (λj o' hj hlj e he=>?_) h'
    ·rw[KV (by omega),hl j hj];omega
    ·rw[KV (by omega)] at hlj ⊢;rcases hlj with rfl | hlj
     ·rw[ho] at hj;simp at hj;subst hj;exact .inr (hb e he)
     ·exact .inr (hcl j o' hj hlj e he)
   unfold wpOp;have hoA:ops.toArray[i]? =some o:=by simpa using ho
   simp only[hoA];simp only[wpList] at h
   split
   ·rename_i hw'
    rw[Zd hw'] at h;exact h.imp (λh=>Oper.wp_mono ih h) (λh=>h)
   ·rename_i hw'
    rw[YW hw'] at h;exact ih _ _ h
theorem SG {id:Nat}{ops:List Oper}{N:Nat}(hm:P.follows .mixedOrders=true)(hB:NH ops N=true)(hN:N≤ops.length)(I:(Nat→Bool)→Act→World→Prop)
  (hext:∀S S' a w,(∀j,j<N→S j=S' j)→I S a w→I S' a w) {a:Act} {w:World} (h0:I (λ_=>false) a { w with drawn:=w.drawn+1 })
  (step:∀S i o a w,i<N→S i=false→ops[i]? =some o→(∀e∈Eg o,e<i∧S e=true)→I S a w→∀K:Act→World→Prop,(∀a' w',I (λj=>j ==i||S j) a' w'→K a' w')→
   (Region.wanted o (yielded ops.toArray a.tmps)=true→o.wp P a w K Q)∧(Region.wanted o (yielded ops.toArray a.tmps)=false→K (a.put o.dst undef) w))
  (fin:∀a w,I (λ_=>true) a w→wpList P ops.toArray Q (ops.drop N) a w):(Code.region id ops.toArray true).wp P Q a w:=by
 simp only[NH,Yv,YL,List.mem_range,Yq,YZ] at hB;obtain⟨hlt,hch0⟩:=hB;have hch:∀i,N≤i→i<ops.length→∀j,j<i→((Ma ops []).getD i 0).testBit j=true:=λi h1 h2 j hj=>by
  rcases hch0 i h2 with h3 | h3
  ·omega
  ·exact h3 j hj
 refine wp_region_any hm ?_;have main:∀(fuel:Nat) (listed:Array Bool) (a:Act) (w:World),listed.size=ops.length→listed.toList.count false=fuel→I (λj=>listed.getD j true) a w→
   (∀j o,ops[j]? =some o→listed.getD j true=true→∀e∈Eg o,listed.getD e true=true)→(∀j,N≤j→j<ops.length→listed.getD j true=false)→wpAny P .any ops.toArray Q fuel listed a w:=by
  intro fuel;have allin:∀(fuel:Nat) (listed:Array Bool) (a:Act) (w:World),listed.size=ops.length→listed.toList.count false=fuel→I (λj=>listed.getD j true) a w→
   (∀j o,ops[j]? =some o→listed.getD j true=true→∀e∈Eg o,listed.getD e true=true)→(∀j,N≤j→j<ops.length→listed.getD j true=false)→(∀j,j<N→listed.getD j true=true)→wpAny P .any ops.toArray Q fuel listed a w:=by
   intro fuel listed a w hsz hc hI hcl hlast hall;have hl:∀j,j<ops.length→(listed.getD j true=true↔j<N):=λj hj=>by
    constructor
    ·intro h
     by_cases hjN:j<N
     ·exact hjN
     ·rw[hlast j (by omega) hj] at h;cases h
    ·exact hall j
   have:=OY hsz hN hl;refine Kw hlt hch fuel N listed a w (by omega) (Y8 _) hsz hl hcl (fin a w (hext _ _ a w (λj hj=>hall j hj) hI))
  induction fuel with
  | zero=>
   intro listed a w hsz hc hI hcl hlast;refine allin 0 listed a w hsz hc hI hcl hlast (λj hj=>?_)
   cases hb:listed.getD j true with
   | true=>rfl
   | false=>
    have:false∈listed.toList:=by
     rw[Array.getD_eq_getD_getElem?,Array.getElem?_eq_getElem (by omega)] at hb;simp at hb;rw[← hb];simp
    have:=List.count_pos_iff.2 this;omega
  | succ fuel ih=>
   intro listed a w hsz hc hI hcl hlast
   by_cases hall:∀j,j<N→listed.getD j true=true
   ·exact allin (fuel+1) listed a w hsz hc hI hcl hlast hall
   ·refine⟨λhr=>absurd (λj hj=>IB hsz hlt hr j (by omega)) hall,λi hi=>?_⟩;obtain⟨h1,h2,o,ho,hb⟩:=IN hsz hlt hi;have hiN:i<N:=by
     by_cases h:i<N
     ·exact h
     ·refine absurd (λj hj=>?_) hall;rcases Md ho hb hcl j (hch i (by omega) h2 j (by omega)) with h3 | h3
      ·omega
      ·exact h3
    have K':∀a' w',I (λj=>j ==i||listed.getD j true) a' w'→wpAny P .any ops.toArray Q fuel (listed.setIfInBounds i true) a' w':=λa' w' hI'=>by
     refine ih _ a' w' (by simpa using hsz) (Ry (by omega) h1 hc) (hext _ _ a' w' (λj hj=>?_) hI') (λj o' hj hlj e he=>?_) (λj h3 h4=>?_)
     ·have:=KV (listed:=listed) (i:=i) (j:=j) (by omega)
      cases hq:(listed.setIfInBounds i true).getD j true with
      | true=>
       rw[hq] at this;rcases this.1 rfl with h | h
       ·simp[h]
       ·simp[h]
      | false=>
       rw[hq] at this;have h5 : ¬ (j=i∨listed.getD j true=true):=λh=>by have:=this.2 h;cases this
       cases hz:listed.getD j true with
       | true=>exact absurd (.inr hz) h5
       | false=>
        have:j≠i:=λh=>h5 (.inl h);simp[this]
     ·rw[KV (by omega)] at hlj ⊢;rcases hlj with rfl | hlj
      ·rw[ho] at hj;simp at hj;subst hj;exact .inr (hb e he)
      ·exact .inr (hcl j o' hj hlj e he)
     ·rw[getD_set_ne true (by omega)];exact hlast j h3 h4
    obtain⟨k1,k2⟩:=step _ i o a w hiN h1 ho (λe he=>⟨hlt i h2 e (by rw[Y2,ho];exact he),hb e he⟩) hI _ K';unfold wpOp;have hoA:ops.toArray[i]? =some o:=by simpa using ho
    simp only[hoA]
    split
    ·rename_i hw';exact .inl (k1 hw')
    ·rename_i hw';exact k2 (by simpa using hw')
 have e0:∀j,j<ops.length→(Array.replicate ops.length false).getD j true=false:=λj hj=>by simp[hj]
 have hsz0:ops.toArray.size=ops.length:=by simp
 rw[hsz0];refine main ops.length (Array.replicate ops.length false) a _ (by simp) (by simp) (hext _ _ _ _ (λj hj=>(e0 j (by omega)).symm) h0) (λj o hj hl=>?_) (λj _ h2=>e0 j h2);rw[e0 j (List.getElem?_eq_some_iff.1 hj).1] at hl;cases hl
end
structure Sa where
 deps:List Nat
 r:Rp
 al:Option (List Rp×TypeId):=none
 late:Option (Nat×List Rp):=none
 sto:Option Nat:=none
def E6 (sp:List Sa)(i:Nat):Sa:=sp.getD i { deps:=[],r:=rv undef }
def U9 (sp:List Sa):List Sp:=sp.map λs=>⟨s.deps,s.r,0⟩
def JW (β:Nat→Nat)(s:Sa)(i:Nat):Rp:=match s.al with
 | none=>s.r
 | some _=>rv (.pointer (some ⟨β i,0,none⟩))
def Kl (S:Nat→Bool)(late:Option (Nat×List Rp))(cs:List Rp):List Rp:=match late with
 | none=>cs
 | some q=>if S q.1 then q.2 else cs
def EO (S:Nat→Bool)(β:Nat→Nat):List Sa→Nat→List Ent
 | [],_=>[]
 | s::r,t=>match s.al with
  | some p=>if S t then .blk (β t) (Kl S s.late p.1) p.2::EO S β r (t+1) else EO S β r (t+1)
  | none=>EO S β r (t+1)
def Sd (β:Nat→Nat):List Sa→Nat→List Ent
 | [],_=>[]
 | s::r,t=>match s.al with
  | some p=>.blk (β t) (match s.late with | none=>p.1 | some q=>q.2) p.2::Sd β r (t+1)
  | none=>Sd β r (t+1)
def KF (β:Nat→Nat):List Oper→List Sa→Nat→Fr→Fr
 | o::os,s::sp,i,l=>match o.dst with
  | some d=>(d,JW β s i)::KF β os sp (i+1) l
  | none=>KF β os sp (i+1) l
 | _,_,_,l=>l
theorem IY {S S':Nat→Bool}{late:Option (Nat×List Rp)}{cs:List Rp}(h:∀q,late=some q→S q.1=S' q.1):Kl S late cs=Kl S' late cs:=by
 unfold Kl
 cases late with
 | none=>rfl
 | some q=>simp only[];rw[h q rfl]
theorem Ed (S:Nat→Bool)(β:Nat→Nat)(s:Sa)(r:List Sa)(t:Nat):EO S β (s::r) t=match s.al with
  | some p=>if S t then .blk (β t) (Kl S s.late p.1) p.2::EO S β r (t+1) else EO S β r (t+1)
  | none=>EO S β r (t+1):=rfl
theorem Gm {S S':Nat→Bool}{β β':Nat→Nat}:∀(r:List Sa) (t0:Nat),(∀(t:Nat) (s:Sa),r[t]? =some s→s.al≠none→S (t0+t)=S' (t0+t)∧(S (t0+t)=true→β (t0+t)=β' (t0+t)∧∀q,s.late=some q→S q.1=S' q.1))→EO S β r t0=EO S' β' r t0
 | [],_,_=>rfl
 | s::r,t0,h=>by
  have ih:=Gm r (t0+1) (λt s hs hn=>by
   have:=h (t+1) s (by simpa using hs) hn;rw[show t0+1+t=t0+(t+1) from by omega];exact this)
  unfold EO;rw[ih]
  cases ha:s.al with
  | none=>rfl
  | some p=>
   obtain⟨h1,h2⟩:=h 0 s rfl (by rw[ha];exact nofun);simp only[Nat.add_zero] at h1 h2;simp only[];rw[← h1]
   split
   ·rename_i hS;rw[(h2 hS).1,IY (h2 hS).2]
   ·rfl
theorem OV (β:Nat→Nat):∀(r:List Sa) (t0:Nat),EO (λ_=>true) β r t0=Sd β r t0
 | [],_=>rfl
 | s::r,t0=>by
  unfold EO Sd;rw[OV β r (t0+1)]
  cases s.al with
  | none=>rfl
  | some p=>cases hl:s.late<;>simp[Kl,hl]
theorem Nb (β:Nat→Nat):∀(r:List Sa) (t0:Nat),EO (λ_=>false) β r t0=[]
 | [],_=>rfl
 | s::r,t0=>by
  unfold EO;rw[Nb β r (t0+1)]
  cases s.al<;>simp
theorem OU {S:Nat→Bool}{β:Nat→Nat}{i b:Nat}{p:List Rp×TypeId}:∀(r:List Sa) (t0 k:Nat) (s:Sa),i=t0+k→r[k]? =some s→s.al=some p→S i=false→(∀(t:Nat) (s:Sa) (q:Nat×List Rp),r[t]? =some s→s.al≠none→s.late=some q→q.1≠i)→(∀q,s.late=some q→S q.1=false∧q.1≠i)→
  (EO (λj=>j ==i||S j) (λj=>if j=i then b else β j) r t0).Perm (.blk b p.1 p.2::EO S β r t0)
 | [],_,_,_,_,h,_,_,_,_=>by simp at h
 | s'::r,t0,0,s,hi,h,ha,hS,hne,hl=>by
  simp at h hi;subst h;subst hi;have e:=Gm (S:=λj=>j ==i||S j) (S':=S) (β:=λj=>if j=i then b else β j) (β':=β) r (i+1) (λt s hs hn=>by
   have:i+1+t≠i:=by omega
   refine⟨by simp[this],λ_=>⟨by simp[this],λq hq=>?_⟩⟩;have:=hne (t+1) s q (by simpa using hs) hn hq;simp[this])
  have ec:Kl (λj=>j ==i||S j) s'.late p.1=p.1:=by
   unfold Kl
   cases hq:s'.late with
   | none=>rfl
   | some q=>
    obtain⟨h1,h2⟩:=hl q hq;simp[h1,h2]
  unfold EO;rw[e,ha];simp only[hS,BEq.rfl,YK,Zk,ec];simp
 | s'::r,t0,k+1,s,hi,h,ha,hS,hne,hl=>by
  have ih:=OU (S:=S) (β:=β) (i:=i) (b:=b) (p:=p) r (t0+1) k s (by omega) (by simpa using h) ha hS (λt s q hs=>hne (t+1) s q (by simpa using hs)) hl;have hne0:t0≠i:=by omega
  have hne':(t0 ==i)=false:=by simpa using hne0
  unfold EO
  cases ha':s'.al with
  | none=>exact ih
  | some q=>
   simp only[hne',Y7,YW hne0];rw[IY (S:=λj=>j ==i||S j) (S':=S) (λq hq=>by
    have:=hne 0 s' q rfl (by rw[ha'];exact nofun) hq;simp[this])]
   cases hS':S t0 with
   | true=>simpa using(Yy _ ih).trans (List.Perm.swap _ _ _)
   | false=>simpa using ih
theorem OT {S:Nat→Bool}{β:Nat→Nat}{i j:Nat}{p:List Rp×TypeId}{ncs:List Rp}:∀(r:List Sa) (t0 k:Nat) (s:Sa),j=t0+k→r[k]? =some s→s.al=some p→s.late=some (i,ncs)→S j=true→S i=false→(∀(t:Nat) (s:Sa) (q:Nat×List Rp),r[t]? =some s→s.al≠none→s.late=some q→t0+t≠j→q.1≠i)→(∀(t:Nat) (s:Sa),r[t]? =some s→s.al≠none→t0+t≠i)→
  ∃H',(EO S β r t0).Perm (.blk (β j) p.1 p.2::H')∧(EO (λj=>j ==i||S j) β r t0).Perm (.blk (β j) ncs p.2::H')
 | [],_,_,_,_,h,_,_,_,_,_,_=>by simp at h
 | s'::r,t0,0,s,hj,h,ha,hl,hSj,hSi,hne,hni=>by
  simp at h hj;subst h;subst hj;have e:=Gm (S:=λx=>x ==i||S x) (S':=S) (β:=β) (β':=β) r (j+1) (λt s hs hn=>by
   have h1:=hni (t+1) s (by simpa using hs) hn;have h1':j+1+t≠i:=by omega
   refine⟨by simp[h1'],λ_=>⟨rfl,λq hq=>?_⟩⟩;have:=hne (t+1) s q (by simpa using hs) hn hq (by omega);simp[this])
  refine⟨EO S β r (j+1),?_,?_⟩
  ·rw[Ed];rw[ha];simp[hSj,Kl,hl,hSi]
  ·rw[Ed];rw[ha,e];simp[hSj,Kl,hl]
 | s'::r,t0,k+1,s,hj,h,ha,hl,hSj,hSi,hne,hni=>by
  obtain⟨H',h1,h2⟩:=OT (S:=S) (β:=β) (i:=i) (j:=j) (p:=p) (ncs:=ncs) r (t0+1) k s (by omega) (by simpa using h) ha hl hSj hSi (λt s q hs hn hq hx=>hne (t+1) s q (by simpa using hs) hn hq (by omega)) (λt s hs hn=>by
   have:=hni (t+1) s (by simpa using hs) hn;omega)
  cases ha':s'.al with
  | none=>exact⟨H',by rw[Ed,ha'];exact h1,by rw[Ed,ha'];exact h2⟩
  | some q=>
   have hi0:=hni 0 s' rfl (by rw[ha'];exact nofun);have hi0':(t0 ==i)=false:=by simpa using hi0
   have ec:Kl (λx=>x ==i||S x) s'.late q.1=Kl S s'.late q.1:=IY (λq hq=>by
    have:=hne 0 s' q rfl (by rw[ha'];exact nofun) hq (by omega);simp[this])
   cases hS':S t0 with
   | true=>
    refine⟨.blk (β t0) (Kl S s'.late q.1) q.2::H',?_,?_⟩
    ·rw[Ed];rw[ha'];simpa[hS'] using(Yy _ h1).trans (List.Perm.swap _ _ _)
    ·rw[Ed];rw[ha'];simp only[hi0',Y7,hS',Zk,ec];exact(Yy _ h2).trans (List.Perm.swap _ _ _)
   | false=>
    refine⟨H',?_,?_⟩
    ·rw[Ed];rw[ha'];simpa[hS'] using h1
    ·rw[Ed];rw[ha'];simp only[hi0',Y7,hS'];simpa using h2
def XO (n:Nat)(ops:List Oper)(N:Nat)(keys:List Nat)(deps:List (List Nat))(als:List Bool)(lates stos:List (Option Nat)):Bool:=
 NH ops N&&decide (N≤ops.length)&&
 (List.range N).all (λi=>match Cd ops i with
  | some d=>decide (d<n)&&!keys.contains d&&(List.range N).all (λj=>j ==i||Cd ops j !=some d)
  | none=>true)&&
 (List.range N).all (λi=>(deps.getD i []).all (λj=>decide (j<N)&&(Eg (ops.getD i default)).contains j&&!als.getD j true))&&
 (List.range N).all (λi=>match stos.getD i none with
  | some j=>decide (j<N)&&(Eg (ops.getD i default)).contains j&&als.getD j false&&!als.getD i true
  | none=>true)&&
 (List.range N).all (λj=>match lates.getD j none with
  | some k=>decide (k<N)&&als.getD j false&&stos.getD k none ==some j
  | none=>true)
def WR (P:Program)(n:Nat)(c:Cx)(opsA:Array Oper)(Q:Exit→Act→World→Prop)(o:Oper)(p:List Rp×TypeId):Prop:=
 ∀H a w Z (K:Act→World→Prop),St c H Z w→(∀b w',St c (.blk b p.1 p.2::H) Z w'→K (a.put o.dst (.pointer (some ⟨b,0,none⟩))) w')→
  Region.wanted o (yielded opsA a.tmps)=true∧o.wp P a w K Q
def VZ (P:Program)(n:Nat)(c:Cx)(opsA:Array Oper)(Q:Exit→Act→World→Prop)(ops:List Oper)(sp:List Sa)(l0:Fr)(H:List Ent)(i:Nat)(o:Oper):Prop:=
 match (E6 sp i).sto with
 | some j=>o.dst=none∧∃d p ncs,Cd ops j=some d∧(E6 sp j).al=some p∧(E6 sp j).late=some (i,ncs)∧
   ∀b H,DR P n c opsA Q ((d,rv (.pointer (some ⟨b,0,none⟩)))::B9 ops (U9 sp) (E6 sp i).deps l0) (.blk b p.1 p.2::H) o (rv undef) (.blk b ncs p.2::H)
 | none=>match (E6 sp i).al with
  | none=>∀E,DR P n c opsA Q (B9 ops (U9 sp) (E6 sp i).deps l0) (H++E) o (E6 sp i).r (H++E)
  | some p=>WR P n c opsA Q o p
def HR (P:Program)(n:Nat)(c:Cx)(opsA:Array Oper)(Q:Exit→Act→World→Prop)(ops:List Oper)(sp:List Sa)(l0:Fr)(H:List Ent):Nat→List Oper→Prop
 | i,o::rest=>VZ P n c opsA Q ops sp l0 H i o∧HR P n c opsA Q ops sp l0 H (i+1) rest
 | _,[]=>True
section
variable {P : Program} {n : Nat} {c : Cx} {opsA : Array Oper} {Q : Exit → Act → World → Prop} {l l0 : Fr} {H : List Ent} {sp : List Sa}
theorem HR.at {ops:List Oper}:∀{k:Nat} {rest:List Oper},HR P n c opsA Q ops sp l0 H k rest→∀(t:Nat) o,rest[t]? =some o→VZ P n c opsA Q ops sp l0 H (k+t) o
 | k,o::rest,⟨h1,h2⟩,t,o',ht=>by
  cases t with
  | zero=>simp at ht;subst ht;exact h1
  | succ t=>
   have:=HR.at h2 t o' (by simpa using ht);rw[show k+(t+1)=k+1+t from by omega];exact this
 | _,[],_,t,o,h=>by simp at h
theorem NM {β:Nat→Nat}{a:Act}{Z:Fz}(h0:Cz n l0 a Z):∀(os:List Oper) (ss:List Sa) (k:Nat),(∀(t:Nat) o s d,os[t]? =some o→ss[t]? =some s→o.dst=some d→∃v,a.tmps[d]? =some v∧(JW β s (k+t)).p Z v)→Cz n (KF β os ss k l0) a Z
 | [],_,_,_=>by unfold KF;exact h0
 | _::_,[],_,_=>by unfold KF;exact h0
 | o::os,s::ss,k,h=>by
  have ih:=NM h0 os ss (k+1) (λt o' s' d h1 h2 h3=>by
   have:=h (t+1) o' s' d (by simpa using h1) (by simpa using h2) h3;rw[show k+1+t=k+(t+1) from by omega];exact this)
  unfold KF
  cases hd:o.dst with
  | none=>exact ih
  | some d=>
   refine⟨ih.size,ih.defers,λi r hi=>?_⟩;rw[BU] at hi
   split at hi
   ·rename_i e;subst e;simp at hi;subst hi;exact h 0 o s d rfl rfl hd
   ·exact ih.tm i r hi
theorem Wf {id:Nat}{ops:List Oper}(N:Nat)(sp:List Sa)(hm:P.follows .mixedOrders=true)(hB:XO n ops N (En l0) (sp.map (·.deps)) (sp.map (·.al.isSome)) (sp.map (·.late.map (·.1))) (sp.map (·.sto))=true)(hl0:Sw l0 l)(hsp:sp.length=N)
  (hob:HR P n c ops.toArray Q ops sp l0 H 0 (ops.take N)) (h:∀β,WL P n c ops.toArray Q (ops.drop N) (KF β (ops.take N) sp 0 l0) (H++Sd β sp 0)):WC P n c (.region id ops.toArray true) Q l H:=by
 intro a w Z ha hw;simp only[XO,Yv,YL,List.mem_range,Yq] at hB;obtain⟨⟨⟨⟨⟨b1,bN⟩,b2⟩,b3⟩,b4⟩,b5⟩:=hB;have hget:∀i,i<N→(ops.take N)[i]? =ops[i]?:=λi hi=>by rw[YR,Zd hi]
 have hsa:∀i,i<N→sp[i]? =some (E6 sp i):=λi hi=>by
  simp[E6,Y2,Y1 (show i<sp.length by omega)]
 have hspq:∀i,i<N→(Db (U9 sp) i)=⟨(E6 sp i).deps,(E6 sp i).r,0⟩:=λi hi=>by
  simp[Db,U9,Y2,YX,hsa i hi]
 have hals:∀j b,j<N→(sp.map (·.al.isSome)).getD j b=(E6 sp j).al.isSome:=λj b hj=>by simp[Y2,YX,hsa j hj]
 have hstos:∀j,j<N→(sp.map (·.sto)).getD j none=(E6 sp j).sto:=λj hj=>by simp[Y2,YX,hsa j hj]
 have hlates:∀j,j<N→(sp.map (·.late.map (·.1))).getD j none=(E6 sp j).late.map (·.1):=λj hj=>by simp[Y2,YX,hsa j hj]
 have S1:∀i o j,i<N→ops[i]? =some o→(E6 sp i).sto=some j→j<N∧j∈Eg o∧(E6 sp j).al≠none∧(E6 sp i).al=none:=λi o j hi ho hs=>by
  have h1:=b4 i hi;rw[hstos i hi,hs] at h1;simp only[Yv,YC,Yq] at h1;obtain⟨⟨⟨h2,h3⟩,h4⟩,h5⟩:=h1;rw[hals j _ h2] at h4;rw[hals i _ hi] at h5;rw[Y2,ho,YS,List.contains_iff_mem] at h3;exact⟨h2,h3,λe=>(by rw[e] at h4;cases h4),(by simpa using h5)⟩
 have L1:∀t q,t<N→(E6 sp t).late=some q→q.1<N∧(E6 sp q.1).sto=some t:=λt q ht hq=>by
  have h1:=b5 t ht;rw[hlates t ht,hq] at h1;simp only[Option.map_some,Yv,Yq,beq_iff_eq] at h1;obtain⟨⟨h2,h3⟩,h4⟩:=h1;rw[hstos _ h2] at h4;exact⟨h2,h4⟩
 have hops:∀j,j<N→∃o,ops[j]? =some o:=λj hj=>⟨ops[j]'(by omega),Y1 (by omega)⟩
 have lt_of:∀(t:Nat) (s:Sa),sp[t]? =some s→t<N∧s=E6 sp t:=λt s hs=>by
  have h1:t<N:=by have:=(List.getElem?_eq_some_iff.1 hs).1;omega
  refine⟨h1,?_⟩;rw[hsa t h1] at hs;simpa using hs.symm
 have hdst:∀i o d,i<N→ops[i]? =some o→o.dst=some d→(d<n∧d ∉ En l0)∧∀j,j<N→j≠i→Cd ops j≠some d:=λi o d hi ho hd=>by
  have h3:=b2 i hi;have:Cd ops i=some d:=by simp[Cd,ho,hd]
  rw[this] at h3;simp only[Yv,YC,YL,List.mem_range,Yq] at h3;refine⟨⟨h3.1.1,λhmem=>by rw[← List.contains_iff_mem] at hmem;rw[hmem] at h3;cases h3.1.2⟩,λj hj hne he=>?_⟩;have:=h3.2 j hj;simp[hne,he] at this
 refine SG (N:=N) hm b1 bN (λS a w=>∃ (β:Nat→Nat) (Z:Fz),St c (H++EO S β sp 0) Z w∧Cz n l0 a Z∧(∀j o d,j<N→S j=true→ops[j]? =some o→o.dst=some d→∃v,a.tmps[d]? =some v∧(JW β (E6 sp j) j).p Z v)∧
   ∀k j,k<N→(E6 sp k).sto=some j→S k=true→S j=true)
  (λS S' a w hS hI=>?_) ⟨λ_=>0,Z,?_,ha.subL hl0,λj o d _ hS=>(by cases hS),λk j _ _ hS=>(by cases hS)⟩ (λS i o a w hi hun ho hb hI K hK=>?_) (λa w hI=>?_)
 ·obtain⟨β,Z,h1,h2,h3,h4⟩:=hI;refine⟨β,Z,?_,h2,λj o d hj hS'=>h3 j o d hj (by rw[hS j hj];exact hS'),λk j hk hs hSk=>?_⟩
  ·rw[← Gm (S:=S) (β:=β) (β':=β) sp 0 (λt s hs _=>by
    obtain⟨ht,rfl⟩:=lt_of t s hs;exact⟨hS _ (by omega),λ_=>⟨rfl,λq hq=>hS _ (L1 t q ht hq).1⟩⟩)]
   exact h1
  ·obtain⟨o,ho⟩:=hops k hk;rw[← hS j (S1 k o j hk ho hs).1];exact h4 k j hk hs (by rw[hS k hk];exact hSk)
 ·rw[Nb,Zg];exact hw.drawn _
 ·obtain⟨β,Z,h1,h2,h3,hx⟩:=hI;have hput:∀k u v,a.tmps[k]? =some u→o.dst≠some k→(a.put o.dst v).tmps[k]? =some u:=λk u v hk hne=>by
   cases hd:o.dst with
   | none=>simpa[Act.put] using hk
   | some d=>
    simp only[Act.put,Array.getElem?_setIfInBounds];rw[YW (λe=>hne (by rw[hd,e]))];exact hk
  have hagr:∀v Z',Fz.le Z Z'→Cz n l0 (a.put o.dst v) Z':=λv Z' hz=>by
   refine⟨?_,?_,λk r hk=>?_⟩
   ·cases o.dst<;>simp[Act.put,h2.size]
   ·cases o.dst<;>simp[Act.put,h2.defers]
   ·obtain⟨u,hu,hpu⟩:=h2.tm k r hk;exact⟨u,hput k u v hu (λe=>((hdst i o k hi ho e).1).2 (JB hk)),r.mono hz hpu⟩
  have hvals:∀(v:Value) (Z':Fz) (β':Nat→Nat),Fz.le Z Z'→(∀j,j≠i→β' j=β j)→(o.dst≠none→(JW β' (E6 sp i) i).p Z' v)→∀j o' d,j<N→(j ==i||S j)=true→ops[j]? =some o'→o'.dst=some d→∃u,(a.put o.dst v).tmps[d]? =some u∧(JW β' (E6 sp j) j).p Z' u:=by
   intro v Z' β' hz hβ hp j o' d hj hS' ho' hd
   by_cases hji:j=i
   ·subst hji;rw[ho] at ho';simp at ho';subst ho';refine⟨v,?_,hp (by simp[hd])⟩;have hdn:d<a.tmps.size:=by rw[h2.size];exact(hdst j o d hi ho hd).1.1
    simp[Act.put,hd,hdn]
   ·have hSj:S j=true:=by simpa[hji] using hS'
    obtain⟨u,hu,hpu⟩:=h3 j o' d hj hSj ho' hd;refine⟨u,hput d u v hu (λe=>(hdst i o d hi ho e).2 j hj hji (by simp[Cd,ho',hd])),?_⟩;have:JW β' (E6 sp j) j=JW β (E6 sp j) j:=by unfold JW;rw[hβ j hji]
    rw[this];exact(JW β (E6 sp j) j).mono hz hpu
  have hx':∀k j,k<N→(E6 sp k).sto=some j→(k ==i||S k)=true→(j ==i||S j)=true:=λk j hk hs hSk=>by
   by_cases hki:k=i
   ·subst hki;have:=(hb j (S1 k o j hk ho hs).2.1).2;simp[this]
   ·have:S j=true:=hx k j hk hs (by simpa[hki] using hSk);simp[this]
  have hat:=hob.at i o (by rw[hget i hi];exact ho);rw[Za] at hat;unfold VZ at hat;have hag':Cz n (B9 ops (U9 sp) (E6 sp i).deps l0) a Z:=JQ h2 (λj hj d hd=>by
    have h4:=b3 i hi j (by simpa[Y2,YX,hsa i hi] using hj);simp only[Yv,YC,Yq] at h4;obtain⟨⟨h5,h6⟩,h7⟩:=h4;rw[Y2,ho,YS,List.contains_iff_mem] at h6;have hjal:(E6 sp j).al=none:=by
     rw[hals j _ h5] at h7;simpa using h7
    obtain⟨o2,ho2⟩:=hops j h5;obtain⟨v,hv1,hv2⟩:=h3 j o2 d h5 (hb j h6).2 ho2 (by simpa[Cd,ho2] using hd);refine⟨v,hv1,?_⟩;rw[hspq j h5];simpa[JW,hjal] using hv2)
  cases hst:(E6 sp i).sto with
  | some j=>
   rw[hst] at hat;obtain⟨hod,d,p,ncs,hd,hal,hlate,hok⟩:=hat;obtain⟨hjN,hjb,_,hial⟩:=S1 i o j hi ho hst;have hSj:=(hb j hjb).2;obtain⟨H',p1,p2⟩:=OT (S:=S) (β:=β) (i:=i) (j:=j) (p:=p) (ncs:=ncs) sp 0 j (E6 sp j) (by omega) (hsa j hjN) hal hlate hSj hun (λt s q hs _ hq hne he=>by
     obtain⟨ht,rfl⟩:=lt_of t s hs;have:=(L1 t q ht hq).2;rw[he,hst] at this;simp at this;omega) (λt s hs hn he=>by
     obtain⟨ht,rfl⟩:=lt_of t s hs;rw[Za] at he;subst he;exact hn hial)
   obtain⟨o2,ho2⟩:=hops j hjN;obtain⟨v,hv1,hv2⟩:=h3 j o2 d hjN hSj ho2 (by simpa[Cd,ho2] using hd);have hag2:Cz n ((d,rv (.pointer (some ⟨β j,0,none⟩)))::B9 ops (U9 sp) (E6 sp i).deps l0) a Z:=⟨hag'.size,hag'.defers,λk r hk=>by
    rw[BU] at hk
    split at hk
    ·rename_i e;subst e;simp at hk;subst hk
     exact⟨v,hv1,by simpa[JW,hal] using hv2⟩
    ·exact hag'.tm k r hk⟩
   refine hok (β j) (H++H') a w Z K hag2 (h1.perm ((List.Perm.append_left H p1).trans List.perm_middle)) (λv w' Z' hz _ hs'=>hK _ _ ⟨β,Z',?_,hagr v Z' hz,hvals v Z' β hz (λ_ _=>rfl) (λhne=>absurd hod hne),hx'⟩);exact hs'.perm (List.perm_middle.symm.trans (List.Perm.append_left H p2.symm))
  | none=>
   rw[hst] at hat;have latene:∀t q,t<N→(E6 sp t).late=some q→q.1≠i:=λt q ht hq he=>by
    have:=(L1 t q ht hq).2;rw[he,hst] at this;cases this
   cases hal:(E6 sp i).al with
   | none=>
    rw[hal] at hat;refine hat _ a w Z K hag' h1 (λv w' Z' hz hp hst'=>hK _ _ ⟨β,Z',?_,hagr v Z' hz,hvals v Z' β hz (λ_ _=>rfl) (λ_=>by unfold JW;rw[hal];exact hp),hx'⟩);rw[Gm (S':=S) (β':=β) sp 0 (λt s hs hn=>by
     obtain⟨ht,rfl⟩:=lt_of t s hs;have:t≠i:=λe=>by subst e;exact hn hal
     refine⟨by simp[this],λ_=>⟨rfl,λq hq=>?_⟩⟩;have:=latene t q ht hq;simp[this])]
    exact hst'
   | some p=>
    rw[hal] at hat;have key:=λK' hK'=>hat (H++EO S β sp 0) a w Z K' h1 hK';have h5:∀b w',St c (.blk b p.1 p.2::(H++EO S β sp 0)) Z w'→K (a.put o.dst (.pointer (some ⟨b,0,none⟩))) w':=λb w' hst'=>by
     refine hK _ _ ⟨λj=>if j=i then b else β j,Z,?_,hagr _ Z (Fz.le.refl _),hvals _ Z _ (Fz.le.refl _) (λj hj=>by simp[hj]) (λ_=>by simp[JW,hal,rv]),hx'⟩;have hp:=OU (S:=S) (β:=β) (i:=i) (b:=b) (p:=p) sp 0 i (E6 sp i) (by omega) (hsa i hi) hal hun (λt s q hs _ hq=>by
      obtain⟨ht,rfl⟩:=lt_of t s hs;exact latene t q ht hq) (λq hq=>by
       refine⟨?_,latene i q hi hq⟩
       cases hS:S q.1 with
       | false=>rfl
       | true=>
        obtain⟨h6,h7⟩:=L1 i q hi hq;have:=hx q.1 i h6 h7 hS;rw[this] at hun;cases hun)
     exact hst'.perm ((List.perm_middle.symm).trans (List.Perm.append_left H hp.symm))
    refine⟨λ_=>(key K h5).2,λhw'=>?_⟩;rw[(key K h5).1] at hw';cases hw'
 ·obtain⟨β,Z,h1,h2,h3,_⟩:=hI;refine h β a w Z (NM h2 _ _ 0 (λt o s d ht hs hd=>?_)) (by rw[← OV];exact h1);obtain⟨htN,rfl⟩:=lt_of t s hs;rw[Za];exact h3 t o d htN rfl (by rw[← hget t htN];exact ht) hd
end
theorem VY {P:Program}{n:Nat}{c:Cx}{opsA:Array Oper}{Q:Exit→Act→World→Prop}{d:Nat}{e:TypeId}{ty:TypeId}{pos:String}{af:Array Edge}{z:Value}{cs:List Rp}(hz:∀w,(zeroValue e).run P w = .ok z w)(hcs:z.cells.toList.map rv=cs) :
  WR P n c opsA Q { dst:=some d,op:=.alloc e,type:=ty,pos:=pos,after:=af,guard:=none } (cs,e):=λH a w Z K hw hK=>by
 refine⟨by simp[Region.wanted],?_⟩;unfold Oper.wp;rw[show(execOp a.eval { dst:=some d,op:=.alloc e,type:=ty,pos:=pos,after:=af,guard:=none }).run P w = .ok (.value (.pointer (some ⟨w.heap.size,0,none⟩))) (w.alloc (.cells z.cells e)) from by simp[execOp,Instr.alloc,hz,newVar,newRow,newObj,Sem.run,Sem.run_bind]];exact hK _ _ (hw.alloc _ (e:=.blk w.heap.size cs e) ⟨z.cells.toList,by simpa using heap_alloc_new w _,by subst hcs;exact AN.rvs Z _⟩ rfl)
section
variable {P : Program} {n : Nat} {c : Cx} {opsA : Array Oper} {Q : Exit → Act → World → Prop} {l l0 : Fr} {H : List Ent} {sp : List Sa}
theorem Hb {id:Nat}{ops:List Oper}(N:Nat)(ks0:List Nat)(sp:List Sa)(hob:HR P n c ops.toArray Q ops sp l0 H 0 (ops.take N))(h:∀β,WL P n c ops.toArray Q (ops.drop N) (KF β (ops.take N) sp 0 l0) (H++Sd β sp 0))
  (h0:Kp ks0 l l0:=by repeat (first | exact Mw | (apply Kg;rfl) | (apply KK;rfl))) (hm:P.follows .mixedOrders=true:=by kernel_rfl) (hB:XO n ops N (En l0) (sp.map (·.deps)) (sp.map (·.al.isSome)) (sp.map (·.late.map (·.1))) (sp.map (·.sto))=true:=by kernel_rfl)
  (hsp:sp.length=N:=by rfl):WC P n c (.region id ops.toArray true) Q l H:=Wf N sp hm hB h0.one hsp hob h
theorem E9 {all rest:List Oper}{d:Nat}{op:Op}{ty:TypeId}{pos:String}{af:Array Edge}{i:Nat}
  (hr:∀{H},AZ P n c (B9 all (U9 sp) (E6 sp i).deps l0) H { dst:=some d,op:=op,type:=ty,pos:=pos,after:=af,guard:=none } (E6 sp i).r) (h:HR P n c opsA Q all sp l0 H (i+1) rest) (ha:(E6 sp i).al=none:=by rfl) (hs:(E6 sp i).sto=none:=by rfl) :
  HR P n c opsA Q all sp l0 H i ({ dst:=some d,op:=op,type:=ty,pos:=pos,after:=af,guard:=none }::rest):=by
 refine⟨?_,h⟩;unfold VZ;rw[hs,ha];exact λ_=>Ty hr
theorem VR {all rest:List Oper}{d:Nat}{op:Op}{ty:TypeId}{pos:String}{af:Array Edge}{i:Nat}
  (hr:∀{E},AZ P n c (B9 all (U9 sp) (E6 sp i).deps l0) (H++E) { dst:=some d,op:=op,type:=ty,pos:=pos,after:=af,guard:=none } (E6 sp i).r) (h:HR P n c opsA Q all sp l0 H (i+1) rest) (ha:(E6 sp i).al=none:=by rfl) (hs:(E6 sp i).sto=none:=by rfl) :
  HR P n c opsA Q all sp l0 H i ({ dst:=some d,op:=op,type:=ty,pos:=pos,after:=af,guard:=none }::rest):=by
 refine⟨?_,h⟩;unfold VZ;rw[hs,ha];exact λ_=>Ty hr
theorem Ye {all rest:List Oper}{o:Oper}{p:List Rp×TypeId}{i:Nat}(hr:WR P n c opsA Q o p)(h:HR P n c opsA Q all sp l0 H (i+1) rest)(ha:(E6 sp i).al=some p:=by rfl)(hs:(E6 sp i).sto=none:=by rfl):HR P n c opsA Q all sp l0 H i (o::rest):=by
 refine⟨?_,h⟩;unfold VZ;rw[hs,ha];exact hr
theorem Yk {all rest:List Oper}{op:Op}{ty:TypeId}{pos:String}{af:Array Edge}{g:Option (Nat×Bool)}{i j d:Nat}{p:List Rp×TypeId}{ncs:List Rp}
  (hr:∀{b H},DR P n c opsA Q ((d,rv (.pointer (some ⟨b,0,none⟩)))::B9 all (U9 sp) (E6 sp i).deps l0) (.blk b p.1 p.2::H) { dst:=none,op:=op,type:=ty,pos:=pos,after:=af,guard:=g } (rv undef) (.blk b ncs p.2::H))
  (h:HR P n c opsA Q all sp l0 H (i+1) rest) (hs:(E6 sp i).sto=some j:=by rfl) (hd:Cd all j=some d:=by rfl) (ha:(E6 sp j).al=some p:=by rfl) (hl:(E6 sp j).late=some (i,ncs):=by rfl) :
  HR P n c opsA Q all sp l0 H i ({ dst:=none,op:=op,type:=ty,pos:=pos,after:=af,guard:=g }::rest):=by
 refine⟨?_,h⟩;unfold VZ;rw[hs];exact⟨rfl,d,p,ncs,hd,ha,hl,λ_ _=>hr⟩
theorem Ws {all:List Oper}{i:Nat}:HR P n c opsA Q all sp l0 H i []:=trivial
end
structure UB (ks:List Nat) (β:Nat→Nat) (os:List Oper) (sp:List Sa) (i:Nat) (l0 l1:Fr):Prop where
 go:Kp ks (KF β os sp i l0) l1
section
variable {ks : List Nat} {β : Nat → Nat} {os : List Oper} {sp : List Sa} {i d : Nat} {l0 l1 : Fr} {ds : List Nat} {r : Rp} {p : List Rp × TypeId} {lt : Option (Nat × List Rp)} {so : Option Nat} {op : Op} {ty : TypeId} {pos : String} {af : Array Edge} {g : Option (Nat × Bool)}
theorem Xp (h:ks.contains d=true)(t:UB ks β os sp (i+1) l0 l1):UB ks β ({ dst:=some d,op:=op,type:=ty,pos:=pos,after:=af,guard:=g }::os) ({ deps:=ds,r:=r,sto:=so }::sp) i l0 ((d,r)::l1):=⟨Kg h t.go⟩
theorem Xs (h:ks.contains d=true)(t:UB ks β os sp (i+1) l0 l1):UB ks β ({ dst:=some d,op:=op,type:=ty,pos:=pos,after:=af,guard:=g }::os) ({ deps:=ds,r:=r,al:=some p,late:=lt,sto:=so }::sp) i l0 ((d,rv (.pointer (some ⟨β i,0,none⟩)))::l1):=⟨Kg h t.go⟩
theorem Xr {s:Sa}(h:ks.contains d=false)(t:UB ks β os sp (i+1) l0 l1):UB ks β ({ dst:=some d,op:=op,type:=ty,pos:=pos,after:=af,guard:=g }::os) (s::sp) i l0 l1:=⟨KK h t.go⟩
theorem Xq {s:Sa}(t:UB ks β os sp (i+1) l0 l1):UB ks β ({ dst:=none,op:=op,type:=ty,pos:=pos,after:=af,guard:=g }::os) (s::sp) i l0 l1:=⟨t.go⟩
theorem Xt (t:Kp ks l0 l1):UB ks β [] [] i l0 l1:=⟨t⟩
theorem H0 {P:Program}{n:Nat}{c:Cx}{opsA:Array Oper}{Q:Exit→Act→World→Prop}{rest:List Oper}{H H1:List Ent}(ks:List Nat)(h:WL P n c opsA Q rest l1 H1)
  (hz:UB ks β os sp i l0 l1:=by repeat (first | (apply Xp;rfl) | (apply Xs;rfl) | (apply Xr;rfl) | apply Xq | apply Xt | exact Mw | (apply Kg;rfl) | (apply KK;rfl))) (hH:H=H1:=by rfl) :
  WL P n c opsA Q rest (KF β os sp i l0) H:=λa w Z ha hw=>h a w Z (ha.subL hz.go.one) (hH▸hw)
end
section
variable {P : Program} {n : Nat} {c : Cx} {opsA : Array Oper} {Q : Exit → Act → World → Prop} {l l0 : Fr} {H : List Ent} {sp : List Sa}
theorem Yl {all rest:List Oper}{o:Oper}{i:Nat}(hr:∀{E},DR P n c opsA Q (B9 all (U9 sp) (E6 sp i).deps l0) (H++E) o (E6 sp i).r (H++E))(h:HR P n c opsA Q all sp l0 H (i+1) rest)(ha:(E6 sp i).al=none:=by rfl)(hs:(E6 sp i).sto=none:=by rfl):HR P n c opsA Q all sp l0 H i (o::rest):=by
 refine⟨?_,h⟩;unfold VZ;rw[hs,ha];exact λ_=>hr
end
def Yd (p:Bool→Prop):Rp:=⟨λ_ v=>∃b,v = .bool b∧p b,λ_ h=>h,true,λ_ Z v ⟨b,e,_⟩=>by rw[e];rfl⟩
section
variable {P : Program} {n : Nat} {c : Cx} {ops : Array Oper} {Q : Exit → Act → World → Prop} {rest : List Oper} {l : Fr} {H : List Ent} {d : Option Nat} {ty rty t e : TypeId} {pos : String} {af : Array Edge} {g : Option (Nat × Bool)} {r : Rp} {x : Operand} {cx cy : Code} {sz : Nat} {xs : List (List Rp)}
theorem SJ {o:Operand}{p:Bool→Prop}(ho:ev l o=some (Yd p))(h1:p true→WC P n c cx Q l H)(h2:p false→WC P n c cy Q l H):WC P n c (.cond o cx cy) Q l H:=λa w Z ha hw=>by
 obtain⟨b,e,hp⟩:=ha.ev ho;exact wp_cond_split e (λe=>h1 (e▸hp) a w Z ha hw) (λe=>h2 (e▸hp) a w Z ha hw)
theorem RA (ht:P.underlying t=some (.slice e))(h:ev l x=some (Bz sz xs)):AZ P n c l H { dst:=d,op:=.binOp .eql t x (.const (.slice none 0 0)) rty,type:=ty,pos:=pos,after:=af,guard:=g } (Yd (λb=>b=true→xs=[])):=λa w Z ha hw=>by
 obtain⟨A,cap,e1,h1,h2,h3,h4⟩:=ha.ev h;refine⟨.bool A.isNone,⟨_,rfl,λhb=>?_⟩,?_⟩
 ·cases A with
  | some a=>cases hb
  | none=>
   have:=h3 rfl;exact List.length_eq_zero_iff.1 (by omega)
 ·have:=run_equal_slice_nil (P:=P) w t e A xs.length cap ht;have e2:a.eval (.const (.slice none 0 0)) = .slice none 0 0:=rfl;simp[execOp,e1,e2,binOp,this,eqGuard]
end
section
variable {P : Program} {n : Nat} {c : Cx} {l : Fr} {H : List Ent} {d : Option Nat} {ty rty t e : TypeId} {pos : String} {af : Array Edge} {g : Option (Nat × Bool)} {x : Operand} {sz : Nat}
end
theorem DZ (s:ByteArray):MapKept.IsKey .string (.string s):=by simp[MapKept.IsKey]
theorem Hz.keys {Z:Fz}:∀{f:List (List UInt8×Rp)} {es:List MapEntry},Hz Z f es→∀x∈es,MapKept.IsKey .string x.key
 | [],[],_,x,hx=>by cases hx
 | p::f,e::es,⟨⟨h1,h2⟩,h3⟩,x,hx=>by
  rcases List.mem_cons.1 hx with rfl | hx
  ·rw[h1];exact DZ _
  ·exact Hz.keys h3 x hx
theorem Hz.at {Z:Fz}:∀{f:List (List UInt8×Rp)} {es:List MapEntry},Hz Z f es→f.length=es.length∧∀(j:Nat) (e:MapEntry),es[j]? =some e→∃k r,f[j]? =some (k,r)∧e.key = .string (B k)∧r.p Z e.val
 | [],[],_=>⟨rfl,λj e h=>by simp at h⟩
 | p::f,e::es,⟨⟨h1,h2⟩,h3⟩=>by
  obtain⟨hl,ha⟩:=Hz.at h3;refine⟨by simp[hl],λj e' hj=>?_⟩
  cases j with
  | zero=>simp at hj;subst hj;exact⟨p.1,p.2,rfl,h1,h2⟩
  | succ j=>simp at hj;simpa using ha j e' hj
theorem Hz.of {Z:Fz}:∀{f:List (List UInt8×Rp)} {es:List MapEntry},f.length=es.length→(∀(j:Nat) (e:MapEntry),es[j]? =some e→∃k r,f[j]? =some (k,r)∧e.key = .string (B k)∧r.p Z e.val)→Hz Z f es
 | [],[],_,_=>trivial
 | p::f,e::es,hl,h=>by
  obtain⟨k,r,h1,h2,h3⟩:=h 0 e rfl;simp at h1;subst h1;exact⟨⟨h2,h3⟩,Hz.of (by simpa using hl) λj e' hj=>by simpa using h (j+1) e' (by simpa using hj)⟩
 | [],_::_,hl,_=>by simp at hl
 | _::_,[],hl,_=>by simp at hl
theorem Hz.snoc {Z:Fz}{k:List UInt8}{r:Rp}{e:MapEntry}(h1:e.key = .string (B k))(h2:r.p Z e.val):∀{f:List (List UInt8×Rp)} {es:List MapEntry},Hz Z f es→Hz Z (f++[(k,r)]) (es++[e])
 | [],[],_=>⟨⟨h1,h2⟩,trivial⟩
 | p::f,e'::es,⟨h,h3⟩=>⟨h,Hz.snoc h1 h2 h3⟩
theorem Hz.filter {Z:Fz}(q:MapEntry→Bool):∀{f:List (List UInt8×Rp)} {es:List MapEntry},Hz Z f es→∃g,Hz Z g (es.filter q)∧g.Sublist f
 | [],[],_=>⟨[],trivial,List.Sublist.refl _⟩
 | p::f,e::es,⟨h,h3⟩=>by
  obtain⟨g,hg,hs⟩:=Hz.filter q h3
  cases hq:q e with
  | true=>exact⟨p::g,by rw[List.filter_cons_of_pos hq];exact⟨h,hg⟩,hs.cons_cons p⟩
  | false=>exact⟨g,by rw[List.filter_cons_of_neg (by simp[hq])];exact hg,hs.cons p⟩
theorem OA {T:Type}:∀{m:List (Ae×T)} {k:Ae} {r:T},(m.map (·.1)).Nodup→(k,r)∈m→B8 m k=some r
 | p::m,k,r,hn,h=>by
  rw[YV,List.nodup_cons] at hn;rw[B8];rcases List.mem_cons.1 h with h | h
  ·subst h;rw[Y0 rfl];rfl
  ·have hne : ¬ p.1=k:=λe=>hn.1 (by rw[e];exact List.mem_map.2 ⟨(k,r),h,rfl⟩);rw[Yx hne];exact OA hn.2 h
theorem MN {T:Type}:∀{m:List (Ae×T)} {k:Ae},(∀p∈m,p.1≠k)→B8 m k=none
 | [],_,_=>rfl
 | p::m,k,h=>by
  rw[B8,Yx (h p (by simp))];exact MN λq hq=>h q (by simp[hq])
theorem X8 {a b:List UInt8}(h:B a=B b):a=b:=by
 have:=congrArg ByteArray.toList h
 rwa [Dr,Dr] at this
theorem Jq {a b:List UInt8}(h:Value.string (B a) = .string (B b)):a=b:=X8 (by cases h;rfl)
theorem NB {Z:Fz}{m:List (List UInt8×Rp)}{es:List MapEntry}{ck:Nat}(h:Es Z m es ck)(k:List UInt8) :
  (Instr.findNow .string (.string (B k)) es 0=some none∧B8 m k=none∧∀p∈m,p.1≠k)∨∃j e r,Instr.findNow .string (.string (B k)) es 0=some (some (j,e.val))∧es[j]? =some e∧e.key = .string (B k)∧B8 m k=some r∧r.p Z e.val:=by
 obtain⟨h1,h2,h3,f,h4,h5⟩:=h;obtain⟨hl,ha⟩:=h5.at;rcases MapKept.findNow_spec (DZ (B k)) es 0 h5.keys with⟨q1,q2⟩ | ⟨j,e,q1,q2,q3⟩
 ·have hne:∀p∈m,p.1≠k:=λp hp e=>by
   obtain⟨j,hj⟩:=List.mem_iff_getElem?.1 (h4.symm.subset hp);have hjl:j<es.length:=by rw[← hl];exact(List.getElem?_eq_some_iff.1 hj).1
   obtain⟨k',r',e1,e2,_⟩:=ha j es[j] (Y1 hjl);rw[hj] at e1;cases e1;exact q2 es[j] (List.getElem_mem hjl) (by rw[e2,← e])
  exact .inl ⟨q1,MN hne,hne⟩
 ·obtain⟨k',r,e1,e2,e3⟩:=ha j e q2;rw[q3] at e2;obtain rfl:=Jq e2;exact .inr ⟨j,e,r,by simpa using q1,q2,q3,OA h1 (h4.subset (Y6 e1)),e3⟩
section
variable {P : Program} {n : Nat} {c : Cx} {ops : Array Oper} {Q : Exit → Act → World → Prop} {rest : List Oper} {l : Fr} {H : List Ent} {d : Nat} {d' : Option Nat} {ty t kt et rty : TypeId} {pos : String} {af : Array Edge} {g : Option (Nat × Bool)} {x y u : Operand} {K : Act → World → Prop} {cx : Code}
variable {T : Type} {enc : T → Rp} {xs : List (Ae × T)} {z : T} {k : Ae} {zv : Value} {i b : Nat}
theorem I3 {Z:Fz}{w:World}{m:List (List UInt8×Rp)}{rz:Rp}(ht:P.underlying t=some (.map kt et))(hk:P.underlying kt=some .string)(hz:∀w,(zeroValue et).run P w = .ok zv w)(hzr:rz.p Z zv)(hm:(Ent.map b m).holds Z w)(ok:Bool) :
  ∃v,((B8 m k).getD rz).p Z v∧(Instr.lookup t (.map (some b)) (.string (B k)) ok).run P w = .ok (if ok then .tuple #[v,.bool (B8 m k).isSome] else v) w:=by
 obtain⟨es,ck,h1,h2⟩:=hm;rcases NB h2 k with⟨q1,q2,_⟩ | ⟨j,e,r,q1,_,_,q2,q3⟩
 ·exact⟨zv,by rw[q2];exact hzr,by simp[Instr.lookup,run_underlying ht,MapKept.run_getObj_map h1,MapKept.run_checkKey hk (DZ _),MapKept.run_findKey hk q1,hz,q2]⟩
 ·exact⟨e.val,by rw[q2];exact q3,by simp[Instr.lookup,run_underlying ht,MapKept.run_getObj_map h1,MapKept.run_checkKey hk (DZ _),MapKept.run_findKey hk q1,q2]⟩
theorem OO (enc:T→Rp)(xs:List (Ae×T))(k:Ae)(z:T):(B8 (AY enc xs) k).getD (enc z)=enc (AM xs k z):=by
 rw[HF];unfold AM;cases B8 xs k<;>rfl
theorem PM (enc:T→Rp)(xs:List (Ae×T))(k:Ae):(B8 (AY enc xs) k).isSome=E3 xs k:=by
 rw[HF];unfold E3;cases B8 xs k<;>rfl
theorem Q4 (ht:P.underlying t=some (.map kt et))(hk:P.underlying kt=some .string)(hz:∀w,(zeroValue et).run P w = .ok zv w)(hzr:∀Z,(enc z).p Z zv)(hx:ev l x=some (rv (.map (some b))))(hi:H[i]? =some (.map b (AY enc xs)))(hy:ev l y=some (rS k)) :
  AZ P n c l H { dst:=d',op:=.lookup t x y true,type:=ty,pos:=pos,after:=af,guard:=g } (C0 [enc (AM xs k z),rB (E3 xs k)]):=λa w Z ha hw=>by
 obtain⟨v,h1,h2⟩:=I3 (k:=k) ht hk hz (hzr Z) (hw.ent hi) true;rw[OO] at h1;refine⟨.tuple #[v,.bool (E3 xs k)],⟨[v,.bool (E3 xs k)],rfl,h1,rfl,trivial⟩,?_⟩;rw[PM] at h2;simp[execOp,ha.eval hx,ha.eval hy,h2]
theorem T7 (ht:P.underlying t=some (.map kt et))(hk:P.underlying kt=some .string)(hz:∀w,(zeroValue et).run P w = .ok zv w)(hzr:∀Z,(enc z).p Z zv)(hx:ev l x=some (rv (.map (some b))))(hi:H[i]? =some (.map b (AY enc xs)))(hy:ev l y=some (rS k)) :
  AZ P n c l H { dst:=d',op:=.lookup t x y false,type:=ty,pos:=pos,after:=af,guard:=g } (enc (AM xs k z)):=λa w Z ha hw=>by
 obtain⟨v,h1,h2⟩:=I3 (k:=k) ht hk hz (hzr Z) (hw.ent hi) false;rw[OO] at h1;simp only[YH,Ze] at h2;exact⟨v,h1,by simp[execOp,ha.eval hx,ha.eval hy,h2]⟩
theorem Es.length {Z:Fz}{m:List (List UInt8×Rp)}{es:List MapEntry}{ck:Nat}(h:Es Z m es ck):es.length=m.length:=by
 obtain⟨_,_,_,f,h4,h5⟩:=h;rw[← h5.at.1,h4.length_eq]
theorem Wv {m:List (List UInt8×Rp)}{N:Nat}(ht:P.underlying t=some (.map kt et))(hx:ev l x=some (rv (.map (some b))))(hi:H[i]? =some (.map b m))(hN:m.length=N) :
  AZ P n c l H { dst:=d',op:=.call { callee:=.builtin .len,args:=#[x],argTypes:=#[t] },type:=ty,pos:=pos,after:=af,guard:=g } (rI .i64 N):=λa w Z ha hw=>C3<|by
 obtain⟨es,ck,h1,h2⟩:=hw.ent hi;have hl:es.size=N:=by rw[← hN,← h2.length];simp
 simp[execOp,resolve,invoke,builtin,ha.eval hx,Builtin.len_,run_underlying ht,goInt,MapKept.run_getObj_map h1,hl]
theorem RB {v:Option Nat}(ht:P.underlying t=some (.map kt et))(hx:ev l x=some (rv (.map v))):AZ P n c l H { dst:=d',op:=.binOp .neq t x (.const (.map none)) rty,type:=ty,pos:=pos,after:=af,guard:=g } (rB (!v.isNone)):=λa w Z ha hw=>C3<|by
 have e2:a.eval (.const (.map none)) = .map none:=rfl;have h:=run_equal_map_nil (P:=P) w t kt et v ht;simp[execOp,ha.eval hx,e2,eqGuard,binOp,h]
theorem Rf (hn:Nat.blt d n=true)(h:∀b,WL P n c ops Q rest ((d,rv (.map (some b)))::l) (.map b []::H)) :
  WL P n c ops Q ({ dst:=some d,op:=.makeMap t none,type:=ty,pos:=pos,after:=af,guard:=none }::rest) l H:=
 Iu (λa w Z ha hw=>⟨_,w.alloc (.map #[] 0),_,_,Z,by simp[execOp,run_makeMap],Fz.le.refl _,rfl,
  hw.alloc _ (e:=.map w.heap.size []) ⟨#[],0,by simpa using heap_alloc_new w _,by simp,by simp,by simp,[],Ys _,trivial⟩ rfl,h w.heap.size⟩) hn
theorem Ts {m f:List (Ae×Rp)}(h:f.Perm m)(k:Ae)(r:Rp):(mput f k r).Perm (mput m k r):=h.map _
theorem Q8 {T:Type}:∀{f:List (Ae×T)} {j:Nat} {k:Ae} {r0:T} (r:T),(f.map (·.1)).Nodup→f[j]? =some (k,r0)→mput f k r=f.set j (k,r)
 | p::f,0,k,r0,r,hn,h=>by
  simp at h;subst h;rw[YV,List.nodup_cons] at hn;have:mput f k r=f:=by
   unfold mput;rw[List.map_congr_left (g:=id) (λq hq=>?_),List.map_id];have hne : ¬ q.1=k:=λe=>hn.1 (by rw[← e];exact List.mem_map.2 ⟨q,hq,rfl⟩);rw[Yx hne];rfl
  show(bif decide (k=k) then(k,r) else(k,r0))::mput f k r=_;rw[Y0 rfl,this];rfl
 | p::f,j+1,k,r0,r,hn,h=>by
  rw[YV,List.nodup_cons] at hn;simp at h;have hne : ¬ p.1=k:=λe=>hn.1 (by rw[e];exact List.mem_map.2 ⟨(k,r0),Y6 h,rfl⟩);show(bif decide (p.1=k) then(k,r) else p)::mput f k r=_;rw[Yx hne,Q8 r hn.2 h];rfl
theorem Q9 {T:Type}:∀{f:List (Ae×T)} {j:Nat} {k:Ae} {r0:T},(f.map (·.1)).Nodup→f[j]? =some (k,r0)→mdel f k=f.eraseIdx j
 | p::f,0,k,r0,hn,h=>by
  simp at h;subst h;rw[YV,List.nodup_cons] at hn;have:f.filter (λq=>!decide (q.1=k))=f:=List.filter_eq_self.2 λq hq=>by
   have hne : ¬ q.1=k:=λe=>hn.1 (by rw[← e];exact List.mem_map.2 ⟨q,hq,rfl⟩);simp[hne]
  unfold mdel;rw[List.filter_cons_of_neg (by simp),this];rfl
 | p::f,j+1,k,r0,hn,h=>by
  rw[YV,List.nodup_cons] at hn;simp at h;have hne : ¬ p.1=k:=λe=>hn.1 (by rw[e];exact List.mem_map.2 ⟨(k,r0),Y6 h,rfl⟩);unfold mdel;rw[List.filter_cons_of_pos (by simp[hne])];show p::mdel f k=_;rw[Q9 hn.2 h];rfl
theorem RG {T:Type}(m:List (Ae×T))(k:Ae)(r:T):(mput m k r).map (·.1)=m.map (·.1):=by
 unfold mput;rw[Zh];refine List.map_congr_left λp _=>?_;simp only[Function.comp]
 by_cases h:p.1=k
 ·rw[Y0 h];exact h.symm
 ·rw[Yx h];rfl
theorem RI {T:Type}{m:List (Ae×T)}{k:Ae}{r:T}(h:B8 m k=some r):E3 m k=true:=by unfold E3;rw[h];rfl
theorem RJ {T:Type}{m:List (Ae×T)}{k:Ae}(h:B8 m k=none):E3 m k=false:=by unfold E3;rw[h];rfl
theorem Es.put {Z:Fz}{m:List (Ae×Rp)}{es:List MapEntry}{ck j:Nat}{e:MapEntry}{k:Ae}{r0 r:Rp}{v:Value}(h:Es Z m es ck)(he:es[j]? =some e)(hk:e.key = .string (B k))(hm:B8 m k=some r0)(hr:r.p Z v) :
  Es Z (mset m k r) (es.set j { e with key:=.string (B k),val:=v }) ck:=by
 obtain⟨h1,h2,h3,f,h4,h5⟩:=h;obtain⟨hl,ha⟩:=h5.at;have hjl:=(List.getElem?_eq_some_iff.1 he).1;unfold mset;rw[RI hm,Yw];obtain⟨k',r',e1,e2,_⟩:=ha j e he;rw[hk] at e2;obtain rfl:=Jq e2;have hfn:(f.map (·.1)).Nodup:=(h4.map (·.1)).nodup_iff.2 h1;refine⟨by rw[RG];exact h1,?_,?_,f.set j (k,r),?_,Hz.of (by simp[hl]) λi x hx=>?_⟩
 ·rw[List.map_set];have:(es.map (·.born)).set j e.born=es.map (·.born):=by
   apply List.ext_getElem?;intro i;rw[List.getElem?_set]
   split
   ·rename_i hij;subst hij
    simp[hjl,List.getElem?_eq_some_iff.1 he |>.2]
   ·rfl
  show((es.map (·.born)).set j e.born).Nodup;rw[this];exact h2
 ·intro x hx;rcases List.mem_or_eq_of_mem_set hx with hx | rfl
  ·exact h3 x hx
  ·exact h3 e (Y6 he)
 ·have:=Ts h4 k r
  rwa [Q8 r hfn e1] at this
 ·rw[List.getElem?_set] at hx ⊢
  split at hx
  ·rename_i hij;subst hij
   cases hx
   exact⟨k,r,by rw[Zd rfl,Zd (by rw[hl];exact hjl)],rfl,hr⟩
  ·rename_i hij
   rw[YW hij];exact ha i x hx
theorem Es.ins {Z:Fz}{m:List (Ae×Rp)}{es:List MapEntry}{ck:Nat}{k:Ae}{r:Rp}{v:Value}(h:Es Z m es ck)(hm:B8 m k=none)(hk:∀p∈m,p.1≠k)(hr:r.p Z v) :
  Es Z (mset m k r) (es++[{ key:=.string (B k),val:=v,born:=ck }]) (ck+1):=by
 obtain⟨h1,h2,h3,f,h4,h5⟩:=h;unfold mset;rw[RJ hm,Yt];have hp:=Ke k r m;refine⟨?_,?_,?_,f++[(k,r)],?_,Hz.snoc rfl hr h5⟩
 ·rw[(hp.map (·.1)).nodup_iff,YV,List.nodup_cons];exact⟨λhx=>by obtain⟨p,hp,e⟩:=List.mem_map.1 hx;exact hk p hp e,h1⟩
 ·rw[Zn,List.nodup_append];refine⟨h2,by simp,λa ha b hb e=>?_⟩;simp at hb;subst hb;obtain⟨x,hx,e'⟩:=List.mem_map.1 ha;have:=h3 x hx;omega
 ·intro x hx;rcases List.mem_append.1 hx with hx | hx
  ·have:=h3 x hx;omega
  ·simp at hx;subst hx;exact YI _
 ·exact(List.perm_append_comm (l₁:=f) (l₂:=[(k,r)])).trans ((h4.cons (k,r)).trans hp.symm)
theorem Es.del {Z:Fz}{m:List (Ae×Rp)}{es:List MapEntry}{ck j:Nat}{e:MapEntry}{k:Ae}(h:Es Z m es ck)(he:es[j]? =some e)(hk:e.key = .string (B k)):Es Z (mdel m k) (es.eraseIdx j) ck:=by
 obtain⟨h1,h2,h3,f,h4,h5⟩:=h;obtain⟨hl,ha⟩:=h5.at;obtain⟨k',r',e1,e2,_⟩:=ha j e he;rw[hk] at e2;obtain rfl:=Jq e2;have hfn:(f.map (·.1)).Nodup:=(h4.map (·.1)).nodup_iff.2 h1;have hs:=List.eraseIdx_sublist es j;refine⟨h1.sublist ((List.filter_sublist ..).map _),h2.sublist (hs.map _),λx hx=>h3 x (hs.subset hx),f.eraseIdx j,?_,Hz.of (by rw[List.length_eraseIdx,List.length_eraseIdx,hl]) λi x hx=>?_⟩
 ·rw[← Q9 hfn e1];exact h4.filter _
 ·rw[List.getElem?_eraseIdx] at hx ⊢
  split at hx
  ·rename_i hij;rw[Zd hij];exact ha i x hx
  ·rename_i hij;rw[YW hij];exact ha (i+1) x hx
theorem RO {m:List (Ae×Rp)}{k:Ae}(hk:∀p∈m,p.1≠k):mdel m k=m:=List.filter_eq_self.2 λp hp=>by simp[hk p hp]
theorem St.mapset {Z:Fz}{w:World}(h:St c H Z w){m m':List (Ae×Rp)}(hi:H[i]? =some (.map b m)){es es':Array MapEntry}{ck ck':Nat}(h1:w.heap[b]? =some (.map es ck))(h2:Es Z m' es'.toList ck') :
  St c (H.set i (.map b m')) Z { w with heap:=w.heap.setIfInBounds b (.map es' ck') }:=by
 obtain⟨q1,q2⟩:=MapKept.heap_set (o':=.map es' ck') h1;exact h.set hi rfl rfl rfl (by simp) (λk _ hk=>q2 k (by simpa[Ent.foot] using hk)) ⟨es',ck',q1,h2⟩ (by simp[Ent.foot])
theorem Nv (s:ByteArray):Instr.sameBits 10000 (.string s) (.string s)=true:=by
 show(s ==s)=true;exact(MapKept.bytes_beq s s).2 rfl |> λh=>by simpa using h
theorem Wh {r:Rp}{m:List (Ae×Rp)}(ht:P.underlying t=some (.map kt et))(hk:P.underlying kt=some .string)(hx:ev l x=some (rv (.map (some b))))(hi:H[i]? =some (.map b m))(hy:ev l y=some (rS k))(hu:ev l u=some r){H':List Ent}(hH:H.set i (.map b (mset m k r))=H')(h:WL P n c ops Q rest l H') :
  WL P n c ops Q ({ dst:=none,op:=.mapUpdate t x y u,type:=ty,pos:=pos,after:=af,guard:=none }::rest) l H:=
 Nn λa w Z ha hw=>by
  obtain⟨es,ck,h1,h2⟩:=hw.ent hi;have hv:=ha.ev hu;subst hH;rcases NB h2 k with⟨q1,q2,q3⟩ | ⟨j,e,r0,q1,q2,q3,q4,_⟩
  ·refine⟨_,_,?_,hw.mapset hi h1 (es':=es.push { key:=.string (B k),val:=a.eval u,born:=ck }) (by simpa using h2.ins q2 q3 hv),h⟩;simp[execOp,ha.eval hx,ha.eval hy,Instr.mapUpdate,run_underlying ht,MapKept.run_getObj_map h1,MapKept.run_checkKey hk (DZ _),MapKept.run_findKey hk q1,MapKept.run_setObj_map _ h1]
  ·have hje:es[j]? =some e:=by simpa using q2
   refine⟨_,_,?_,hw.mapset hi h1 (es':=es.modify j λe=>{ e with key:=.string (B k),val:=a.eval u }) (ck':=ck) (by
    have:=h2.put q2 q3 q4 hv;have e1:(es.modify j λe=>{ e with key:=.string (B k),val:=a.eval u }).toList=es.toList.set j { e with key:=.string (B k),val:=a.eval u }:=by
     rw[Array.toList_modify];rw[List.modify_eq_set,q2];rfl
    rw[e1];exact this),h⟩
   have hkey:((es[j]?).map (·.key)).getD (.string (B k)) = .string (B k):=by rw[hje];exact q3
   simp[execOp,ha.eval hx,ha.eval hy,Instr.mapUpdate,run_underlying ht,MapKept.run_getObj_map h1,MapKept.run_checkKey hk (DZ _),MapKept.run_findKey hk q1,MapKept.run_setObj_map _ h1,hkey,Instr.keyThatStays,Nv]
theorem VO {op:Op}{ty:TypeId}{pos:String}{af:Array Edge}
  (hr:∀a w Z,Cz n l a Z→St c H Z w→∃v w' H',(execOp a.eval { dst:=none,op:=op,type:=ty,pos:=pos,after:=af,guard:=none }).run P w = .ok (.value v) w'∧St c H' Z w'∧WL P n c ops Q rest l H') :
  WL P n c ops Q ({ dst:=none,op:=op,type:=ty,pos:=pos,after:=af,guard:=none }::rest) l H:=λa w Z ha hw=>
 wpList_plain rfl λK hK=>by
  obtain⟨v,w',H',h1,h2,h3⟩:=hr a w Z ha hw;unfold Oper.wp;rw[h1];exact hK _ _ (h3 _ w' Z (ha.put_none _) h2)
theorem Wi {m:List (Ae×Rp)}(ht:P.underlying t=some (.map kt et))(hk:P.underlying kt=some .string){kt':TypeId}(hx:ev l x=some (rv (.map (some b))))(hi:H[i]? =some (.map b m))(hy:ev l y=some (rS k)){H':List Ent}(hH:H.set i (.map b (mdel m k))=H')(h:WL P n c ops Q rest l H') :
  WL P n c ops Q ({ dst:=none,op:=.call { callee:=.builtin .delete,args:=#[x,y],argTypes:=#[t,kt'] },type:=ty,pos:=pos,after:=af,guard:=none }::rest) l H:=
 VO (λa w Z ha hw=>by
  obtain⟨es,ck,h1,h2⟩:=hw.ent hi;subst hH;rcases NB h2 k with⟨q1,q2,q3⟩ | ⟨j,e,r0,q1,q2,q3,q4,_⟩
  ·refine⟨.tuple #[],_,_,?_,hw.mapset hi h1 (es':=es) (ck':=ck) (by rw[RO q3];exact h2),h⟩;simp[execOp,resolve,invoke,builtin,ha.eval hx,ha.eval hy,Builtin.delete_,run_underlying ht,MapKept.run_getObj_map h1,MapKept.run_checkKey hk (DZ _),MapKept.run_findKey hk q1,MapKept.run_setObj_map _ h1]
  ·refine⟨.tuple #[],_,_,?_,hw.mapset hi h1 (es':=es.eraseIdxIfInBounds j) (ck':=ck) (by
    have e1:(es.eraseIdxIfInBounds j).toList=es.toList.eraseIdx j:=by simp
    rw[e1];exact h2.del q2 q3),h⟩
   simp[execOp,resolve,invoke,builtin,ha.eval hx,ha.eval hy,Builtin.delete_,run_underlying ht,MapKept.run_getObj_map h1,MapKept.run_checkKey hk (DZ _),MapKept.run_findKey hk q1,MapKept.run_setObj_map _ h1])
theorem Qh {v:T}(ht:P.underlying t=some (.map kt et))(hk:P.underlying kt=some .string)(hx:ev l x=some (rv (.map (some b))))(hi:H[i]? =some (.map b (AY enc xs)))(hy:ev l y=some (rS k))(hu:ev l u=some (enc v)){H':List Ent}(hH:H.set i (.map b (AY enc (mset xs k v)))=H')(h:WL P n c ops Q rest l H') :
  WL P n c ops Q ({ dst:=none,op:=.mapUpdate t x y u,type:=ty,pos:=pos,after:=af,guard:=none }::rest) l H:=Wh ht hk hx hi hy hu (by rw[← TD];exact hH) h
theorem US (ht:P.underlying t=some (.map kt et))(hk:P.underlying kt=some .string){kt':TypeId}(hx:ev l x=some (rv (.map (some b))))(hi:H[i]? =some (.map b (AY enc xs)))(hy:ev l y=some (rS k)){H':List Ent}(hH:H.set i (.map b (AY enc (mdel xs k)))=H')(h:WL P n c ops Q rest l H') :
  WL P n c ops Q ({ dst:=none,op:=.call { callee:=.builtin .delete,args:=#[x,y],argTypes:=#[t,kt'] },type:=ty,pos:=pos,after:=af,guard:=none }::rest) l H:=Wi ht hk hx hi hy (by rw[← TH];exact hH) h
end
theorem JI {q:MapEntry→Bool}:∀{l:List MapEntry} {j:Nat} {e:MapEntry},(l.map (·.born)).Nodup→l[j]? =some e→l.filter (λx=>!(x.born ==e.born))=l.eraseIdx j
 | x::l,0,e,hn,h=>by
  simp at h;subst h;rw[YV,List.nodup_cons] at hn;rw[List.filter_cons_of_neg (by simp),List.filter_eq_self.2 λy hy=>?_];rfl;have:y.born≠x.born:=λe=>hn.1 (by rw[← e];exact List.mem_map.2 ⟨y,hy,rfl⟩);simp[this]
 | x::l,j+1,e,hn,h=>by
  rw[YV,List.nodup_cons] at hn;simp at h;have hne:x.born≠e.born:=λe'=>hn.1 (by rw[e'];exact List.mem_map.2 ⟨e,Y6 h,rfl⟩);rw[List.filter_cons_of_pos (by simp[hne]),JI (q:=q) hn.2 h];rfl
theorem Hz.erase {Z:Fz}:∀{f:List (List UInt8×Rp)} {es:List MapEntry} (j:Nat),Hz Z f es→Hz Z (f.eraseIdx j) (es.eraseIdx j)
 | [],[],j,_=>by simp[Hz]
 | p::f,e::es,0,⟨_,h⟩=>h
 | p::f,e::es,j+1,⟨h,h3⟩=>⟨h,Hz.erase j h3⟩
theorem Qy {α:Type}:∀{l:List α} {j:Nat} {a:α},l[j]? =some a→l.Perm (a::l.eraseIdx j)
 | x::l,0,a,h=>by simp at h;subst h;exact Ys _
 | x::l,j+1,a,h=>by
  simp at h;exact((Qy h).cons x).trans (List.Perm.swap a x _)
theorem Tt {T:Type}{enc:T→Rp}{ys:List (Ae×T)}{f:List (Ae×Rp)}{j:Nat}{k:Ae}{r:Rp}(h:f.Perm (AY enc ys))(hj:f[j]? =some (k,r)):∃ (p:Ae×T) (ys':List (Ae×T)),ys.Perm (p::ys')∧p.1=k∧enc p.2=r∧(f.eraseIdx j).Perm (AY enc ys'):=by
 have hm:(k,r)∈AY enc ys:=h.subset (Y6 hj);obtain⟨p,hp,e⟩:=List.mem_map.1 hm;simp only[Prod.mk.injEq] at e;obtain⟨a,b,rfl⟩:=List.append_of_mem hp;refine⟨p,a++b,List.perm_middle,e.1,e.2,?_⟩;have h1:f.Perm ((k,r)::f.eraseIdx j):=by
  exact Qy hj
 have h2:(AY enc (a++p::b)).Perm ((k,r)::AY enc (a++b)):=by
  have:(AY enc (a++p::b)).Perm (AY enc (p::(a++b))):=List.perm_middle.map _;refine this.trans ?_;show((p.1,enc p.2)::AY enc (a++b)).Perm _;rw[e.1,e.2]
 exact((h1.symm.trans h).trans h2).cons_inv
section
variable {P : Program} {n : Nat} {c : Cx} {ops : Array Oper} {Q : Exit → Act → World → Prop} {rest : List Oper} {l : Fr} {H : List Ent} {d : Nat} {ty t kt et rty : TypeId} {pos : String} {af : Array Edge} {x y u : Operand} {K : Act → World → Prop} {cx : Code}
variable {T : Type} {enc : T → Rp} {xs ys : List (Ae × T)} {i b it : Nat} {m lf : List (List UInt8 × Rp)} {cur : Option (List UInt8 × Rp)} {k : Ae} {r : Rp}
theorem UL (ht:P.underlying t=some (.map kt et))(hx:ev l x=some (rv (.map (some b))))(hi:H[i]? =some (.map b m))(hn:Nat.blt d n=true)(h:∀it,WL P n c ops Q rest ((d,rv (.pointer (some ⟨it,0,none⟩)))::l) (H.set i (.mit b it m m none))) :
  WL P n c ops Q ({ dst:=some d,op:=.range t x,type:=ty,pos:=pos,after:=af,guard:=none }::rest) l H:=
 Iu (λa w Z ha hw=>by
  obtain⟨es,ck,h1,h2⟩:=hw.ent hi;have hb:b<w.heap.size:=(Array.getElem?_eq_some_iff.1 h1).1;have hf:es.toList.filter (λe=>!(#[]:Array Nat).contains e.born)=es.toList:=List.filter_eq_self.2 λ_ _=>by simp
  obtain⟨f,h4,h5⟩:=h2.2.2.2;refine⟨.pointer (some ⟨w.heap.size,0,none⟩),w.alloc (.mapIter (some b) ck #[] ck),_,_,Z,?_,Fz.le.refl _,rfl,hw.set hi rfl rfl rfl (by simp) (λk hk _=>Below.heap_alloc w _ k hk) ?_ ?_,h w.heap.size⟩
  ·simp[execOp,ha.eval hx,run_range_map w t kt et b es ck ht h1]
  ·exact⟨es,ck,#[],ck,ck,(Below.heap_alloc w _ b hb).trans h1,by simpa using heap_alloc_new w _,h2,h2.2.2.1,Y8 _,Y8 _,Nat.ne_of_lt hb,⟨f,h4,by rw[hf];exact h5⟩,trivial⟩
  ·intro k hk;simp only[Ent.foot,Zj,List.not_mem_nil,or_false] at hk;rcases hk with rfl | rfl
   ·exact .inl (by simp[Ent.foot])
   ·exact .inr (Y8 _)) hn
theorem Wg (hx:ev l x=some (rv (.pointer (some ⟨it,0,none⟩))))(hi:H[i]? =some (.mit b it m (AY enc ys) cur))(hn:Nat.blt d n=true)
  (h0:ys=[]→WL P n c ops Q rest ((d,C0 [rB false])::l) H)
  (h1:∀p ys',ys.Perm (p::ys')→WL P n c ops Q rest ((d,C0 [rB true,rS p.1,enc p.2])::l) (H.set i (.mit b it m (AY enc ys') (some (p.1,enc p.2))))) :
  WL P n c ops Q ({ dst:=some d,op:=.next x false,type:=ty,pos:=pos,after:=af,guard:=none }::rest) l H:=
 Iu (λa w Z ha hw=>by
  obtain⟨es,ck,seen,since,c0,q1,q2,q3,q4,q5,q6,q7,⟨f,q8,q9⟩,_⟩:=hw.ent hi;have hlf:(leftOf es seen).toList=es.toList.filter λe=>!seen.contains e.born:=by simp[leftOf]
  rcases run_next_at (P:=P) w ty it b since c0 seen es ck q2 q1 q4 q5 with⟨r1,r2⟩ | ⟨e,r1,w1,r2,r3⟩
  ·have he:es.toList.filter (λe=>!seen.contains e.born)=[]:=by rw[← hlf];exact YN (by simpa using r1)
   rw[he] at q9;have hf:f=[]:=by cases f with
    | nil=>rfl
    | cons _ _=>exact absurd q9 id
   subst hf;have hy:ys=[]:=by
    have:=q8.length_eq;rw[HG] at this;exact YN this.symm
   exact⟨.tuple #[.bool false],w,C0 [rB false],H,Z,by simp[execOp,ha.eval hx,r2],Fz.le.refl _,⟨[.bool false],rfl,rfl,trivial⟩,hw,h0 hy⟩
  ·rw[hlf] at r1;obtain⟨j,hj⟩:=List.mem_iff_getElem?.1 r1;obtain⟨k,r,e1,e2,e3⟩:=q9.at.2 j e hj;obtain⟨p,ys',s1,s2,s3,s4⟩:=Tt q8 e1;have hnl:((es.toList.filter λe=>!seen.contains e.born).map (·.born)).Nodup:=q3.2.1.sublist ((List.filter_sublist ..).map _);have hleft:es.toList.filter (λx=>!(seen.push e.born).contains x.born)=(es.toList.filter λe=>!seen.contains e.born).eraseIdx j:=by
    rw[← JI (q:=λ_=>true) hnl hj,List.filter_filter];refine List.filter_congr λx _=>?_;simp only[Array.contains_push,Bool.not_or];rw[Bool.and_comm]
   have hd:St c H Z w1:=by
    rcases r2 with rfl | rfl
    ·exact hw
    ·exact hw.drawn _
   have q2':w1.heap[it]? =some (.mapIter (some b) since seen c0):=by rcases r2 with rfl | rfl<;>exact q2
   have q1':w1.heap[b]? =some (.map es ck):=by rcases r2 with rfl | rfl<;>exact q1
   obtain⟨t1,t2⟩:=MapKept.heap_set (o':=.mapIter (some b) since (seen.push e.born) ck) q2';refine⟨.tuple #[.bool true,e.key,e.val],ChangeMaps.setBlock w1 it (.mapIter (some b) since (seen.push e.born) ck),C0 [rB true,rS p.1,enc p.2],H.set i (.mit b it m (AY enc ys') (some (p.1,enc p.2))),Z,by simp[execOp,ha.eval hx,r3],Fz.le.refl _,⟨[.bool true,e.key,e.val],rfl,rfl,?_,?_,trivial⟩,hd.set hi rfl rfl rfl (by simp[ChangeMaps.setBlock]) (λk' _ hk'=>t2 k' (λe'=>hk' (by simp[Ent.foot,e']))) ?_ (λk' hk'=>.inl (by simpa[Ent.foot] using hk')),h1 p ys' s1⟩
   ·show e.key = .string (B p.1);rw[s2];exact e2
   ·rw[s3];exact e3
   ·exact⟨es,ck,seen.push e.born,since,ck,(t2 b q7).trans q1',t1,q3,q4,Nat.le_trans q5 q6,Y8 _,q7,⟨f.eraseIdx j,s4,by rw[hleft];exact q9.erase j⟩,rfl,seen,e,rfl,(List.mem_filter.1 r1).1,by rw[s2];exact e2,by rw[s3];exact e3⟩) hn
theorem St.unmit {Z:Fz}{w:World}(h:St c H Z w)(hi:H[i]? =some (.mit b it m lf cur)):St c (H.set i (.map b m)) Z w:=by
 obtain⟨es,ck,seen,since,c0,q1,q2,q3,_⟩:=h.ent hi;exact h.set hi rfl rfl rfl (Y8 _) (λ_ _ _=>rfl) ⟨es,ck,q1,q3⟩ (by simp[Ent.foot])
theorem WK.unmit (hi:H[i]? =some (.mit b it m lf cur))(h:WK n c K l (H.set i (.map b m))):WK n c K l H:=λa w Z ha hw=>h a w Z ha (hw.unmit hi)
theorem WC.unmit (hi:H[i]? =some (.mit b it m lf cur))(h:WC P n c cx Q l (H.set i (.map b m))):WC P n c cx Q l H:=λa w Z ha hw=>h a w Z ha (hw.unmit hi)
theorem WL.unmit (hi:H[i]? =some (.mit b it m lf cur))(h:WL P n c ops Q rest l (H.set i (.map b m))):WL P n c ops Q rest l H:=λa w Z ha hw=>h a w Z ha (hw.unmit hi)
theorem St.uncur {Z:Fz}{w:World}(h:St c H Z w)(hi:H[i]? =some (.mit b it m lf cur)):St c (H.set i (.mit b it m lf none)) Z w:=by
 obtain⟨es,ck,seen,since,c0,q1,q2,q3,q4,q5,q6,q7,q8,_⟩:=h.ent hi;exact h.set hi rfl rfl rfl (Y8 _) (λ_ _ _=>rfl) ⟨es,ck,seen,since,c0,q1,q2,q3,q4,q5,q6,q7,q8,trivial⟩ (λk hk=>.inl (by simpa[Ent.foot] using hk))
theorem WK.uncur (hi:H[i]? =some (.mit b it m lf cur))(h:WK n c K l (H.set i (.mit b it m lf none))):WK n c K l H:=λa w Z ha hw=>h a w Z ha (hw.uncur hi)
theorem Vp {dd:Option Nat}{g:Option (Nat×Bool)}(hx:ev l x=some (rv (.pointer (some ⟨it,0,none⟩))))(hi:H[i]? =some (.mit b it m lf (some (k,r)))) :
  AZ P n c l H { dst:=dd,op:=.entry x,type:=ty,pos:=pos,after:=af,guard:=g } (C0 [rS k,r]):=λa w Z ha hw=>by
 obtain⟨es,ck,seen,since,c0,q1,q2,q3,q4,q5,q6,q7,q8,rfl,s0,e,rfl,h1,h2,h3⟩:=hw.ent hi;exact⟨.tuple #[e.key,e.val],⟨[e.key,e.val],rfl,h2,h3,trivial⟩,by simp[execOp,ha.eval hx,run_entry_at w it b since s0 es c0 e q2 q1 h1 q3.2.1]⟩
end
section
variable {P : Program} {n : Nat} {c : Cx} {opsA : Array Oper} {Q : Exit → Act → World → Prop} {l : Fr} {H : List Ent} {d : Nat} {ty : TypeId} {pos : String} {af : Array Edge}
end
section
variable {P : Program} {n : Nat} {c : Cx} {ops : Array Oper} {Q : Exit → Act → World → Prop} {rest : List Oper} {l : Fr} {H H' : List Ent} {d : Nat} {d' : Option Nat} {x y z3 : Operand} {ty t t' e : TypeId} {pos : String} {af : Array Edge} {g : Option (Nat × Bool)} {v u : Value} {r : Rp} {sz : Nat}
end
theorem AN.d1 {Z:Fz}{r0:Rp}{us:List Value}(h:AN Z [r0] us):∃y0,us=[y0]∧AN Z [r0] [y0]:=by
 match us,h.length with
 | [y0],_=>exact⟨_,rfl,h⟩
theorem AN.d2 {Z:Fz}{r0 r1:Rp}{us:List Value}(h:AN Z [r0,r1] us):∃y0 y1,us=[y0,y1]∧AN Z [r0,r1] [y0,y1]:=by
 match us,h.length with
 | [y0,y1],_=>exact⟨_,_,rfl,h⟩
theorem AN.d3 {Z:Fz}{r0 r1 r2:Rp}{us:List Value}(h:AN Z [r0,r1,r2] us):∃y0 y1 y2,us=[y0,y1,y2]∧AN Z [r0,r1,r2] [y0,y1,y2]:=by
 match us,h.length with
 | [y0,y1,y2],_=>exact⟨_,_,_,rfl,h⟩
theorem AN.d5 {Z:Fz}{r0 r1 r2 r3 r4:Rp}{us:List Value}(h:AN Z [r0,r1,r2,r3,r4] us):∃y0 y1 y2 y3 y4,us=[y0,y1,y2,y3,y4]∧AN Z [r0,r1,r2,r3,r4] [y0,y1,y2,y3,y4]:=by
 match us,h.length with
 | [y0,y1,y2,y3,y4],_=>exact⟨_,_,_,_,_,rfl,h⟩
theorem OP {α:Type}{sz:Nat}:∀{xs:List (List α)} (hs:∀c∈xs,c.length=sz) {k:Nat} {cl:List α},xs[k]? =some cl→∀(off m:Nat),off+m≤sz→((xs.flatten).drop (k*sz+off)).take m=(cl.drop off).take m
 | [],_,k,cl,h,_,_,_=>by simp at h
 | x::r,hs,0,cl,h,off,m,hm=>by
  simp at h;subst h;have hx:=hs x (by simp);simp only[List.flatten_cons,Nat.zero_mul,Za];rw[List.drop_append_of_le_length (by omega),List.take_append_of_le_length (by simp;omega)]
 | x::r,hs,k+1,cl,h,off,m,hm=>by
  have hx:=hs x (by simp);simp only[List.flatten_cons];have e:(k+1)*sz+off=x.length+(k*sz+off):=by rw[hx,Nat.succ_mul];omega
  rw[e,List.drop_length_add_append];exact OP (λc hc=>hs c (by simp[hc])) (by simpa using h) off m hm
theorem OQ {α:Type}{sz:Nat}:∀{xs:List (List α)} (hs:∀c∈xs,c.length=sz) {k:Nat} {cl rs:List α},xs[k]? =some cl→∀(off:Nat),off+rs.length≤sz→(xs.set k (cl.take off++rs++cl.drop (off+rs.length))).flatten=xs.flatten.take (k*sz+off)++rs++xs.flatten.drop (k*sz+off+rs.length)
 | [],_,k,cl,rs,h,_,_=>by simp at h
 | x::r,hs,0,cl,rs,h,off,hm=>by
  simp at h;subst h;have hx:=hs x (by simp);simp only[List.set_cons_zero,List.flatten_cons,Nat.zero_mul,Za];rw[List.take_append_of_le_length (by omega),List.drop_append_of_le_length (by omega)];simp[YY]
 | x::r,hs,k+1,cl,rs,h,off,hm=>by
  have hx:=hs x (by simp);simp only[List.set_cons_succ,List.flatten_cons];have e:(k+1)*sz+off=x.length+(k*sz+off):=by rw[hx,Nat.succ_mul];omega
  have e2:x.length+(k*sz+off)+rs.length=x.length+(k*sz+off+rs.length):=by omega
  rw[OQ (λc hc=>hs c (by simp[hc])) (by simpa using h) off hm,e,e2,List.take_length_add_append,List.drop_length_add_append];simp[YY]
section
variable {P : Program} {n : Nat} {c : Cx} {ops : Array Oper} {Q : Exit → Act → World → Prop} {rest : List Oper} {l : Fr} {H H' : List Ent} {d : Nat} {d' : Option Nat} {ty t e rty : TypeId} {pos : String} {af : Array Edge} {g : Option (Nat × Bool)} {x y u : Operand} {v : Value} {sz m : Nat}
theorem Q6 {α:Type}[Inhabited α]{ys:List α}{enc:α→List Rp}{i off:Nat}{j:Int}{rs:List Rp}(hag:∀w,(isAgg t).run P w = .ok true w)(hsz:∀w,(sizeOf t).run P w = .ok m w)(hx:ev l x=some (rv (D6 sz v j.toNat off)))(hi:H[i]? =some (.row v e sz (ys.map enc)))(hg:Dt j (ys.length:Int)=true)
  (hle:Nat.ble (off+m) sz=true) (hr:((enc (Ar ys j)).drop off).take m=rs) :
  AZ P n c l H { dst:=d',op:=.load t x,type:=ty,pos:=pos,after:=af,guard:=g } (Bm rs):=λa w Z ha hw=>by
 obtain⟨hs,us,⟨h1,h2⟩,h3⟩:=hw.ent hi;have h0:=(C6 hg).1;have hlt:j.toNat<ys.length:=by have:=(C6 hg).2;omega
 have eat:Ar ys j=ys[j.toNat]:=by simp[Ar,hlt]
 have hle':off+m≤sz:=by simpa using hle
 have hcl:(ys.map enc)[j.toNat]? =some (enc ys[j.toNat]):=by simp[hlt]
 have hcz:(enc ys[j.toNat]).length=sz:=hs _ (Y6 hcl);have hseg:=OP hs hcl off m hle';rw[← eat,hr] at hseg;have h4:=(h3.drop (j.toNat*sz+off)).take m;rw[hseg] at h4;have hrl:rs.length=m:=by rw[← hr,eat];simp;omega
 rcases h2 with⟨rfl,hz⟩ | ⟨b,cap,cur,rfl,_,hg',hcap,hm,hcs,htk⟩
 ·simp at hz;subst hz;simp at hlt
 ·have h5:=run_loadCells_list (P:=P) w ⟨b,j.toNat*sz+off,none⟩ ((us.drop (j.toNat*sz+off)).take m) (λq w' hq=>by
   rw[Hn,cell_of_row w b _ cur e (0,0) hg'];rw[YR] at hq
   split at hq
   ·rw[List.getElem?_drop,← htk,YR] at hq
    split at hq
    ·simpa using hq
    ·cases hq
   ·cases hq)
  rw[h4.length,hrl] at h5;exact⟨.agg ((us.drop (j.toNat*sz+off)).take m).toArray,⟨_,rfl,h4⟩,by simp[execOp,ha.eval hx,D6,Instr.loadAt,Instr.sureAddr,loadVar,hag,hsz,h5]⟩
theorem UR {α:Type}[Inhabited α]{ys:List α}{enc:α→List Rp}{i off:Nat}{j:Int}{rs:List Rp}{y':α}(hsz:∀w,(sizeOf t).run P w = .ok m w)(hx:ev l x=some (rv (D6 sz v j.toNat off)))(hy:ev l y=some (Bm rs))(hv:BI H rs)(hi:H[i]? =some (.row v e sz (ys.map enc)))(hg:Dt j (ys.length:Int)=true)
  (hl:rs.length=m) (hy':(enc (Ar ys j)).take off++rs++(enc (Ar ys j)).drop (off+m)=enc y') (hle:Nat.ble (off+m) sz=true) (hH:H.set i (.row v e sz ((ys.set j.toNat y').map enc))=H') (h:WL P n c ops Q rest l H') :
  WL P n c ops Q ({ dst:=none,op:=.store t x y,type:=ty,pos:=pos,after:=af,guard:=none }::rest) l H:=
 Nn λa w Z ha hw=>by
  obtain⟨hs,us,⟨h1,h2⟩,h3⟩:=hw.ent hi;have h0:=(C6 hg).1;have hlj:j.toNat<ys.length:=by have:=(C6 hg).2;omega
  have hle':off+m≤sz:=by simpa using hle
  have eat:Ar ys j=ys[j.toNat]:=by simp[Ar,hlj]
  obtain⟨vs,e1,h4⟩:=ha.ev hy;have hvl:=h4.length;have hone:∀v∈vs,v.oneCell'=true:=λv hv'=>hv.at hw h4 v hv';have hcl:(ys.map enc)[j.toNat]? =some (enc ys[j.toNat]):=by simp[hlj]
  have hcz:(enc ys[j.toNat]).length=sz:=hs _ (Y6 hcl);rcases h2 with⟨rfl,hz⟩ | ⟨b,cap,cur,rfl,_,hg',hcap,hm,hcs,htk⟩
  ·simp at hz;subst hz;simp at hlj
  ·simp only[Y4] at h1 hcap htk;have hin:j.toNat*sz+off+m≤ys.length*sz:=by
    have:(j.toNat+1)*sz≤ys.length*sz:=Nat.mul_le_mul_right _ hlj;rw[Nat.succ_mul] at this;omega
   have hlc:j.toNat*sz+off+m≤cur.size:=by
    have:ys.length*sz≤cap*sz:=Nat.mul_le_mul_right _ hcap;omega
   have hvm:vs.length=m:=by omega
   have h5:=run_storeCells_at P b (j.toNat*sz+off) e vs 0 cur w hg' (by omega) hone;simp only[Nat.add_zero] at h5;have hset:((ys.set j.toNat y').map enc).flatten=(ys.map enc).flatten.take (j.toNat*sz+off)++rs++(ys.map enc).flatten.drop (j.toNat*sz+off+m):=by
    have:=OQ hs hcl (rs:=rs) off (by omega);rw[hl] at this;rw[← this,List.map_set,← hy',eat]
   refine⟨w.setRow b (cur.toList.take (j.toNat*sz+off)++vs++cur.toList.drop (j.toNat*sz+off+vs.length)).toArray,H',?_,?_,h⟩
   ·simp only[YY] at h5 ⊢;rw[hvm] at h5 ⊢;simp[execOp,ha.eval hx,e1,D6,Instr.storeAt,Instr.sureAddr,storeVar,hsz,Value.cells,hvm,h5]
   ·subst hH;refine hw.set hi rfl rfl rfl (by simp[World.setRow]) (λk _ hk=>?_) ⟨?_,us.take (j.toNat*sz+off)++vs++us.drop (j.toNat*sz+off+m),⟨?_,.inr ⟨b,cap,_,by simp,YU _,setRow_heap w b cur _ e (0,0) hg',by simpa using hcap,hm,?_,?_⟩⟩,?_⟩ (by simp[Ent.foot,Value.ownBlock])
    ·simp only[Ent.foot,Value.ownBlock,Option.mem_toList,Option.mem_def,Option.some.injEq] at hk;simp only[World.setRow,Array.getElem?_modify];rw[YW hk]
    ·intro cl hcl';rw[List.map_set] at hcl';rcases List.mem_or_eq_of_mem_set hcl' with h' | rfl
     ·exact hs cl h'
     ·rw[← hy',eat];simp;omega
    ·simp;omega
    ·simp;omega
    ·have hu1:us.take (j.toNat*sz+off)=cur.toList.take (j.toNat*sz+off):=by rw[← htk,List.take_take,Nat.min_eq_left (by omega)]
     have hu2:us.drop (j.toNat*sz+off+m)=(cur.toList.drop (j.toNat*sz+off+m)).take (ys.length*sz-(j.toNat*sz+off+m)):=by rw[← htk,List.drop_take]
     rw[hu1,hu2,Y4,List.length_set,hvm];have e2:(List.take (j.toNat*sz+off) cur.toList++vs).length=j.toNat*sz+off+m:=by simp;omega
     have e3:ys.length*sz=(List.take (j.toNat*sz+off) cur.toList++vs).length+(ys.length*sz-(j.toNat*sz+off+m)):=by rw[e2];omega
     conv=>lhs;rw[show ys.length*sz=(List.take (j.toNat*sz+off) cur.toList++vs).length+(ys.length*sz-(j.toNat*sz+off+m)) from e3]
     rw[List.take_length_add_append]
    ·rw[hset];exact((h3.take _).append h4).append (h3.drop _)
def L5 (sz:Nat)(v:Value)(j:Nat):Value:=match v with
 | .slice A len cap=>.slice (if cap=j then A else A.map (·.add (j*sz))) (len-j) (cap-j)
 | v=>v
theorem Wt {α:Type}{ys:List α}{enc:α→List Rp}{i:Nat}{k:IntKind}{j:Int}(ht:P.underlying t=some (.slice e))(hz:∀w,(sizeOf e).run P w = .ok sz w)(hx:ev l x=some (rv v))(hy:ev l y=some (rI k j))(hi:H[i]? =some (.row v e sz (ys.map enc)))(hg:HJ j (ys.length:Int)=true) :
  AZ P n c l H { dst:=d',op:=.slice t x (some y) none none,type:=ty,pos:=pos,after:=af,guard:=g } (rv (L5 sz v j.toNat)):=λa w Z ha hw=>C3<|by
 obtain⟨h0,us,⟨h1,h2⟩,h3⟩:=hw.ent hi;have g0:=(Ch hg).1;have g1:=(Ch hg).2;rcases h2 with⟨rfl,hz0⟩ | ⟨b,cap,cur,rfl,_,hb,hcap,hm,hcs,htk⟩
 ·simp at hz0;subst hz0;obtain rfl:j=0:=by simp at g1;omega
  simp[execOp,ha.eval hx,ha.eval hy,Instr.sliceAt,Instr.slice,run_underlying ht,Instr.sliceBounds,Bd (m:=0) _ _ (YQ 0) (YQ 0),hz,L5]
 ·simp only[Y4] at h1 hcap htk;simp[execOp,ha.eval hx,ha.eval hy,Instr.sliceAt,Instr.slice,run_underlying ht,Instr.sliceBounds,Bd (m:=ys.length) _ _ g0 g1,hz,L5]
theorem Mi (zc:List Value)(hz:0<zc.length):∀k,(Builtin.zeroCells zc.toArray k).toList=(List.replicate k zc).flatten:=by
 intro k;have hl:((List.replicate k zc).flatten).length=k*zc.length:=by simp
 apply List.ext_getElem
 ·simp[Builtin.zeroCells]
 ·intro i h1 h2;have hi:i<k*zc.length:=by rw[← hl];exact h2
  have hm:i % zc.length<zc.length:=Nat.mod_lt _ hz;have hq:i/zc.length<k:=by rw[Nat.div_lt_iff_lt_mul hz];exact hi
  have e1:(Builtin.zeroCells zc.toArray k).toList[i]=zc[i % zc.length]:=by
   simp[Builtin.zeroCells,hm]
  have e2:=GU (sz:=zc.length) (vs:=List.replicate k zc) (λc hc=>by rw[List.eq_of_mem_replicate hc]) (i:=i/zc.length) (c:=zc) (by simp[hq]) (j:=i % zc.length) (u:=zc[i % zc.length]) (by simp[hm]);have e3:i/zc.length*zc.length+i % zc.length=i:=Nat.div_add_mod' i zc.length;rw[e3] at e2;rw[e1];exact(Option.some.inj ((Y1 h2).symm.trans e2)).symm
theorem Nq {α:Type}{ys:List α}{enc:α→List Rp}{i:Nat}{j:Int}{z0:α}{zz:Value}{zc:List Value}(ht:P.underlying t=some (.slice e))(hzv:∀w,(zeroValue e).run P w = .ok zz w)(hzz:zz.cells.toList=zc)(hzl:zc.length=sz)(hsz:Nat.blt 0 sz=true)(hone:∀v∈zc,v.oneCell'=true)(hzr:∀Z,AN Z (enc z0) zc)(hel:(enc z0).length=sz)
  (hx:ev l x=some (rv (L5 sz v j.toNat))) (hi:H[i]? =some (.row v e sz (ys.map enc))) (hg:HJ j (ys.length:Int)=true) (hH:H.set i (.row v e sz ((ys.take j.toNat++List.replicate (ys.length-j.toNat) z0).map enc))=H') (h:WL P n c ops Q rest l H') :
  WL P n c ops Q ({ dst:=none,op:=.call { callee:=.builtin .clear,args:=#[x],argTypes:=#[t] },type:=ty,pos:=pos,after:=af,guard:=none }::rest) l H:=
 VO (λa w Z ha hw=>by
  obtain⟨h0,us,⟨h1,h2⟩,h3⟩:=hw.ent hi;have g0:=(Ch hg).1;have g1:=(Ch hg).2;subst hH;have hz0:0<sz:=by simpa using hsz
  have hcells:zz.cells=zc.toArray:=by rw[← hzz]
  rcases h2 with⟨rfl,hz1⟩ | ⟨b,cap,cur,rfl,_,hb,hcap,hm,hcs,htk⟩
  ·simp at hz1;subst hz1;refine⟨.tuple #[],w,_,?_,hw.set (e':=.row (.slice none 0 0) e sz ((([]:List α).take j.toNat++List.replicate (([]:List α).length-j.toNat) z0).map enc)) hi rfl rfl rfl (Y8 _) (λ_ _ _=>rfl) ⟨by simp,[],⟨by simp,.inl ⟨rfl,by simp⟩⟩,by simp[AN]⟩ (by simp[Ent.foot,Value.ownBlock]),h⟩
   ·have e0:L5 sz (.slice none 0 0) j.toNat = .slice none 0 0:=by simp[L5]
    simp[execOp,resolve,invoke,builtin,ha.eval hx,e0,Builtin.clear_,run_underlying ht]
  ·simp only[Y4] at h1 hcap htk;have hjl:j.toNat≤ys.length:=by omega
   by_cases hjn:ys.length=j.toNat
   ·refine⟨.tuple #[],w,_,?_,?_,h⟩
    ·have hn0:ys.length-j.toNat=0:=by omega
     simp only[execOp,resolve,invoke,builtin,ha.eval hx,L5,hn0]
     by_cases hc:cap=j.toNat
     ·simp[ha.eval hx,L5,hn0,hc,Builtin.clear_,run_underlying ht]
     ·simp[ha.eval hx,L5,hn0,hc,Builtin.clear_,run_underlying ht]
    ·have e0:ys.take j.toNat++List.replicate (ys.length-j.toNat) z0=ys:=by rw[← hjn];simp
     rw[e0];have:H.set i (.row (.slice (some ⟨b,0,none⟩) (ys.map enc).length cap) e sz (ys.map enc))=H:=by
      obtain⟨hl,he⟩:=List.getElem?_eq_some_iff.1 hi;rw[← he,List.set_getElem_self]
     rw[this];exact hw
   ·have hc : ¬ cap=j.toNat:=by omega
    obtain⟨q,hq⟩:∃q,ys.length-j.toNat=q+1:=⟨ys.length-j.toNat-1,by omega⟩
    have hin:j.toNat*sz+(q+1)*sz=ys.length*sz:=by rw[← Nat.add_mul];congr 1;omega
    have hlen:((List.replicate (q+1) zc).flatten).length=(q+1)*sz:=by simp[hzl]
    have hcc:ys.length*sz≤cap*sz:=Nat.mul_le_mul_right _ hcap;have h5:=run_storeCells_at P b (j.toNat*sz) e ((List.replicate (q+1) zc).flatten) 0 cur w hb (by rw[hlen];omega) (λv hv=>by
     obtain⟨cl,hcl,hv'⟩:=List.mem_flatten.1 hv;rw[List.eq_of_mem_replicate hcl] at hv';exact hone v hv')
    simp only[Nat.add_zero] at h5;rw[hlen,hin] at h5;refine⟨.tuple #[],w.setRow b (cur.toList.take (j.toNat*sz)++(List.replicate (q+1) zc).flatten++cur.toList.drop (ys.length*sz)).toArray,_,?_,?_,h⟩
    ·have hzc:=Mi zc (by omega) (q+1);have e1:(a.eval x) = .slice (some ⟨b,j.toNat*sz,none⟩) (q+1) (cap-j.toNat):=by
      rw[ha.eval hx];simp[L5,hc,hq,Hn]
     simp[execOp,resolve,invoke,builtin,e1,Builtin.clear_,run_underlying ht,hzv,hcells,hzc,h5]
    ·refine hw.set hi rfl rfl rfl (by simp[World.setRow]) (λk _ hk=>?_) ⟨?_,us.take (j.toNat*sz)++(List.replicate (q+1) zc).flatten,⟨?_,.inr ⟨b,cap,_,?_,YU _,setRow_heap w b cur _ e (0,0) hb,?_,hm,?_,?_⟩⟩,?_⟩ (by simp[Ent.foot,Value.ownBlock])
     ·simp only[Ent.foot,Value.ownBlock,Option.mem_toList,Option.mem_def,Option.some.injEq] at hk;simp only[World.setRow,Array.getElem?_modify];rw[YW hk]
     ·intro cl hcl;rw[Zn] at hcl;rcases List.mem_append.1 hcl with h' | h'
      ·rw[List.map_take] at h';exact h0 cl (List.mem_of_mem_take h')
      ·rw[List.map_replicate] at h';rw[List.eq_of_mem_replicate h'];exact hel
     ·rw[Yz,hlen];simp[Nat.min_eq_left hjl,h1,hq];have:j.toNat*sz≤ys.length*sz:=Nat.mul_le_mul_right _ hjl
      first | rw[← Nat.add_mul] | (rw[Nat.min_eq_left this,← Nat.add_mul])
     ·simp[Nat.min_eq_left hjl];omega
     ·simp;omega
     ·have:j.toNat*sz≤ys.length*sz:=Nat.mul_le_mul_right _ hjl;rw[List.size_toArray,Yz,Yz,hlen,List.length_take,List.length_drop,Array.length_toList,Nat.min_eq_left (by omega)];omega
     ·have:j.toNat*sz≤ys.length*sz:=Nat.mul_le_mul_right _ hjl;have e2:((ys.take j.toNat++List.replicate (ys.length-j.toNat) z0).map enc).length*sz=(cur.toList.take (j.toNat*sz)++(List.replicate (q+1) zc).flatten).length:=by
       rw[Yz,hlen];simp[Nat.min_eq_left hjl,hq];rw[Nat.min_eq_left (by omega),← Nat.add_mul]
      rw[e2,List.take_left' rfl]
      congr 1
      rw[← htk,List.take_take,Nat.min_eq_left this]
     ·rw[Zn,List.flatten_append,List.map_take,List.map_replicate,hq];refine AN.append ?_ ?_
      ·have:((ys.map enc).take j.toNat).flatten=(ys.map enc).flatten.take (j.toNat*sz):=by
        clear h3 h1 htk hcs hcap g1 hi hw h5 hin hcc hlen hjn hc hq hjl hm hb;generalize ys.map enc=zs at h0;have key:∀(zs:List (List Rp)) (k:Nat),(∀c∈zs,c.length=sz)→(zs.take k).flatten=zs.flatten.take (k*sz):=by
         intro zs
         induction zs with
         | nil=>intro k _;simp
         | cons z zs ih=>
          intro k hk
          cases k with
          | zero=>simp
          | succ k=>
           have hzl:=hk z (by simp);simp only[List.take_succ_cons,List.flatten_cons];rw[ih k (λc hc=>hk c (by simp[hc]))];have e1:(k+1)*sz=z.length+k*sz:=by rw[hzl,Nat.succ_mul];omega
           rw[e1,List.take_length_add_append]
        exact key zs _ h0
       rw[this];exact h3.take _
      ·clear h5 hin hlen hq;generalize q+1=k
       induction k with
       | zero=>exact trivial
       | succ k ih=>rw[List.replicate_succ,List.replicate_succ,List.flatten_cons,List.flatten_cons];exact(hzr Z).append ih)
end
end Go.Proofs.YtmmbdclkpijkpaaGreatDoor.Q
namespace Go.Proofs.YtmmbdclkpijkpaaGreatDoor
open Go
def KA (k:IntKind)(x y:Int):Int:=k.wrap ((BitVec.ofInt k.bits x||| BitVec.ofInt k.bits y).toNat:Int)
def Eu (k:IntKind)(x n:Int):Int:=k.wrap (x*2 ^ (min n.toNat k.bits))
def IU (k:IntKind)(x n:Int):Int:=x.fdiv (2 ^ (min n.toNat k.bits))
end Go.Proofs.YtmmbdclkpijkpaaGreatDoor
namespace Go.Proofs.YtmmbdclkpijkpaaGreatDoor.Q
open Go Go.RowKit
set_option linter.unusedVariables false
set_option linter.unusedSimpArgs false
section
variable {P : Program} {n : Nat} {c : Cx} {Q : Exit → Act → World → Prop} {l : Fr} {H : List Ent} {x rest' : Code} {K : Act → World → Prop}
theorem HW {lb:Nat}(h:WK n c (Q (.goto lb)) l H):WC P n c (.goto lb) Q l H:=λa w Z ha hw=>wp_goto (h a w Z ha hw)
theorem B3 {lb:Nat}(h:WK n c (Q (.goto lb)) l H):WK n c (Exit.then K Q (.goto lb)) l H:=h
theorem Ew {id lb:Nat}(h:WK n c (Q (.goto lb)) l H):WK n c (Exit.inBlock id Q (.goto lb)) l H:=h
theorem H3 {id lb:Nat}(h:WK n c (Q (.goto lb)) l H):WK n c (Ur id K Q (.goto lb)) l H:=h
theorem UJ {lb:Nat}(h:WK n c (Q .ret) l H):WK n c (Exit.jump lb K Q .ret) l H:=h
theorem HU {lb:Nat}(h:WK n c K l H):WK n c (Exit.jump lb K Q (.goto lb)) l H:=λa w Z ha hw=>⟨rfl,h a w Z ha hw⟩
theorem Mm {S:Type}(lb:Nat)(inv:S→Prop)(fr:S→Fr)(hp:S→List Ent)(hf:findLabel x lb=some rest')
  (h1:WC P n c x (Exit.jump lb (Gy n c inv fr hp) Q) l H) (h2:∀s,inv s→WC P n c rest' (Exit.noGoto Q) (fr s) (hp s)):WC P n c (.scope x) Q l H:=λa w Z ha hw=>
 wp_scope_jumps lb (Gy n c inv fr hp) (λ_ _=>0) hf (h1 a w Z ha hw) (by
  rintro a w ⟨s,Z,hi,ha,hw⟩;refine wp_mono (h2 s hi a w Z ha hw) λe a w q=>?_
  cases e with
  | goto _=>exact q.elim
  | _=>exact q)
end
section
variable {P : Program} {n : Nat} {c : Cx} {ops : Array Oper} {Q : Exit → Act → World → Prop} {rest : List Oper} {l : Fr} {H H' : List Ent} {d : Nat} {d' : Option Nat} {x y z3 z4 : Operand} {ty t t' e : TypeId} {pos : String} {af : Array Edge} {g : Option (Nat × Bool)} {v u : Value} {r : Rp} {sz : Nat}
theorem O1 {α:Type}{ys:List α}{enc:α→List Rp}{k' k'':IntKind}{j:Int}(ht:P.underlying t=some (.slice e))(hz:∀w,(sizeOf e).run P w = .ok sz w)(h:ev l x=some (Bz sz (ys.map enc)))(hj:ev l z3=some (rI k' j))(hm:ev l z4=some (rI k'' j))(hg2:HJ j (ys.length:Int)=true) :
  AZ P n c l H { dst:=d',op:=.slice t x none (some z3) (some z4),type:=ty,pos:=pos,after:=af,guard:=g } (Bz sz ((ys.take j.toNat).map enc)):=λa w Z ha hw=>by
 obtain⟨A,cap,e1,hc1,hc2,hA,hc⟩:=ha.ev h;have h0:=(Ch hg2).1;have h2:=(Ch hg2).2;simp only[Y4] at e1 hc1;have h3:j≤(cap:Int):=by omega
 refine⟨.slice A j.toNat j.toNat,⟨A,j.toNat,?_,?_,by omega,?_,λq cl hq=>?_⟩,?_⟩
 ·congr 1
  simp;omega
 ·simp;omega
 ·intro hn;have:=hA hn;omega
 ·rw[YX,YR] at hq
  split at hq
  ·exact hc q cl (by rw[YX];exact hq)
  ·cases hq
 ·have hA':A.map (λb=>b.add 0)=A:=by
   cases A with
   | none=>rfl
   | some ad=>obtain⟨b,o,sp⟩:=ad;cases sp<;>rfl
  simp[execOp,e1,ha.eval hj,ha.eval hm,Instr.sliceAt,Instr.slice,run_underlying ht,Instr.sliceBounds,Bd (m:=cap) _ _ h0 h3,Bd (m:=j.toNat) _ _ h0 (by omega),hz]
  try (intro _;cases A<;>rfl)
theorem Vo {i:Nat}{rs:List Rp}{fs:Array Field}{f:Field}(hu:P.underlying t=some (.struct fs))(hf:fs[i]? =some f)(hag:∀w,(isAgg f.type).run P w = .ok false w)(hx:ev l x=some (Bm rs))(hr:rs[f.offset]? =some r) :
  AZ P n c l H { dst:=d',op:=.field t x i,type:=ty,pos:=pos,after:=af,guard:=g } r:=λa w Z ha hw=>by
 obtain⟨us,e1,hus⟩:=ha.ev hx;obtain⟨v,hv,hp⟩:=hus.at hr;exact⟨v,hp,by simp[execOp,e1,Instr.field,run_underlying hu,hf,asAgg,part,hag,hv]⟩
end
structure Sx (U:Type) where
 deps:List Nat
 r:U→Rp
 dyn:Bool:=false
 old:List Nat:=[]
def G9 {U:Type}(sp:List (Sx U))(i:Nat):Sx U:=sp.getD i { deps:=[],r:=λ_=>rv undef }
def U8 {U:Type}(sp:List (Sx U))(u:U):List Sp:=sp.map λs=>⟨s.deps,s.r u,0⟩
def Xb {U:Type}(sp:List (Sx U))(u:U):List Sa:=sp.map λs=>{ deps:=s.deps,r:=s.r u }
def Mf {U:Type}:List (Sx U)→Prop
 | []=>True
 | s::r=>(s.dyn=false→∀u u',s.r u=s.r u')∧Mf r
theorem Mf.at {U:Type}:∀{sp:List (Sx U)},Mf sp→∀{i:Nat} {s:Sx U},sp[i]? =some s→s.dyn=false→∀u u',s.r u=s.r u'
 | [],_,i,s,h=>by simp at h
 | x::sp,⟨h1,h2⟩,0,s,h=>by simp at h;subst h;exact h1
 | x::sp,⟨h1,h2⟩,i+1,s,h=>Mf.at h2 (by simpa using h)
theorem XK {U:Type}{ds os:List Nat}{r:Rp}{sp:List (Sx U)}(h:Mf sp):Mf ({ deps:=ds,r:=λ_=>r,old:=os }::sp):=⟨λ_ _ _=>rfl,h⟩
theorem XJ {U:Type}{ds os:List Nat}{r:U→Rp}{sp:List (Sx U)}(h:Mf sp):Mf ({ deps:=ds,r:=r,dyn:=true,old:=os }::sp):=⟨λh'=>(by cases h'),h⟩
def Gj (lw:Fr):List Nat→Fr→Fr
 | [],l=>l
 | d::r,l=>match look lw d with
  | some q=>(d,q)::Gj lw r l
  | none=>Gj lw r l
theorem QV {n:Nat}{lw l:Fr}{a:Act}{Z:Fz}(h0:Cz n l a Z):∀{ds:List Nat},(∀d∈ds,∀q,look lw d=some q→∃v,a.tmps[d]? =some v∧q.p Z v)→Cz n (Gj lw ds l) a Z
 | [],_=>h0
 | d::ds,h=>by
  have ih:=QV h0 (ds:=ds) (λd' hd'=>h d' (by simp[hd']));unfold Gj
  cases hd:look lw d with
  | none=>exact ih
  | some q=>
   refine⟨ih.size,ih.defers,λi r hi=>?_⟩;rw[BU] at hi
   split at hi
   ·rename_i e;subst e;simp at hi;subst hi;exact h d (by simp) q hd
   ·exact ih.tm i r hi
theorem XI {U:Type}:Mf ([]:List (Sx U)):=trivial
def XN (n:Nat)(ops:List Oper)(N i0:Nat)(keys:List Nat)(deps:List (List Nat))(dyns:List Bool)(olds:List (List Nat)):Bool:=
 NH ops N&&decide (N≤ops.length)&&decide (i0<N)&&
 (List.range N).all (λi=>match Cd ops i with
  | some d=>decide (d<n)&&!keys.contains d&&(List.range N).all (λj=>j ==i||Cd ops j !=some d)
  | none=>true)&&
 (List.range N).all (λi=>(deps.getD i []).all (λj=>decide (j<N)&&(Eg (ops.getD i default)).contains j))&&
 (List.range N).all (λi=>!dyns.getD i false||i ==i0||(Eg (ops.getD i default)).any (λe=>decide (e<N)&&(e ==i0||dyns.getD e false)))&&
 (List.range N).all (λi=>(olds.getD i []).all (λd=>(List.range N).all (λw=>Cd ops w !=some d||(Eg (ops.getD w default)).contains i)))
section
variable (P : Program) (n : Nat) (c : Cx) (opsA : Array Oper) (Q : Exit → Act → World → Prop)
def XC {U:Type}(l:Fr)(H:List Ent)(o:Oper)(r:U→Rp)(H1:U→List Ent):Prop:=
 ∀a w Z (K:Act→World→Prop),Cz n l a Z→St c H Z w→(∀u v w' Z',Fz.le Z Z'→(r u).p Z' v→St c (H1 u) Z' w'→K (a.put o.dst v) w')→
  Region.wanted o (yielded opsA a.tmps)=true∧o.wp P a w K Q
def Kt {U:Type}(ops:List Oper)(sp:List (Sx U))(l0 lw:Fr)(i0:Nat)(H:List Ent)(H1:U→List Ent):Nat→List Oper→Prop
 | i,o::rest=>(if i=i0 then(∀u,XC P n c opsA Q (Gj lw (G9 sp i).old (B9 ops (U8 sp u) (G9 sp i).deps l0)) H o (G9 sp i).r H1) else ∀u H,DR P n c opsA Q (Gj lw (G9 sp i).old (B9 ops (U8 sp u) (G9 sp i).deps l0)) H o ((G9 sp i).r u) H)∧Kt ops sp l0 lw i0 H H1 (i+1) rest
 | _,[]=>True
end
section
variable {P : Program} {n : Nat} {c : Cx} {opsA : Array Oper} {Q : Exit → Act → World → Prop} {l l0 lw : Fr} {U : Type} {H : List Ent} {H1 : U → List Ent} {sp : List (Sx U)} {i0 : Nat}
theorem Kt.at {ops:List Oper}:∀{k:Nat} {rest:List Oper},Kt P n c opsA Q ops sp l0 lw i0 H H1 k rest→∀(t:Nat) o,rest[t]? =some o→
  (if k+t=i0 then(∀u,XC P n c opsA Q (Gj lw (G9 sp (k+t)).old (B9 ops (U8 sp u) (G9 sp (k+t)).deps l0)) H o (G9 sp (k+t)).r H1) else ∀u H,DR P n c opsA Q (Gj lw (G9 sp (k+t)).old (B9 ops (U8 sp u) (G9 sp (k+t)).deps l0)) H o ((G9 sp (k+t)).r u) H)
 | k,o::rest,⟨h1,h2⟩,t,o',ht=>by
  cases t with
  | zero=>simp at ht;subst ht;exact h1
  | succ t=>
   have:=Kt.at h2 t o' (by simpa using ht);rw[show k+(t+1)=k+1+t from by omega];exact this
 | _,[],_,t,o,h=>by simp at h
theorem UK {id:Nat}{ops:List Oper}[Inhabited U](N i0:Nat)(sp:List (Sx U))(hm:P.follows .mixedOrders=true)(hB:XN n ops N i0 (En l0) (sp.map (·.deps)) (sp.map (·.dyn)) (sp.map (·.old))=true)(hl0:Sw l0 l)(hlw:Sw lw l)(hsp:sp.length=N)(hst:Mf sp)
  (hob:Kt P n c ops.toArray Q ops sp l0 lw i0 H H1 0 (ops.take N)) (h:∀u,WL P n c ops.toArray Q (ops.drop N) (KF (λ_=>0) (ops.take N) (Xb sp u) 0 l0) (H1 u)):WC P n c (.region id ops.toArray true) Q l H:=by
 intro a w Z ha hw;simp only[XN,Yv,YL,List.mem_range,Yq] at hB;obtain⟨⟨⟨⟨⟨⟨b1,bN⟩,b0⟩,b2⟩,b3⟩,b4⟩,b5⟩:=hB;have hget:∀i,i<N→(ops.take N)[i]? =ops[i]?:=λi hi=>by rw[YR,Zd hi]
 have hsa:∀i,i<N→sp[i]? =some (G9 sp i):=λi hi=>by
  simp[G9,Y2,Y1 (show i<sp.length by omega)]
 have hspq:∀u i,i<N→(Db (U8 sp u) i)=⟨(G9 sp i).deps,(G9 sp i).r u,0⟩:=λu i hi=>by
  simp[Db,U8,Y2,YX,hsa i hi]
 have hdyn:∀j,j<N→(sp.map (·.dyn)).getD j false=(G9 sp j).dyn:=λj hj=>by simp[Y2,YX,hsa j hj]
 have hdep:∀j,j<N→(sp.map (·.deps)).getD j []=(G9 sp j).deps:=λj hj=>by simp[Y2,YX,hsa j hj]
 have hops:∀j,j<N→∃o,ops[j]? =some o:=λj hj=>⟨ops[j]'(by omega),Y1 (by omega)⟩
 have hdst:∀i o d,i<N→ops[i]? =some o→o.dst=some d→(d<n∧d ∉ En l0)∧∀j,j<N→j≠i→Cd ops j≠some d:=λi o d hi ho hd=>by
  have h3:=b2 i hi;have:Cd ops i=some d:=by simp[Cd,ho,hd]
  rw[this] at h3;simp only[Yv,YC,YL,List.mem_range,Yq] at h3;refine⟨⟨h3.1.1,λhmem=>by rw[← List.contains_iff_mem] at hmem;rw[hmem] at h3;cases h3.1.2⟩,λj hj hne he=>?_⟩;have:=h3.2 j hj;simp[hne,he] at this
 refine SG (N:=N) hm b1 bN (λS a w=>∃ (u:U) (Z:Fz),St c (if S i0=true then H1 u else H) Z w∧Cz n l0 a Z∧(∀j o d,j<N→S j=true→ops[j]? =some o→o.dst=some d→∃v,a.tmps[d]? =some v∧((G9 sp j).r u).p Z v)∧
   (∀j,j<N→(G9 sp j).dyn=true→S j=true→S i0=true)∧
   (∀d q,look lw d=some q→(∀wr,wr<N→Cd ops wr=some d→S wr=false)→∃v,a.tmps[d]? =some v∧q.p Z v)∧
   ∀wr i d,wr<N→i<N→Cd ops wr=some d→d∈(G9 sp i).old→S wr=true→S i=true)
  (λS S' a w hS hI=>?_) ⟨default,Z,?_,ha.subL hl0,λj o d _ hS=>(by cases hS),λj _ _ hS=>(by cases hS),λd q hd _=>(ha.subL hlw).tm d q hd,λwr i d _ _ _ _ hS=>(by cases hS)⟩ (λS i o a w hi hun ho hb hI K hK=>?_) (λa w hI=>?_)
 ·obtain⟨u,Z,h1,h2,h3,h4,h5,h6⟩:=hI;refine⟨u,Z,?_,h2,λj o d hj hS'=>h3 j o d hj (by rw[hS j hj];exact hS'),λj hj hd hSj=>?_,λd q hd hw'=>h5 d q hd (λwr hwr hdw=>by rw[hS wr hwr];exact hw' wr hwr hdw),λwr i d hwr hi hdw hold hSw=>by rw[← hS i hi];exact h6 wr i d hwr hi hdw hold (by rw[hS wr hwr];exact hSw)⟩
  ·rw[← hS i0 b0];exact h1
  ·rw[← hS i0 b0];exact h4 j hj hd (by rw[hS j hj];exact hSj)
 ·exact hw.drawn _
 ·obtain⟨u,Z,h1,h2,h3,hx,ho5,ho6⟩:=hI;have hput:∀k u v,a.tmps[k]? =some u→o.dst≠some k→(a.put o.dst v).tmps[k]? =some u:=λk u v hk hne=>by
   cases hd:o.dst with
   | none=>simpa[Act.put] using hk
   | some d=>
    simp only[Act.put,Array.getElem?_setIfInBounds];rw[YW (λe=>hne (by rw[hd,e]))];exact hk
  have hagr:∀v Z',Fz.le Z Z'→Cz n l0 (a.put o.dst v) Z':=λv Z' hz=>by
   refine⟨?_,?_,λk r hk=>?_⟩
   ·cases o.dst<;>simp[Act.put,h2.size]
   ·cases o.dst<;>simp[Act.put,h2.defers]
   ·obtain⟨u,hu,hpu⟩:=h2.tm k r hk;exact⟨u,hput k u v hu (λe=>((hdst i o k hi ho e).1).2 (JB hk)),r.mono hz hpu⟩
  have hvals:∀(v:Value) (Z':Fz) (u':U),Fz.le Z Z'→(∀j,j<N→j≠i→S j=true→(G9 sp j).r u'=(G9 sp j).r u)→(o.dst≠none→((G9 sp i).r u').p Z' v)→∀j o' d,j<N→(j ==i||S j)=true→ops[j]? =some o'→o'.dst=some d→∃q,(a.put o.dst v).tmps[d]? =some q∧((G9 sp j).r u').p Z' q:=by
   intro v Z' u' hz hβ hp j o' d hj hS' ho' hd
   by_cases hji:j=i
   ·subst hji;rw[ho] at ho';simp at ho';subst ho';refine⟨v,?_,hp (by simp[hd])⟩;have hdn:d<a.tmps.size:=by rw[h2.size];exact(hdst j o d hi ho hd).1.1
    simp[Act.put,hd,hdn]
   ·have hSj:S j=true:=by simpa[hji] using hS'
    obtain⟨q,hu,hpu⟩:=h3 j o' d hj hSj ho' hd;refine⟨q,hput d q v hu (λe=>(hdst i o d hi ho e).2 j hj hji (by simp[Cd,ho',hd])),?_⟩;rw[hβ j hj hji hSj];exact((G9 sp j).r u).mono hz hpu
  have hat:=hob.at i o (by rw[hget i hi];exact ho);rw[Za] at hat;have hold':∀Z',Fz.le Z Z'→∀v d q,look lw d=some q→(∀wr,wr<N→Cd ops wr=some d→(wr ==i||S wr)=false)→∃v',(a.put o.dst v).tmps[d]? =some v'∧q.p Z' v':=λZ' hz v d q hd hw'=>by
   obtain⟨v',e1,e2⟩:=ho5 d q hd (λwr hwr hdw=>by have:=hw' wr hwr hdw;simp only[YM] at this;exact this.2);refine⟨v',hput d v' v e1 (λe=>?_),q.mono hz e2⟩;have:=hw' i hi (by simp[Cd,ho,e]);simp at this
  have hord:∀wr k d,wr<N→k<N→Cd ops wr=some d→d∈(G9 sp k).old→(wr ==i||S wr)=true→(k ==i||S k)=true:=λwr k d hwr hk hdw hmem hSw=>by
   by_cases hwi:wr=i
   ·subst hwi;have h7:=b5 k hk d (by simpa[Y2,YX,hsa k hk] using hmem) wr hwr;simp only[YZ,bne_iff_ne,ne_eq,hdw,not_true_eq_false,false_or] at h7;rw[Y2,ho,YS,List.contains_iff_mem] at h7;simp[(hb k h7).2]
   ·have:S k=true:=ho6 wr k d hwr hk hdw hmem (by simpa[hwi] using hSw);simp[this]
  have hag':Cz n (Gj lw (G9 sp i).old (B9 ops (U8 sp u) (G9 sp i).deps l0)) a Z:=QV (JQ h2 (λj hj d hd=>by
    obtain⟨h5,h6⟩:=b3 i hi j (by rw[hdep i hi];exact hj);rw[Y2,ho,YS,List.contains_iff_mem] at h6;obtain⟨o2,ho2⟩:=hops j h5;obtain⟨v,hv1,hv2⟩:=h3 j o2 d h5 (hb j h6).2 ho2 (by simpa[Cd,ho2] using hd);refine⟨v,hv1,?_⟩;rw[hspq u j h5];exact hv2)) (λd hd q hq=>ho5 d q hq (λwr hwr hdw=>by
     cases hS:S wr with
     | false=>rfl
     | true=>have:=ho6 wr i d hwr hi hdw hd hS;rw[this] at hun;cases hun))
  by_cases hi0:i=i0
  ·subst hi0;rw[Zd rfl] at hat;rw[hun] at h1;have h1':St c H Z w:=by simpa using h1
   have key:=λK' hK'=>hat u a w Z K' hag' h1' hK';have h5:∀u' v w' Z',Fz.le Z Z'→((G9 sp i).r u').p Z' v→St c (H1 u') Z' w'→K (a.put o.dst v) w':=λu' v w' Z' hz hpv hs'=>by
    refine hK _ _ ⟨u',Z',by simpa using hs',hagr v Z' hz,hvals v Z' u' hz (λj hj hji hSj=>?_) (λ_=>hpv),λj _ _ _=>by simp,hold' Z' hz v,hord⟩;refine hst.at (hsa j hj) ?_ u' u
    cases hd:(G9 sp j).dyn with
    | false=>rfl
    | true=>have:=hx j hj hd hSj;rw[this] at hun;cases hun
   refine⟨λ_=>(key K h5).2,λhw'=>?_⟩;rw[(key K h5).1] at hw';cases hw'
  ·rw[YW hi0] at hat;refine hat u _ a w Z K hag' h1 (λv w' Z' hz hp hst'=>hK _ _ ⟨u,Z',?_,hagr v Z' hz,hvals v Z' u hz (λ_ _ _ _=>rfl) (λ_=>hp),λj hj hd hSj=>?_,hold' Z' hz v,hord⟩)
   ·have hiS:(i0 ==i||S i0)=S i0:=by
     have:(i0 ==i)=false:=by simpa using λe=>hi0 e.symm
     rw[this];rfl
    show St c (if (i0 ==i||S i0)=true then H1 u else H) Z' w';rw[hiS];exact hst'
   ·have hii:(i0 ==i)=false:=by simpa using λe=>hi0 e.symm
    show(i0 ==i||S i0)=true;rw[hii,Y7]
    by_cases hji:j=i
    ·subst hji;have h7:=b4 j hj;rw[hdyn j hj,hd] at h7;simp only[Y3,Y7,YZ,beq_iff_eq,hi0,false_or,List.any_eq_true,Yv,Yq] at h7;obtain⟨e,he,heN,h8⟩:=h7;rw[Y2,ho,YS] at he;have hSe:=(hb e he).2;rcases h8 with h8 | h8
     ·subst h8;exact hSe
     ·rw[hdyn e heN] at h8;exact hx e heN h8 hSe
    ·exact hx j hj hd (by simpa[hji] using hSj)
 ·obtain⟨u,Z,h1,h2,h3,_,_,_⟩:=hI;have hsl:(Xb sp u).length=N:=by simp[Xb,hsp]
  refine h u a w Z (NM h2 _ _ 0 (λt o s d ht hs hd=>?_)) (by simpa using h1);have htN:t<N:=by have:=(List.getElem?_eq_some_iff.1 hs).1;omega
  have hs':s = { deps:=(G9 sp t).deps,r:=(G9 sp t).r u }:=by
   simp only[Xb,YX,hsa t htN,Option.map_some,Option.some.injEq] at hs;exact hs.symm
  subst hs';rw[Za];exact h3 t o d htN rfl (by rw[← hget t htN];exact ht) hd
theorem We [Inhabited U]{id:Nat}{ops:List Oper}(N i0:Nat)(ks0 ksw:List Nat)(sp:List (Sx U))(H1:U→List Ent)(hob:Kt P n c ops.toArray Q ops sp l0 lw i0 H H1 0 (ops.take N))(h:∀u,WL P n c ops.toArray Q (ops.drop N) (KF (λ_=>0) (ops.take N) (Xb sp u) 0 l0) (H1 u))
  (h0:Kp ks0 l l0:=by repeat (first | exact Mw | (apply Kg;rfl) | (apply KK;rfl))) (hw:Kp ksw l lw:=by repeat (first | exact Mw | (apply Kg;rfl) | (apply KK;rfl))) (hm:P.follows .mixedOrders=true:=by kernel_rfl) (hB:XN n ops N i0 (En l0) (sp.map (·.deps)) (sp.map (·.dyn)) (sp.map (·.old))=true:=by kernel_rfl)
  (hsp:sp.length=N:=by rfl) (hst:Mf sp:=by repeat (first | exact XI | apply XK | apply XJ)):WC P n c (.region id ops.toArray true) Q l H:=UK N i0 sp hm hB h0.one hw.one hsp hst hob h
theorem VQ {all rest:List Oper}{d:Nat}{op:Op}{ty:TypeId}{pos:String}{af:Array Edge}{i:Nat}(hr:∀{u H},AZ P n c (Gj lw (G9 sp i).old (B9 all (U8 sp u) (G9 sp i).deps l0)) H { dst:=some d,op:=op,type:=ty,pos:=pos,after:=af,guard:=none } ((G9 sp i).r u))(h:Kt P n c opsA Q all sp l0 lw i0 H H1 (i+1) rest)(hne:Nat.beq i i0=false:=by rfl) :
  Kt P n c opsA Q all sp l0 lw i0 H H1 i ({ dst:=some d,op:=op,type:=ty,pos:=pos,after:=af,guard:=none }::rest):=by
 refine⟨?_,h⟩;rw[YW (λe=>by subst e;simp at hne)];exact λu H=>Ty hr
theorem Yj {all rest:List Oper}{o:Oper}{i:Nat}(hr:∀{u H},DR P n c opsA Q (Gj lw (G9 sp i).old (B9 all (U8 sp u) (G9 sp i).deps l0)) H o ((G9 sp i).r u) H)(h:Kt P n c opsA Q all sp l0 lw i0 H H1 (i+1) rest)(hne:Nat.beq i i0=false:=by rfl):Kt P n c opsA Q all sp l0 lw i0 H H1 i (o::rest):=by
 refine⟨?_,h⟩;rw[YW (λe=>by subst e;simp at hne)];exact λu H=>hr
theorem Yh {all rest:List Oper}{o:Oper}(hr:∀{u},XC P n c opsA Q (Gj lw (G9 sp i0).old (B9 all (U8 sp u) (G9 sp i0).deps l0)) H o (G9 sp i0).r H1)(h:Kt P n c opsA Q all sp l0 lw i0 H H1 (i0+1) rest):Kt P n c opsA Q all sp l0 lw i0 H H1 i0 (o::rest):=by
 refine⟨?_,h⟩;rw[Zd rfl];exact λu=>hr
theorem Yi {all:List Oper}{i:Nat}:Kt P n c opsA Q all sp l0 lw i0 H H1 i []:=trivial
end
section
variable {P : Program} {n : Nat} {c : Cx} {opsA : Array Oper} {Q : Exit → Act → World → Prop} {l : Fr} {H : List Ent} {d : Nat} {x y : Operand} {ty t e : TypeId} {pos : String} {af : Array Edge} {v : Value} {sz : Nat}
theorem SE {α:Type}{xs ys:List α}{enc:α→List Rp}{i:Nat}{inf:TypeInfo}{z:Value}{bytes:Nat}(ht:P.underlying t=some (.slice e))(hinf:P.info? e=some inf)(hz:inf.zero=some z)(hsize:inf.size=sz)(hby:inf.bytes=bytes)(hzs:z.cells.size=sz)(hsz:Nat.blt 0 sz=true)(hbp:Nat.blt 0 bytes=true)
  (hx:ev l x=some (rv v)) (hi:H[i]? =some (.row v e sz (xs.map enc))) (hy:Li P n c l H y sz ys.length (ys.map enc).flatten) (henc:∀z,(enc z).length=sz) (hone:∀z,(enc z).all (·.one)=true) (hg:Ea bytes (xs.length+ys.length)=true) :
  XC P n c opsA Q l H { dst:=some d,op:=.call { callee:=.builtin .append,args:=#[x,y],argTypes:=#[t,t] },type:=ty,pos:=pos,after:=af,guard:=none } (λv'=>rv v') (λv'=>.row v' e sz ((xs++ys).map enc)::H.eraseIdx i):=λa w Z K ha hw hK=>by
  obtain⟨h0,us,h1,h2⟩:=hw.ent hi;obtain⟨ws,h3,h4⟩:=hy a w Z ha hw;have hsz':0<sz:=by simpa using hsz
  have hbp':0<bytes:=by simpa using hbp
  have hb:(xs.length+ys.length)*bytes≤140737488355328:=by simpa[Ea] using hg
  have hle:xs.length+ys.length≤(xs.length+ys.length)*bytes:=Nat.le_mul_of_pos_right _ hbp';have hws:∀y∈ws,y.oneCell'=true:=AN.one (rs:=(ys.map enc).flatten) (by
   rw[YL];intro r hr;obtain⟨cl,hcl,hrc⟩:=List.mem_flatten.1 hr;obtain⟨z',_,rfl⟩:=List.mem_map.1 hcl;exact List.all_eq_true.1 (hone z') r hrc) h3
  have hxl:(xs.map enc).length=xs.length:=Y4 ..;rw[hxl] at h1;obtain⟨v',w',e1,e2,e3,e4⟩:=G1 (P:=P) ty ht hinf hz hsize hby hzs hsz' h1 h4 hws hb (by simp only[maxLen];omega);have hent:(Ent.row v' e sz ((xs++ys).map enc)).holds Z w':=⟨λcl hcl=>by obtain⟨z',_,rfl⟩:=List.mem_map.1 hcl;exact henc z',us++ws,by simpa using e2,by rw[Zn,List.flatten_append];exact h2.append h3⟩
  have hst:=hw.callF hi (St.one (e':=.row v' e sz ((xs++ys).map enc)) (M:=(Ent.row v e sz (xs.map enc)).foot) hw.frz hw.env hw.emono e3.os e3.tape e3.output e3.size (λk hk hne=>e3.block k hk (λe1=>hne (by simp[Ent.foot,← e1])))
   (hw.zdis _ (Y6 hi)) hent (λk hk=>by
    simp only[Ent.foot,Option.mem_toList] at hk ⊢;rcases e4 with e4 | e4
    ·exact .inl (e4▸hk)
    ·exact .inr (e4 k hk)))
  refine⟨by simp[Region.wanted],?_⟩;unfold Oper.wp;rw[show(execOp a.eval { dst:=some d,op:=.call { callee:=.builtin .append,args:=#[x,y],argTypes:=#[t,t] },type:=ty,pos:=pos,after:=af,guard:=none }).run P w = .ok (.value v') w' from by simp[execOp,resolve,invoke,builtin,ha.eval hx,e1]];exact hK v' v' w' Z (Fz.le.refl _) rfl hst
end
abbrev Ux:=Nat→Nat→Value×Nat
def Ag (k:Nat)(u u':Ux):Prop:=∀j,j<k→u j=u' j
structure Sy where
 deps:List Nat
 r:Ux→Rp
 lv:Nat:=0
 fx:Bool:=false
 old:List Nat:=[]
def S5 (sp:List Sy)(i:Nat):Sy:=sp.getD i { deps:=[],r:=λ_=>rv undef }
def XG (sp:List Sy)(u:Ux):List Sp:=sp.map λs=>⟨s.deps,s.r u,0⟩
def QX:List Sy→Prop
 | []=>True
 | s::r=>(∀u u',Ag s.lv u u'→s.r u=s.r u')∧QX r
theorem QX.at:∀{sp:List Sy},QX sp→∀{i:Nat} {s:Sy},sp[i]? =some s→∀u u',Ag s.lv u u'→s.r u=s.r u'
 | [],_,i,s,h=>by simp at h
 | x::sp,⟨h1,h2⟩,0,s,h=>by simp at h;subst h;exact h1
 | x::sp,⟨h1,h2⟩,i+1,s,h=>QX.at h2 (by simpa using h)
def cnt (S:Nat→Bool)(is:List Nat):Nat:=(is.filter S).length
section
variable (P : Program) (n : Nat) (c : Cx) (opsA : Array Oper) (Q : Exit → Act → World → Prop)
def Yn (l:Fr)(H:List Ent)(o:Oper)(k:Nat)(u:Ux)(r:Ux→Rp)(H1:Ux→List Ent):Prop:=
 ∀a w Z (K:Act→World→Prop),Cz n l a Z→St c H Z w→(∀u' v w' Z',Ag k u u'→Fz.le Z Z'→(r u').p Z' v→St c (H1 u') Z' w'→K (a.put o.dst v) w')→
  Region.wanted o (yielded opsA a.tmps)=true∧o.wp P a w K Q
def Yg (ops:List Oper)(sp:List Sy)(l0 lw:Fr)(is:List Nat)(hs:List (Ux→List Ent))(i:Nat)(o:Oper):Prop:=
 match is.findIdx? (λx=>Nat.beq x i) with
 | some k=>∀u,Yn P n c opsA Q (Gj lw (S5 sp i).old (B9 ops (XG sp u) (S5 sp i).deps l0)) (hs.getD k (λ_=>[]) u) o k u (S5 sp i).r (hs.getD (k+1) (λ_=>[]))
 | none=>if (S5 sp i).fx=true then ∀u,DR P n c opsA Q (Gj lw (S5 sp i).old (B9 ops (XG sp u) (S5 sp i).deps l0)) (hs.getD (S5 sp i).lv (λ_=>[]) u) o ((S5 sp i).r u) (hs.getD (S5 sp i).lv (λ_=>[]) u)
  else ∀u H,DR P n c opsA Q (Gj lw (S5 sp i).old (B9 ops (XG sp u) (S5 sp i).deps l0)) H o ((S5 sp i).r u) H
def VK (ops:List Oper)(sp:List Sy)(l0 lw:Fr)(is:List Nat)(hs:List (Ux→List Ent)):Nat→List Oper→Prop
 | i,o::rest=>Yg P n c opsA Q ops sp l0 lw is hs i o∧VK ops sp l0 lw is hs (i+1) rest
 | _,[]=>True
end
section
variable {P : Program} {n : Nat} {c : Cx} {opsA : Array Oper} {Q : Exit → Act → World → Prop} {l l0 lw : Fr} {H : List Ent} {hs : List (Ux → List Ent)} {sp : List Sy} {is : List Nat}
theorem VK.at {ops:List Oper}:∀{k:Nat} {rest:List Oper},VK P n c opsA Q ops sp l0 lw is hs k rest→∀(t:Nat) o,rest[t]? =some o→Yg P n c opsA Q ops sp l0 lw is hs (k+t) o
 | k,o::rest,⟨h1,h2⟩,t,o',ht=>by
  cases t with
  | zero=>simp at ht;subst ht;exact h1
  | succ t=>
   have:=VK.at h2 t o' (by simpa using ht);rw[show k+(t+1)=k+1+t from by omega];exact this
 | _,[],_,t,o,h=>by simp at h
end
section
variable {P : Program} {n : Nat} {c : Cx} {opsA : Array Oper} {Q : Exit → Act → World → Prop} {l : Fr} {H : List Ent} {d : Nat} {x y : Operand} {ty t e : TypeId} {pos : String} {af : Array Edge} {v : Value} {sz : Nat}
end
set_option maxRecDepth 100000
set_option maxHeartbeats 4000000
@[reducible] def Ah (x:Ad):List Rp:=[rS x.fID,Ao x.fAt,rS x.fTenant,rS x.fSource,Bz 4 (AG Ac x.fBody)]
theorem HM (x:Ad):(Ah x).length=5:=rfl
theorem HL (x:Ad):(Ah x).all (·.one)=true:=rfl
theorem Ut (ys:(List Aa))(r:(List Aa))(h:LZ ys=some r):Fn Tryz.prog GE 56 [Bz 4 (AG Ac ys)] [] (λR H=>R=Bz 4 (AG Ac r)∧H=[]):=by
 refine enter (n:=8) Tryz.func56 rfl Tryz.ntmps56 rfl (λw Z=>?_);unfold LZ at h;refine Aj (wa rfl (Aw (Ap (Aj (wm rfl (wv (RA C1 rfl) (Aw (SJ rfl (λc1=>?_) (λc1=>?_)))))))))
 ·have e2:ys=[]:=List.map_eq_nil_iff.1 (c1 rfl);have h3:some ([]:List Aa)=some r:=by rw[e2] at h;exact(Uu h).2
  refine Aj (wa rfl (Aw (A1 (Af (WK.up (d:=2) (r:=Bz 4 (AG Ac ([]:List Aa))) rfl (Up.le (Ks.nil _)) ?_)))));obtain rfl:=A2 h3;exact A0 (BX Tryz.results56 (AP rfl)) sN ⟨rfl,rfl⟩
 ·refine A3 (AS (Aj (Bo (ys:=([]:List Aa)) (enc:=Ac) (css:=[]) (xs:=[]) C1 D7 KG rfl rfl rfl trivial rfl Bb rfl rfl rfl (λb4=>?_))));refine wm rfl (ck h λg6 h7=>Exists.elim Hj λinf hinf=>Cj (xs:=([]:List Aa)) (ys:=ys) (enc:=Ac) (i:=0) C1 hinf.1 hinf.2.1 hinf.2.2.1 hinf.2.2.2 rfl rfl rfl rfl rfl (Li.z rfl rfl) Bb Cf g6 rfl (λv5=>?_));refine wa rfl (Aw (A1 (WK.freeze (i:=0) rfl (WK.up (d:=2) (r:=Bz 4 (AG Ac (([]:List Aa)++ys))) rfl (Up.fact (i:=0) rfl) ?_))));obtain rfl:=A2 h7;exact A0 (BX Tryz.results56 (AP rfl)) (sS sN) ⟨rfl,rfl⟩
theorem Qi (n:Int)(r:Bool)(h:H6 n=some r):Fn Tryz.prog GE 48 [Ao n] [] (λR H=>R=rB r∧H=[]):=by
 refine enter (n:=9) Tryz.func48 rfl Tryz.ntmps48 rfl (λw Z=>?_);unfold H6 at h;refine Aj (wa rfl (Aw (AH [(2,rB ((decide (0≤n))&&(decide (n≤1073741824))))] [] ?_ ?_)))
 ·refine Ak (wm rfl (wv (Ix rfl rfl) (wm rfl (AR (decide (0≤n)) (λc1=>?_) (λc1=>?_)))))
  ·refine wo c1 (wm rfl (wo c1 (wv (Kc rfl rfl) (KR rfl c1 rfl (wa rfl (An ?_))))));exact Dg c1
  ·refine wf c1 (wf c1 (wv (r:=rB false) (AA rfl c1 rfl) (wa rfl (An ?_))));exact Dg c1
 refine A1 ?_;obtain rfl:=A2 h;exact A0 (BX Tryz.results48 (AP rfl)) sN ⟨rfl,rfl⟩
theorem Oj (F:Nat)(t:Ad)(r:Int)(h:H7 F t=some r):Fn Tryz.prog GE 41 [Bm (Ah t)] [] (λR H=>R=Ao r∧H=[]):=by
 refine enter (n:=27) Tryz.func41 rfl Tryz.ntmps41 rfl (λw Z=>?_);unfold H7 at h;refine Aj (Cr rfl rfl (λb1=>?_));refine wa rfl (Aw (Ap (AO (Aj (vF CC rfl Df (vL 0 D8 rfl (Gt (rs:=[rS t.fID]) (r:=rB (QK t.fID)) Tryz.call61 rfl (XQ t.fID) rfl rfl (wv (BK rfl) (wa rfl (Aw (cz h rfl (λc2 h3=>?_) (λc2 h4=>?_))))))))))))
 ·refine Aj (wa rfl (Aw (A1 (A6 (Af ?_)))));obtain rfl:=A2 h3;exact A0 (BX UG (AP rfl)) (sS sN) ⟨rfl,rfl⟩
 ·refine Aj (vF CC rfl C2 (vL 0 De rfl (ob h4 λr5 e7 h6=>HX Tryz.call48 (Qi t.fAt r5 e7) rfl (wv (BK rfl) (wa rfl (Aw (cz h6 rfl (λc8 h9=>?_) (λc8 hb=>?_))))))))
  ·refine Aj (wa rfl (Aw (A1 (A6 (Af ?_)))));obtain rfl:=A2 h9;exact A0 (BX UG (AP rfl)) (sS sN) ⟨rfl,rfl⟩
  ·refine AH [(1,rP b1 0),(13,rB ((!(CS t.fTenant))||(!(CS t.fSource))))] [.blk b1 (Ah t) 31] ?_ ?_
   ·refine Ak (vF CC rfl Df (vL 0 D8 rfl (Gt (rs:=[rS t.fTenant]) (r:=rB (CS t.fTenant)) Tryz.call62 rfl (TB t.fTenant) rfl rfl (wv (BK rfl) (wm rfl (AR (!(CS t.fTenant)) (λha=>?_) (λha=>?_)))))))
    ·refine wf ha (wf ha (wf ha (wf ha (wv (r:=rB true) (Ax rfl ha rfl) (wa rfl (An ?_))))));exact Dg ha
    ·refine wo ha (vF CC rfl Df (wo ha (vL 0 D8 rfl (wo ha (Gt (rs:=[rS t.fSource]) (r:=rB (CS t.fSource)) Tryz.call62 rfl (TB t.fSource) rfl rfl (wo ha (wv (BK rfl) (It rfl ha rfl (wa rfl (An ?_))))))))));exact Dg ha
   refine cz hb rfl (λhd he=>?_) (λhd hf=>?_)
   ·refine Aj (wa rfl (Aw (A1 (A6 (Af ?_)))));obtain rfl:=A2 he;exact A0 (BX UG (AP rfl)) (sS sN) ⟨rfl,rfl⟩
   ·refine A3 (AK (AS (Aj (vF CC rfl CB (vL 0 EI rfl (ob hf λhg hh hi=>HX Tryz.call63 (Ly F t.fBody hg hh) rfl (wa rfl (Aw (A1 ?_)))))))));obtain rfl:=A2 hi;exact A0 (BX UG (AP rfl)) (sS sN) ⟨rfl,rfl⟩
theorem SS (t:Ad)(r:Ad)(h:Rs t=some r):Fn Tryz.prog GE 35 [Bm (Ah t)] [] (λR H=>R=Bm (Ah r)∧H=[]):=by
 refine enter (n:=8) Tryz.func35 rfl Tryz.ntmps35 rfl (λw Z=>?_);unfold Rs at h;refine Aj (Cr rfl rfl (λb1=>?_));refine Cl (cs:=[rS ([]:Ae),Ao 0,rS ([]:Ae),rS ([]:Ae),rv (.slice none 0 0)]) NR rfl rfl (λb2=>?_);refine B5 (vF CC rfl CB (vL 1 EI rfl (ob h λr3 e5 h4=>HX Tryz.call56 (Ut t.fBody r3 e5) rfl (vF CC rfl CB (Bu (i:=1) CB rfl rfl (BW rfl) rfl rfl (cs':=[rS t.fID,Ao t.fAt,rS t.fTenant,rS t.fSource,Bz 4 (AG Ac r3)]) rfl (H':=[.blk b2 [rS ([]:Ae),Ao 0,rS ([]:Ae),rS ([]:Ae),rv (.slice none 0 0)] 31,.blk b1 [rS t.fID,Ao t.fAt,rS t.fTenant,rS t.fSource,Bz 4 (AG Ac r3)] 31]) rfl (B5 (wv (B2 (i:=1) EY Ci rfl rfl rfl rfl) (By (i:=0) Ci rfl rfl rfl (BI.c rfl) rfl rfl (cs':=[rS t.fID,Ao t.fAt,rS t.fTenant,rS t.fSource,Bz 4 (AG Ac r3)]) rfl (H':=[.blk b2 [rS t.fID,Ao t.fAt,rS t.fTenant,rS t.fSource,Bz 4 (AG Ac r3)] 31,.blk b1 [rS t.fID,Ao t.fAt,rS t.fTenant,rS t.fSource,Bz 4 (AG Ac r3)] 31]) rfl (Aw (A1 ?_))))))))));obtain rfl:=A2 h4;exact A0 (BX Tryz.results35 (HB (i:=0) EY Ci rfl rfl rfl)) (sS (sS sN)) ⟨rfl,rfl⟩
end Go.Proofs.YtmmbdclkpijkpaaGreatDoor.Q
namespace Go.Proofs.YtmmbdclkpijkpaaGreatDoor
open Go
def keysOk {T:Type}(xs:List (Ae×T)):Bool:=decide (xs.length*16≤140737488355328)&&xs.all λp=>UA p.1
end Go.Proofs.YtmmbdclkpijkpaaGreatDoor
namespace Go.Proofs.YtmmbdclkpijkpaaGreatDoor.Q
open Go Go.RowKit Go.ChangeMaps
set_option linter.unusedVariables false
set_option linter.unusedSimpArgs false
def RU:Value→Option (DataW Unit×List MemPlace):=λ_=>some (.nil,[])
theorem Wn {P:Program}{k:TypeId}(hkt:P.underlying k=some .string){e:MapEntry}{s:Ae}(he:e.key = .string (B s))(hs:s.length≤maxLen):WideElems.rd P k RU e=some (.string s,.nil):=by
 obtain⟨key,val,born⟩:=e;simp only at he;subst he;exact WideElems.rd_mk (yv:=(.nil,[])) (by simp[keyOf,hkt,mapKey,B];exact hs) rfl
theorem Hz.rgs {P:Program}{k:TypeId}(hkt:P.underlying k=some .string){Z:Fz}:∀{f:List (Ae×Rp)} {es:List MapEntry},Hz Z f es→(∀p∈f,p.1.length≤maxLen)→es.map (WideElems.rg P k RU)=f.map (λp=>(Lit.string p.1,(.nil:DataW Unit)))∧(∀x∈es,∃y,WideElems.rd P k RU x=some y)∧es.map (·.key)=f.map λp=>Value.string (B p.1)
 | [],[],_,_=>⟨rfl,(λ_ h=>by cases h),rfl⟩
 | p::f,e::es,⟨⟨h1,_⟩,h2⟩,hk=>by
  obtain⟨a1,a2,a3⟩:=Hz.rgs hkt h2 λq hq=>hk q (List.mem_cons_of_mem _ hq);have hr:=Wn hkt h1 (hk p (List.mem_cons_self ..));refine⟨?_,λx hx=>?_,?_⟩
  ·rw[YV,YV,a1,WideElems.rg_of hr]
  ·rcases List.mem_cons.1 hx with rfl | hx
   ·exact⟨_,hr⟩
   ·exact a2 x hx
  ·rw[YV,YV,a3,h1]
theorem Vh {P:Program}{k:TypeId}(hkt:P.underlying k=some .string){w:World}{Z:Fz}{b:Nat}{m:List (Ae×Rp)}{es:Array MapEntry}{ck:Nat}(hb:w.heap[b]? =some (.map es ck))(hm:Es Z m es.toList ck)(hk:∀p∈m,p.1.length≤maxLen)(hsz:m.length≤maxLen) :
  ∃D0:DataW Unit,w.ownsMap P k RU b es.size D0∧(strKeys D0).Perm (m.map (·.1))∧Maps.size D0=m.length:=by
 obtain⟨h1,h2,h3,f,h4,h5⟩:=hm;obtain⟨a1,a2,a3⟩:=Hz.rgs hkt h5 λp hp=>hk p (h4.subset hp);have hlen:es.size=m.length:=by
  have e:=congrArg List.length a3;simp only[Y4,Array.length_toList] at e;rw[e];exact h4.length_eq
 have hkey:es.toList.Pairwise (λx y=>x.key≠y.key):=by
  have e:(es.toList.map (·.key)).Nodup:=by
   rw[a3];have hf:(f.map (·.1)).Nodup:=(h4.map _).nodup_iff.2 h1;have:f.map (λp=>Value.string (B p.1))=(f.map (·.1)).map λs=>Value.string (B s):=by rw[Zh];rfl
   rw[this];refine List.Pairwise.map _ (λx y hxy e=>hxy ?_) hf;simp[B] at e;exact e
  exact List.pairwise_map.1 e
 refine⟨.map ((es.toList.map (WideElems.rg P k RU)).foldr DataW.insert []),⟨es,ck,hb,⟨by rw[hlen];exact hsz,(MapKept.stamped_iff es ck).2 ⟨h3,h2,hkey⟩,a2⟩,Y8 _,rfl⟩,?_,?_⟩
 ·show(((es.toList.map (WideElems.rg P k RU)).foldr DataW.insert []).map λp=>strOf p.1).Perm _;rw[a1];refine((WideShapes.sorted_perm _).map _).trans ?_;rw[Zh];exact h4.map _
 ·show((es.toList.map (WideElems.rg P k RU)).foldr DataW.insert []).length=_;rw[length_sorted,Y4,Array.length_toList,hlen]
theorem PB {w:World}{a b:Nat}{e:TypeId}{sz n:Nat}{v:Value}{us:List Value}(h:w.ownsRow a e sz v n us)(hb:b≤a):w.ownsRow b e sz v n us:=by
 refine⟨h.1,?_⟩;rcases h.2 with hn | ⟨g,cap,cur,rfl,hg,rest⟩
 ·exact .inl hn
 ·exact .inr ⟨g,cap,cur,rfl,Nat.le_trans hb hg,rest⟩
theorem Oy {w:World}{a:Nat}{e:TypeId}{sz n:Nat}{v:Value}{us:List Value}(h:w.ownsRow a e sz v n us):∀k∈v.ownBlock.toList,a≤k:=by
 rcases h.2 with⟨rfl,_⟩ | ⟨g,cap,cur,rfl,hg,rest⟩
 ·intro k hk;simp[Value.ownBlock] at hk
 ·intro k hk;simp[Value.ownBlock] at hk;omega
theorem St.newrow {c:Cx}{H:List Ent}{Z:Fz}{w w':World}(h:St c H Z w)(hb:Below w.heap.size w w'){v:Value}{e:TypeId}{ys:List Ae}(hr:w'.ownsRow w.heap.size e 1 v ys.length (ys.map Go.Proofs.encStr)):St c (.row v e 1 (ys.map eS)::H) Z w':=by
 refine h.add hb.os hb.tape hb.output hb.size (λk hk=>hb.block k hk) ⟨λc hc=>?_,ys.map Go.Proofs.encStr,?_,?_⟩ (λk hk=>Oy hr k hk)
 ·obtain⟨y,_,rfl⟩:=List.mem_map.1 hc;rfl
 ·rw[Y4];exact PB hr (YU _)
 ·clear hr
  induction ys with
  | nil=>exact trivial
  | cons y r ih=>exact⟨by show Go.Proofs.encStr y=Value.string (B y);rfl,ih⟩
end Go.Proofs.YtmmbdclkpijkpaaGreatDoor.Q
namespace Go.Proofs.YtmmbdclkpijkpaaGreatDoor
open Go
set_option linter.unusedVariables false
structure Ab where
 fTimer:Ad
 fTold:Bool
 deriving DecidableEq,Inhabited
structure A5 where
 fTimers:(List (Ae×Ab))
 deriving DecidableEq,Inhabited
def Pv :Option (A5):=
 some (A5.mk ([]:List (Ae×Ab)))
def Hv (q:A5):Option (Bool×A5):=
 some (true,q)
def L3 (t:Ad)(now:Int):Option (Bool):=
 some (decide (now<t.fAt))
def C5 (ys:(List Ad))(now:Int)(ha:Int):Option (Stp (Int) (Out (Int) (Unit))):=
 Bw (decide (ha<(ys.length:Int))) (Bc (Dt ha (ys.length:Int))<|B0 (L3 (Ar ys ha) now) λhb=>Bw (hb) (some (.out (.ret ha))) (Bc (BT .i64 (ha+1))<|some (.next (ha+1)))) (some (.out (.go ())))
def EN :Option (Int):=
 some (-1)
def GT (F:Nat)(ys:(List Ad))(now:Int):Option (Int):=
 B0 (Cs (λσ=>C5 ys now σ) F 0) (BN λν=>EN )
def C9 (ha:Int)(hb:Int)(he:Bool)(hf:Bool)(hd:(List Ad)):Option (Stp (Int×Int×(List Ad)) (Out ((List Ad)) (Int×(List Ad)))):=
 Bc (BT .i64 (ha+1))<|some (.next (hb,ha+1,hd))
def Cp (now:Int)(hb:Int)(hd:Int)(ha:(List Ad)):Option (Stp (Int×Int×(List Ad)) (Out ((List Ad)) (Int×(List Ad)))):=
 Bw (decide (hd<(ha.length:Int))) (Bc (Dt hd (ha.length:Int))<|B0 (L3 (Ar ha hd) now) λhe=>Bw (!he) (Bc (Dt hb (ha.length:Int))<|IZ (List.set ha (Int.toNat hb) (Ar ha hd)) λhf=>Bc (BT .i64 (hb+1))<|C9 hd (hb+1) he (!he) hf) (C9 hd hb he (!he) ha)) (some (.out (.go (hb,ha))))
def DC (ha:Int)(hb:(List Ad)):Option ((List Ad)):=
 Bc (HJ ha (hb.length:Int))<|Bc (HJ ha ((List.take (Int.toNat ha) hb++List.replicate (hb.length-Int.toNat ha) (Ad.mk ([]:Ae) 0 ([]:Ae) ([]:Ae) ([]:(List Aa)))).length:Int))<|some (List.take (Int.toNat ha) (List.take (Int.toNat ha) hb++List.replicate (hb.length-Int.toNat ha) (Ad.mk ([]:Ae) 0 ([]:Ae) ([]:Ae) ([]:(List Aa)))))
def Gn (F:Nat)(ys:(List Ad))(now:Int):Option ((List Ad)):=
 B0 (GT F ys now) λr1=>Bw (decide (r1=(-1))) (some ys) (Bc (BT .i64 (r1+1))<|B0 (Cs (λσ=>Cp now σ.1 σ.2.1 σ.2.2) F (r1,r1+1,ys)) (BN λν=>DC ν.1 ν.2))
def Gh (hd:Ae)(x16:Ab)(ha:(List Ad)):Option (Stp ((List Ad)) (Out ((List Ad)×A5) ((List Ad)))):=
 B0 (Rs x16.fTimer) λhb=>Bc (Ea 80 (ha.length+([hb]:List Ad).length))<|some (.next (ha++([hb]:List Ad)))
def Gg (r1:Bool×A5)(ha:(List Ad)):Option ((List Ad)×A5):=
 Bc (GK (λx y:Ad=>Dc x.fAt y.fAt x.fID y.fID) ha)<|Bc (Nat.blt ha.length 4611686018427387904)<|some (srt (λx y:Ad=>Dc x.fAt y.fAt x.fID y.fID) ha,r1.2)
def K5 (q:A5):Option ((List Ad)×A5):=
 B0 (Hv q) λr1=>Bw (!r1.1) (some (([]:List Ad),r1.2)) (RH r1.2.fTimers λord=>B0 (QC (λp τ=>Gh p.1 p.2 τ) ord ([]:List Ad)) (BN λν=>Gg r1 ν))
def Gu (now:Int)(hb:(List Ae))(ha:Int)(hd:(List (Ae×Ab))):Option (Stp (Int×(List (Ae×Ab))) (Out ((List Ad)×A5) ((List (Ae×Ab))))):=
 Bw (decide (ha<(hb.length:Int))) (Bc (Dt ha (hb.length:Int))<|Bc (BT .i64 (ha+1))<|some (.next (ha+1,mset hd (Ar hb ha) (Ab.mk ((AM hd (Ar hb ha) (Ab.mk (Ad.mk ([]:Ae) 0 ([]:Ae) ([]:Ae) ([]:(List Aa))) false)).fTimer) (((AM hd (Ar hb ha) (Ab.mk (Ad.mk ([]:Ae) 0 ([]:Ae) ([]:Ae) ([]:(List Aa))) false)).fTold)||(decide ((((AM hd (Ar hb ha) (Ab.mk (Ad.mk ([]:Ae) 0 ([]:Ae) ([]:Ae) ([]:(List Aa))) false)).fTimer).fAt)≤now))))))) (some (.out (.go hd)))
def Jo (F:Nat)(now:Int)(hb:(List (Ae×Ab))):Option ((List Ad)×A5):=
 B0 (K5 (A5.mk hb)) λha=>B0 (Gn F ha.1 now) λhd=>some (hd,ha.2)
def Px (F:Nat)(q:A5)(now:Int):Option ((List Ad)×A5):=
 B0 (Hv q) λr2=>Bw (!r2.1) (some (([]:List Ad),r2.2)) (Bc (keysOk r2.2.fTimers)<|RH (List.map Prod.fst r2.2.fTimers) λha=>B0 (Cs (λσ=>Gu now ha σ.1 σ.2) F (0,r2.2.fTimers)) (BN λν=>Jo F now ν))
def Mq (F:Nat)(q:A5)(t:Ad)(now:Int):Option (Int×A5):=
 B0 (Hv q) λr2=>Bw (!r2.1) (some (10,r2.2)) (B0 (H7 F t) λr8=>Bw (!decide (r8=0)) (some (r8,r2.2)) (Bc ((H6 now).isSome)<|Bw (((!(ov (H6 now)))||(decide (t.fAt<now)))) (some (2,r2.2)) (Bw (E3 r2.2.fTimers t.fID) (some (6,r2.2)) (Bw (decide (256≤(r2.2.fTimers.length:Int))) (some (3,r2.2)) (B0 (Rs t) λha=>some (0,(A5.mk (mset r2.2.fTimers t.fID (Ab.mk ha false)))))))))
def P1 (q:A5)(id:Ae):Option (Int×A5):=
 B0 (Hv q) λr1=>Bw (!r1.1) (some (10,r1.2)) (Bw (!(E3 r1.2.fTimers id)) (some (5,r1.2)) (some (0,(A5.mk (mdel r1.2.fTimers id)))))
def Ez (id:Ae)(x7:Bool)(x8:(List (Ae×Ab))):Option (Int×A5):=
 Bw (x7) (some (10,(A5.mk x8))) (B0 (P1 (A5.mk x8) id) λha=>some (ha.1,ha.2))
def Id (q:A5)(id:Ae):Option (Int×A5):=
 B0 (Hv q) λr9=>Bw (r9.1) (Ez id ((AM r9.2.fTimers id (Ab.mk (Ad.mk ([]:Ae) 0 ([]:Ae) ([]:Ae) ([]:(List Aa))) false)).fTold) r9.2.fTimers) (Ez id false r9.2.fTimers)
def ST (q:A5):Option (Int×Bool×A5):=
 B0 (K5 q) λr1=>Bw (decide ((r1.1.length:Int)=0)) (some (0,false,r1.2)) (Bc (Dt 0 (r1.1.length:Int))<|some ((Ar r1.1 0).fAt,true,r1.2))
end Go.Proofs.YtmmbdclkpijkpaaGreatDoor
namespace Go.Proofs.YtmmbdclkpijkpaaGreatDoor.Q
open Go Go.RowKit Go.Sort Go.Shelf Go.Proofs
set_option linter.unusedVariables false
set_option linter.unusedSimpArgs false
theorem Qq {Z:Fz}{T α:Type}{enc:T→List Rp}{raw:α→List Value}(hR:∀x us,AN Z (enc x) us→∃a,us=raw a):∀{xs:List T} {us:List Value},AN Z (xs.map enc).flatten us→∃zs:List α,us=(zs.map raw).flatten∧All2 (λx a=>AN Z (enc x) (raw a)) xs zs
 | [],us,h=>by
  cases us with
  | nil=>exact⟨[],rfl,.nil⟩
  | cons _ _=>exact absurd h id
 | x::r,us,h=>by
  simp only[YV,List.flatten_cons] at h;have h1:=h.take (enc x).length;have h2:=h.drop (enc x).length;rw[List.take_left' rfl] at h1;rw[List.drop_left' rfl] at h2;obtain⟨a,ha⟩:=hR x _ h1;obtain⟨zs',e,h3⟩:=Qq hR h2;refine⟨a::zs',?_,.cons (ha▸h1) h3⟩;rw[YV,List.flatten_cons,← ha,← e,Zi]
theorem Vd {Z:Fz}{T α:Type}{enc:T→List Rp}{raw:α→List Value}{xs:List T}{zs:List α}(h:All2 (λx a=>AN Z (enc x) (raw a)) xs zs):AN Z (xs.map enc).flatten (zs.map raw).flatten:=by
 induction h with
 | nil=>exact trivial
 | cons h1 _ ih=>exact h1.append ih
theorem LS {α:Type}[Inhabited α]{raw:α→List Value}{k:Nat}(hk:∀a,(raw a).length=k)(d:Array α):flatK raw k d=((d.toList.map raw).flatten).toArray:=by
 have hl:((d.toList.map raw).flatten).length=d.size*k:=by
  rw[Eb (sz:=k) (λc hc=>by obtain⟨a,_,rfl⟩:=List.mem_map.1 hc;exact hk a)];simp
 refine ext_get! (by rw[size_flatK];simpa using hl.symm) λt ht=>?_;have ht':t<d.size*k:=by simpa using ht
 have hk0:0<k:=by
  rcases Nat.eq_zero_or_pos k with h | h
  ·subst h;simp at ht'
  ·exact h
 have hq:t/k<d.size:=by rw[Nat.div_lt_iff_lt_mul hk0];exact ht'
 have hm:t % k<k:=Nat.mod_lt _ hk0;rw[get_flatK raw k d t ht'];have e2:=GU (sz:=k) (vs:=d.toList.map raw) (λc hc=>by obtain⟨a,_,rfl⟩:=List.mem_map.1 hc;exact hk a) (i:=t/k) (c:=raw d[t/k]!) (by simp[hq]) (j:=t % k) (u:=(raw d[t/k]!)[t % k]!) (by rw[getElem!_pos (raw d[t/k]!) (t % k) (by rw[hk];exact hm)];simp[hk,hm]);rw[Nat.div_add_mod' t k] at e2;have hlt:t<((d.toList.map raw).flatten).length:=by rw[hl];exact ht'
 rw[getElem!_pos _ t (by simpa using hlt)];rw[Y1 hlt] at e2;simpa using(Option.some.inj e2).symm
theorem NA {α:Type}[Inhabited α]{raw:α→List Value}{k:Nat}{w:World}{g n:Nat}{os:Array Obj}{cur:Array Value}{e:TypeId}{fr:Nat×Nat}(d:Array α)(hb:w.heap[g]? =some (.cells cur e fr)) :
  (sortWorldK raw k w g 0 n d os).heap[g]? =some (.cells (putCells id 0 (flatK raw k d) cur) e fr):=by
 have hg:g<w.heap.size:=(Array.getElem?_eq_some_iff.1 hb).1;unfold sortWorldK;rw[heap_grow_old _ _ (by rw[size_putRowK];exact hg)];simp[putRowK,putRow,mapBlock,Sort.ahead,Array.getElem?_modify,hb,onCells]
theorem IV {α:Type}[Inhabited α]{raw:α→List Value}{k:Nat}{w:World}{g n:Nat}{os:Array Obj}(d:Array α){j:Nat}(hj:j<w.heap.size)(hne:j≠g) :
  (sortWorldK raw k w g 0 n d os).heap[j]? =w.heap[j]?:=by
 unfold sortWorldK;rw[heap_grow_old _ _ (by rw[size_putRowK];exact hj)];simp[putRowK,putRow,mapBlock,Sort.ahead,Array.getElem?_modify,Ne.symm hne]
theorem Lz (cur:Array Value)(F:List Value)(h:F.length≤cur.size):(putCells id 0 F.toArray cur).toList.take F.length=F:=by
 apply List.ext_getElem?;intro j
 by_cases hj:j<F.length
 ·rw[List.getElem?_take_of_lt hj,Array.getElem?_toList];simp[putCells,hj,show j<cur.size by omega]
 ·rw[List.getElem?_take_eq_none (by omega),List.getElem?_eq_none (by omega)]
theorem Wm {P:Program}{E:Fz→Prop}{ρ:Ren}(L:SlLaysF0.n6 P ρ){k:Nat}(aE:∀w,(isAgg (ρ.t 24)).run P w = .ok true w)(zE:∀w,(Go.sizeOf (ρ.t 24)).run P w = .ok k w)
  {T:Type} {enc:T→List Rp} (hlen:∀x,(enc x).length=k) {α:Type} [Inhabited α] (raw:α→List Value) (hk:∀a,(raw a).length=k) (h1:∀a,∀v∈raw a,v.oneCell'=true)
  (cf:α→α→Int) (hO:SWO (ltOf cf)) {lt:T→T→Bool} (hL:VL lt)
  (hR:∀Z x us,AN Z (enc x) us→∃a,us=raw a)
  (hlt:∀Z x y a b,AN Z (enc x) (raw a)→AN Z (enc y) (raw b)→lt x y=ltOf cf a b)
  (g:Nat) (eg:∀args w,(callFunc g args).run P w = .ok (.enter g args) w)
  (hcmp:∀(a b:α) W,Calls P g #[.agg (raw a).toArray,.agg (raw b).toArray] W λe w'=>e = .returned (.int .i64 (cf a b))∧∃q os',w'=grow (W.drewN q) os')
  {v:Value} {e:TypeId} {xs:List T} (hd:GK lt xs=true) (hsz:Nat.blt xs.length 4611686018427387904=true) :
  Fn P E (ρ.f 6) [rv v,rv (.func (.func g) #[] #[])] [.row v e k (xs.map enc)] (λR H=>R=rv (.tuple #[])∧H=[.row v e k ((srt lt xs).map enc)]):=λw Z vs hv hs=>by
 have e0:vs=[v,.func (.func g) #[] #[]]:=AN.eq_rv (us:=[v,.func (.func g) #[] #[]]) hv;subst e0;have hsz':xs.length<4611686018427387904:=by simpa using hsz
 obtain⟨h0,us,⟨h2,h3⟩,h4⟩:=hs.ent (i:=0) rfl;rcases h3 with⟨rfl,hz0⟩ | ⟨b,cap,cur,rfl,_,hb,hcap,hm,hcs,htk⟩
 ·simp at hz0;subst hz0;refine(AnyF.slices_SortFunc_none (P:=P) (ρ:=ρ) { L with } none 0 (.func (.func g) #[] #[]) w).mono ?_;rintro e' w' ⟨rfl,rfl⟩;exact⟨_,_,_,Z,rfl,⟨rfl,rfl⟩,rfl,hs⟩
 ·obtain⟨zs',eus,ha⟩:=Qq (hR Z) h4;subst eus;have hal:zs'.length=xs.length:=ha.length.symm;have hrl:((zs'.map raw).flatten).length=xs.length*k:=by
   rw[Eb (sz:=k) (λc hc=>by obtain⟨a,_,rfl⟩:=List.mem_map.1 hc;exact hk a)];simp[hal]
  simp only[Y4] at h2 hcap htk;have hfl:flatK raw k zs'.toArray=((zs'.map raw).flatten).toArray:=LS hk _;have hH:HoldsK raw k w b 0 zs'.toArray:=by
   unfold HoldsK;rw[hfl];intro j hj;have hj':j<((zs'.map raw).flatten).length:=by simpa using hj
   refine⟨?_,by simp[World.frozen?,hb]⟩;have h5:(cur.toList.take (xs.length*k))[j]? =((zs'.map raw).flatten)[j]?:=by rw[htk]
   rw[List.getElem?_take_of_lt (by omega)] at h5;simp only[World.cell?,hb,Za,Option.isSome_none,YH,Ze];rw[← Array.getElem?_toList,h5];rw[getElem!_pos _ j hj];simp[hj']
  have hblk:b<w.heap.size:=(Array.getElem?_eq_some_iff.1 hb).1;have hsl:(Value.slice (some ⟨b,0,none⟩) (xs.map enc).length cap) = .slice (some ⟨b,0,none⟩) zs'.toArray.size cap:=by simp[hal]
  have hcon:=AnyQ.slices_SortFunc (P:=P) (ρ:=ρ) L k aE zE raw hk h1 cf hO g #[] b 0 cap zs'.toArray w eg (λm os dk hs x y=>by simpa using hcmp x y _) hH hblk (by simpa[hal] using hsz');have hargs:[Value.slice (some ⟨b,0,none⟩) (xs.map enc).length cap,Value.func (.func g) #[] #[]].toArray = #[.slice (some ⟨b,0,none⟩) zs'.toArray.size cap,.func (.func g) #[] #[]]:=by rw[hsl]
  rw[hargs];refine hcon.mono ?_;rintro e' w' ⟨rfl,d',n,os,hp,hsd,rfl⟩;have hds:d'.size=zs'.length:=by simpa using hp.1
  have hperm:d'.toList.Perm zs':=by
   have:=hp.2.2;rw[Array.extract_eq_self_of_le (by rw[hp.1];exact Y8 _),Array.extract_eq_self_of_le (Y8 _)] at this;exact this
  obtain⟨xs',hx1,hx2⟩:=All2.perm hperm.symm ha;have hpw:d'.toList.Pairwise λa b=>ltOf cf b a=false:=by
   rw[List.pairwise_iff_getElem];intro i j hi hj hij;have hi':i<d'.size:=by simpa using hi
   have hj':j<d'.size:=by simpa using hj
   have:=hsd i j (YU _) hij (by simpa[hds] using hj');rw[getElem!_pos d' j hj',getElem!_pos d' i hi'] at this;simpa using this
  have hxs:xs'=srt lt xs:=P3 hL hd hx1 (All2.pairwise (p:=λx y=>lt y x=false) (λx x' a a' h5 h6 h7=>by rw[hlt Z x' x a' a h6 h5];exact h7) hx2 hpw);subst hxs;have hl2:(srt lt xs).length=xs.length:=(H9 lt xs).length_eq;have hf2:flatK raw k d'=((d'.toList.map raw).flatten).toArray:=LS hk _;have hrl2:((d'.toList.map raw).flatten).length=xs.length*k:=by
   rw[Eb (sz:=k) (λc hc=>by obtain⟨a,_,rfl⟩:=List.mem_map.1 hc;exact hk a)];simp[hds,hal]
  have hcc:xs.length*k≤cap*k:=Nat.mul_le_mul_right _ hcap;have hset:=hs.set (i:=0) (w':=sortWorldK raw k w b 0 n d' os) (e':=.row (.slice (some ⟨b,0,none⟩) (xs.map enc).length cap) e k ((srt lt xs).map enc)) rfl rfl rfl rfl (size_sortWorldK_c raw k w b 0 n d' os) (λj hj hne=>IV d' hj (λe1=>hne (by simp[Ent.foot,Value.ownBlock,e1])))
   ⟨λcl hcl=>by obtain⟨x,_,rfl⟩:=List.mem_map.1 hcl;exact hlen x,(d'.toList.map raw).flatten,⟨by simp[hrl2,hl2],.inr ⟨b,cap,_,by simp[hl2],YU _,NA d' hb,by simpa[hl2] using hcap,hm,by simpa[putCells] using hcs,by
    rw[hf2,Y4,hl2,← hrl2];exact Lz cur _ (by omega)⟩⟩,Vd hx2⟩ (by simp[Ent.foot,Value.ownBlock])
  exact⟨_,_,_,Z,rfl,⟨rfl,rfl⟩,rfl,hset⟩
open Go Go.Proofs Go.Sort
theorem V1 (x:Int)(w:World):Calls Tryz.prog 59 #[.int .i64 x] w λe w'=>e = .returned (.bool false)∧w'=w:=by
 go_enter Tryz.func59,Tryz.ntmps59
 go_wp2
 go_ret
 exact⟨by simp,rfl⟩
theorem V0 (x:ByteArray)(w:World):Calls Tryz.prog 60 #[.string x] w λe w'=>e = .returned (.bool false)∧w'=w:=by
 go_enter Tryz.func60,Tryz.ntmps60
 go_wp2
 go_ret
 exact⟨by simp,rfl⟩
def PS (x y:Int):Int:=if x<y then -1 else if y<x then 1 else 0
set_option maxHeartbeats 1000000 in
theorem Sj (x y:Int)(w:World):Calls Tryz.prog 39 #[.int .i64 x,.int .i64 y] w λe w'=>e = .returned (.int .i64 (PS x y))∧w'=w:=by
 go_enter Tryz.func39,Tryz.ntmps39
 go_wp2_with (go_at_call 59;refine(V1 _ _).mono ?_;rintro e w' ⟨rfl,hw⟩;rw[hw])
 all_goals (go_ret;refine⟨?_,rfl⟩;unfold PS;(repeat' split)<;>first | rfl | (exfalso;omega))
theorem UZ (t:TypeId)(a b:ByteArray):binOp .gtr t (.string a) (.string b)=pure (.bool !(Op.bytesLess a.toList b.toList||a.toList ==b.toList)):=by simp[binOp,Op.stringOp]
def PR (x y:List UInt8):Int:=if Op.bytesLess x y=true then -1 else if (Op.bytesLess x y||x ==y)=false then 1 else 0
set_option maxHeartbeats 1000000 in
theorem Si (x y:ByteArray)(w:World):Calls Tryz.prog 40 #[.string x,.string y] w λe w'=>e = .returned (.int .i64 (PR x.toList y.toList))∧w'=w:=by
 have hg:=UZ
 go_enter Tryz.func40,Tryz.ntmps40
 go_wp2_with (go_at_call 60;refine(V0 _ _).mono ?_;rintro e w' ⟨rfl,hw⟩;rw[hw])
 all_goals (go_ret;refine⟨?_,rfl⟩;unfold PR;simp_all)
def Vi (p q:Int):Int:=if p=0 then q else p
set_option maxHeartbeats 1000000 in
theorem XM (p q:Int)(b cap:Nat)(w:World)(h0:w.cell? ⟨b,0,none⟩=some (.int .i64 p))(h1:w.cell? ⟨b,1,none⟩=some (.int .i64 q)):Calls Tryz.prog 38 #[.slice (some ⟨b,0,none⟩) 2 cap] w λe w'=>e = .returned (.int .i64 (Vi p q))∧w'=w:=by
 by_cases hp:p=0
 ·have er:Vi p q=q:=by unfold Vi;rw[Zd hp]
  rw[er];have hp':(p !=0)=false:=by simp[hp]
  clear er
  by_cases hq:q=0
  ·have hq':(q !=0)=false:=by simp[hq]
   subst hp;subst hq
   go_enter Tryz.func38,Tryz.ntmps38
   go_wp2
   refine wp_loop_rounds 3 ?_;rw[rounds_succ]
   go_wp2
   rw[rounds_succ]
   go_wp2
   rw[rounds_succ]
   go_wp2
   go_ret
   exact⟨rfl,rfl⟩
  ·have hq':(q !=0)=true:=by simp[hq]
   subst hp
   go_enter Tryz.func38,Tryz.ntmps38
   go_wp2
   refine wp_loop_rounds 3 ?_;rw[rounds_succ]
   go_wp2
   rw[rounds_succ]
   go_wp2
   go_ret
   exact⟨rfl,rfl⟩
 ·have er:Vi p q=p:=by unfold Vi;rw[YW hp]
  rw[er];have hp':(p !=0)=true:=by simp[hp]
  clear er hp
  go_enter Tryz.func38,Tryz.ntmps38
  go_wp2
  refine wp_loop_rounds 3 ?_;rw[rounds_succ]
  go_wp2
  go_ret
  exact⟨rfl,rfl⟩
theorem P2 {P:Program}{id:Nat}{Q:Exit→Act→World→Prop}{a:Act}{w:World}{l:List Oper}(n:Nat)(hm:P.follows .mixedOrders=true)(hB:Region.lexTailB .any l.toArray n=true)
  (h:∀w2,w2=World.drew w→wpStill P l.toArray w2 (λa'=>wpList P l.toArray Q (l.drop n) a' w2) (l.take n) a):(Code.region id l.toArray true).wp P Q a w:=wp_region_still_tail n hm hB (h _ rfl)
theorem GW (w:World)(cs:Array Value)(e:TypeId)(j:Nat):(w.alloc (.cells cs e)).cell? ⟨w.heap.size,j,none⟩=cs[j]?:=by
 have h:(w.alloc (.cells cs e)).heap[w.heap.size]? =some (.cells cs e):=by simpa using heap_alloc_new w _
 unfold World.cell?;simp only[h];rfl
theorem Pa (w:World)(o:Obj)(b j:Nat)(h:b<w.heap.size):(w.alloc o).cell? ⟨b,j,none⟩=w.cell? ⟨b,j,none⟩:=by
 have h1:(w.alloc o).heap[b]? =w.heap[b]?:=by
  show(w.heap.push o)[b]? =_;rw[Array.getElem?_push,YW (Nat.ne_of_lt h)]
 unfold World.cell?;simp only[h1]
theorem IW (w:World)(o:Obj):w.alloc o=grow w #[o]:=by unfold grow World.alloc;simp
set_option maxRecDepth 100000 in
set_option maxHeartbeats 1000000 in
theorem Wy (s1 s2:ByteArray)(n1 n2:Int)(a2 a3 a4 b2 b3 b4:Value)(ha2:a2.oneCell'=true)(ha3:a3.oneCell'=true)(ha4:a4.oneCell'=true)(hb2:b2.oneCell'=true)(hb3:b3.oneCell'=true)(hb4:b4.oneCell'=true)(W:World) :
  Calls Tryz.prog 37 #[.agg #[.string s1,.int .i64 n1,a2,a3,a4],.agg #[.string s2,.int .i64 n2,b2,b3,b4]] W λe w'=>e = .returned (.int .i64 (Vi (PS n1 n2) (PR s1.toList s2.toList)))∧∃q os',w'=grow (W.drewN q) os':=by
 have hci:=λW=>Sj n1 n2 W;have hcs:=λW=>Si s1 s2 W;generalize PS n1 n2=r1 at hci ⊢;generalize PR s1.toList s2.toList=r2 at hcs ⊢
 go_enter Tryz.func37,Tryz.ntmps37
 go_wp2
 have hm:Tryz.prog.follows .mixedOrders=true:=by kernel_rfl
 refine P2 10 hm (by kernel_rfl) ?_;intro W2 hW2;have hs1:(W.alloc (.cells #[.string s1,.int .i64 n1,a2,a3,a4] 31)).heap.size=W.heap.size+1:=by simp
 have ha:W2.cell? ⟨W.heap.size,0,none⟩=some (.string s1):=by
  rw[hW2];exact(Pa _ _ _ _ (by rw[hs1];omega)).trans (GW ..)
 have hb:W2.cell? ⟨W.heap.size,1,none⟩=some (.int .i64 n1):=by
  rw[hW2];exact(Pa _ _ _ _ (by rw[hs1];omega)).trans (GW ..)
 have c20:W2.cell? ⟨W.heap.size+1,0,none⟩=some (.string s2):=by
  rw[hW2,← hs1];exact GW ..
 have c21:W2.cell? ⟨W.heap.size+1,1,none⟩=some (.int .i64 n2):=by
  rw[hW2,← hs1];exact GW ..
 have hg:∃q os',W2=grow (W.drewN q) os':=⟨1,#[.cells #[.string s1,.int .i64 n1,a2,a3,a4] 31,.cells #[.string s2,.int .i64 n2,b2,b3,b4] 31],by
  rw[hW2,IW,IW,grow_grow];rfl⟩
 have hsz:W.heap.size<W2.heap.size:=by
  rw[hW2];simp[World.drew];omega
 clear hW2 hs1;simp only[List.take_succ_cons,List.take_zero,List.drop_succ_cons,List.drop_zero]
 still_step
 still_step
 still_step
 still_step
 still_call (hci _)
 still_step
 still_step
 still_step
 still_step
 still_call (hcs _)
 refine wpStill_nil ?_
 go_wp2_with (go_at_call 38;refine(XM r1 r2 _ _ _ (GW _ _ _ 0) (GW _ _ _ 1)).mono ?_;rintro e w' ⟨rfl,rfl⟩)
 go_ret
 obtain⟨q,os',rfl⟩:=hg;exact⟨rfl,q,_,by rw[IW,grow_grow]⟩
end Go.Proofs.YtmmbdclkpijkpaaGreatDoor.Q
namespace Go.Proofs
open Go.Shelf
def Tryz.SoL_ren:Go.Shelf.Ren:=⟨fun | 6=>36 | 15=>58 | 14=>57 | 28=>83 | 29=>84 | 20=>75 | 21=>76 | 22=>77 | 23=>78 | 24=>79 | 25=>80 | 26=>81 | 27=>82 | 46=>106 | 47=>107 | 48=>108 | 49=>109 | 50=>110 | 57=>126 | n=>n,fun | 22=>35 | 24=>31 | 25=>74 | 3=>3 | 39=>98 | 0=>0 | 53=>123 | 55=>125 | 4=>4 | 46=>117 | 45=>116 | 50=>41 | 5=>5 | 9=>9 | 66=>143 | 70=>147 | 76=>165 | 77=>166 | n=>n,fun | n=>n⟩
theorem Tryz.SoL:Go.Proofs.SlLaysF0.n6 Tryz.prog Tryz.SoL_ren:={
 mixed:=by kernel_rfl
 f6:=⟨Tryz.f36.name,by decide,Tryz.func36.trans (congrArg some (by kernel_rfl))⟩
 f14:=⟨Tryz.f57.name,by decide,Tryz.func57.trans (congrArg some (by kernel_rfl))⟩
 f15:=Tryz.func58.trans (congrArg some (by kernel_rfl))
 f20:=⟨Tryz.f75.name,by decide,Tryz.func75.trans (congrArg some (by kernel_rfl))⟩
 f21:=⟨Tryz.f76.name,by decide,Tryz.func76.trans (congrArg some (by kernel_rfl))⟩
 f22:=⟨Tryz.f77.name,by decide,Tryz.func77.trans (congrArg some (by kernel_rfl))⟩
 f23:=⟨Tryz.f78.name,by decide,Tryz.func78.trans (congrArg some (by kernel_rfl))⟩
 f24:=⟨Tryz.f79.name,by decide,Tryz.func79.trans (congrArg some (by kernel_rfl))⟩
 f25:=⟨Tryz.f80.name,by decide,Tryz.func80.trans (congrArg some (by kernel_rfl))⟩
 f26:=⟨Tryz.f81.name,by decide,Tryz.func81.trans (congrArg some (by kernel_rfl))⟩
 f27:=⟨Tryz.f82.name,by decide,Tryz.func82.trans (congrArg some (by kernel_rfl))⟩
 f28:=Tryz.func83.trans (congrArg some (by kernel_rfl))
 f29:=Tryz.func84.trans (congrArg some (by kernel_rfl))
 f46:=⟨Tryz.f106.name,by decide,Tryz.func106.trans (congrArg some (by kernel_rfl))⟩
 f47:=Tryz.func107.trans (congrArg some (by kernel_rfl))
 f48:=Tryz.func108.trans (congrArg some (by kernel_rfl))
 f49:=⟨Tryz.f109.name,by decide,Tryz.func109.trans (congrArg some (by kernel_rfl))⟩
 f50:=⟨Tryz.f110.name,by decide,Tryz.func110.trans (congrArg some (by kernel_rfl))⟩
 f57:=⟨Tryz.f126.name,by decide,Tryz.func126.trans (congrArg some (by kernel_rfl))⟩
 t0:=Tryz.underlying0
 a0:=Tryz.isAgg0
 z0:=Tryz.sizeOf0
 v0:=Tryz.zeroValue0
 t3:=Tryz.underlying3
 a3:=Tryz.isAgg3
 z3:=Tryz.sizeOf3
 v3:=Tryz.zeroValue3
 t4:=Tryz.underlying4
 a4:=Tryz.isAgg4
 z4:=Tryz.sizeOf4
 v4:=Tryz.zeroValue4
 t5:=Tryz.underlying5
 a5:=Tryz.isAgg5
 z5:=Tryz.sizeOf5
 v5:=Tryz.zeroValue5
 t9:=Tryz.underlying9
 a9:=Tryz.isAgg9
 z9:=Tryz.sizeOf9
 v9:=Tryz.zeroValue9
 t22:=Tryz.underlying35
 a22:=Tryz.isAgg35
 z22:=Tryz.sizeOf35
 v22:=Tryz.zeroValue35
 t25:=Tryz.underlying74
 a25:=Tryz.isAgg74
 z25:=Tryz.sizeOf74
 v25:=Tryz.zeroValue74
 t39:=Tryz.underlying98
 a39:=Tryz.isAgg98
 z39:=Tryz.sizeOf98
 v39:=Tryz.zeroValue98
 t45:=Tryz.underlying116
 a45:=Tryz.isAgg116
 z45:=Tryz.sizeOf116
 v45:=Tryz.zeroValue116
 t46:=Tryz.underlying117
 a46:=Tryz.isAgg117
 z46:=Tryz.sizeOf117
 v46:=Tryz.zeroValue117
 t50:=Tryz.underlying41
 a50:=Tryz.isAgg41
 z50:=Tryz.sizeOf41
 v50:=Tryz.zeroValue41
 t53:=Tryz.underlying123
 a53:=Tryz.isAgg123
 z53:=Tryz.sizeOf123
 v53:=Tryz.zeroValue123
 t55:=Tryz.underlying125
 a55:=Tryz.isAgg125
 z55:=Tryz.sizeOf125
 v55:=Tryz.zeroValue125
 t66:=Tryz.underlying143
 a66:=Tryz.isAgg143
 z66:=Tryz.sizeOf143
 v66:=Tryz.zeroValue143
 t70:=Tryz.underlying147
 a70:=Tryz.isAgg147
 z70:=Tryz.sizeOf147
 v70:=Tryz.zeroValue147
 t76:=Tryz.underlying165
 a76:=Tryz.isAgg165
 z76:=Tryz.sizeOf165
 v76:=Tryz.zeroValue165
 t77:=Tryz.underlying166
 a77:=Tryz.isAgg166
 z77:=Tryz.sizeOf166
 v77:=Tryz.zeroValue166 }
end Go.Proofs
namespace Go.Proofs.YtmmbdclkpijkpaaGreatDoor.Q
open Go Go.RowKit Go.Sort Go.Shelf Go.Proofs
set_option linter.unusedVariables false
set_option linter.unusedSimpArgs false
theorem Us (n1 n2:Int)(s1 s2:Ae):decide (Vi (PS n1 n2) (PR s1 s2)<0)=Dc n1 n2 s1 s2:=by
 unfold Vi PS PR Dc
 by_cases h1:n1<n2
 ·simp[h1]
 ·by_cases h2:n2<n1
  ·have : ¬ n1=n2:=by omega
   simp[h1,h2,this]
  ·have e:n1=n2:=by omega
   cases h3:Op.bytesLess s1 s2 with
   | true=>simp[e,h3]
   | false=>
    by_cases h4:s1=s2
    ·simp[e,h3,h4,h4▸h3]
    ·have h5:(s1 ==s2)=false:=by simp[h4]
     simp[e,h3,h5]
abbrev Pg:=Ae×Int × {r:List Value // r.length=3∧∀v∈r,v.oneCell'=true}
instance:Inhabited Pg:=⟨([],0,⟨[.bool true,.bool true,.bool true],rfl,λv h=>by simp at h;subst h;rfl⟩)⟩
def Nx (a:Pg):List Value:=.string (B a.1)::.int .i64 a.2.1::a.2.2.1
def XA (a b:Pg):Int:=Vi (PS a.2.1 b.2.1) (PR a.1 b.1)
theorem N7 (a b:Pg):ltOf XA a b=Dc a.2.1 b.2.1 a.1 b.1:=Us ..
theorem XH:SWO (ltOf XA) where
 irrefl x:=by rw[N7];exact MR ..
 trans x y z h1 h2:=by rw[N7] at *;exact OF h1 h2
 ntrans x y z h1 h2:=by rw[N7] at *;exact JC h1 h2
theorem Xc (Z:Fz)(x:Ad)(us:List Value)(h:AN Z (Ah x) us):∃r : {r:List Value // r.length=3∧∀v∈r,v.oneCell'=true},us=Nx (x.fID,x.fAt,r):=by
 have hl:=h.length;have h1:=AN.one (HL x) h;obtain⟨v0,v1,v2,v3,v4,rfl⟩:∃v0 v1 v2 v3 v4,us=[v0,v1,v2,v3,v4]:=by
  match us,hl with
  | [v0,v1,v2,v3,v4],_=>exact⟨_,_,_,_,_,rfl⟩
 obtain⟨h5,h6,h7⟩:=h;have e0:v0 = .string (B x.fID):=h5;have e1:v1 = .int .i64 x.fAt:=h6;subst e0;subst e1;exact⟨⟨[v2,v3,v4],rfl,λv hv=>h1 v (by simp at hv ⊢;rcases hv with h | h | h<;>simp[h])⟩,rfl⟩
theorem KW {Z:Fz}{x:Ad}{a:Pg}(h:AN Z (Ah x) (Nx a)):a.1=x.fID∧a.2.1=x.fAt:=by
 obtain⟨h5,h6,h7⟩:=h;have e0:Value.string (B a.1) = .string (B x.fID):=h5;have e1:Value.int .i64 a.2.1 = .int .i64 x.fAt:=h6;exact⟨Jq e0,(Value.int.inj e1).2⟩
theorem Te (a:Pg):(Nx a).length=5:=by simp[Nx,a.2.2.2.1]
theorem Td (a:Pg):∀v∈Nx a,v.oneCell'=true:=λv h=>by
 simp only[Nx,Zj] at h;rcases h with rfl | rfl | h
 ·rfl
 ·rfl
 ·exact a.2.2.2.2 v h
theorem XU (a b:Pg)(W:World):Calls Tryz.prog 37 #[.agg (Nx a).toArray,.agg (Nx b).toArray] W λe w'=>e = .returned (.int .i64 (XA a b))∧∃q os',w'=grow (W.drewN q) os':=by
 obtain⟨s1,n1,⟨r,hr,ho⟩⟩:=a;obtain⟨s2,n2,⟨t,ht,hp⟩⟩:=b;obtain⟨a2,a3,a4,rfl⟩:∃a2 a3 a4,r=[a2,a3,a4]:=by
  match r,hr with
  | [a2,a3,a4],_=>exact⟨_,_,_,rfl⟩
 obtain⟨b2,b3,b4,rfl⟩:∃a2 a3 a4,t=[a2,a3,a4]:=by
  match t,ht with
  | [a2,a3,a4],_=>exact⟨_,_,_,rfl⟩
 have h:=Wy (B s1) (B s2) n1 n2 a2 a3 a4 b2 b3 b4 (ho _ (by simp)) (ho _ (by simp)) (ho _ (by simp)) (hp _ (by simp)) (hp _ (by simp)) (hp _ (by simp)) W;rw[Dr,Dr] at h;exact h
theorem Vb {v:Value}{e:TypeId}{xs:List Ad}(hd:GK (λx y:Ad=>Dc x.fAt y.fAt x.fID y.fID) xs=true)(hsz:Nat.blt xs.length 4611686018427387904=true) :
  Fn Tryz.prog GE 36 [rv v,rv (.func (.func 37) #[] #[])] [.row v e 5 (xs.map Ah)] (λR H=>R=rv (.tuple #[])∧H=[.row v e 5 ((srt (λx y:Ad=>Dc x.fAt y.fAt x.fID y.fID) xs).map Ah)]):=
 Wm Tryz.SoL Tryz.isAgg31 Tryz.sizeOf31 (λx=>rfl) Nx Te Td XA XH (PH (λx:Ad=>x.fAt) (λx=>x.fID))
  (λZ x us h=>by obtain⟨r,e⟩:=Xc Z x us h;exact⟨_,e⟩)
  (λZ x y a b h1 h2=>by rw[N7,(KW h1).1,(KW h1).2,(KW h2).1,(KW h2).2])
  37 (enters_of Tryz.func37 (by kernel_rfl) rfl) XU hd hsz
end Go.Proofs.YtmmbdclkpijkpaaGreatDoor.Q
namespace Go.Proofs
open Go.Shelf
def Tryz.keys29_ren:Go.Shelf.Ren:=⟨fun | 7=>29 | 10=>50 | n=>n,fun | 23=>52 | 26=>9 | 3=>65 | 28=>62 | 0=>0 | 27=>61 | 33=>91 | 4=>4 | n=>n,fun | n=>n⟩
theorem Tryz.keys29:Go.Proofs.SlLaysZ.n7 Tryz.prog Tryz.keys29_ren:={
 mixed:=by kernel_rfl
 f7:=⟨Tryz.f29.name,by decide,Tryz.func29.trans (congrArg some (by kernel_rfl))⟩
 f10:=⟨Tryz.f50.name,by decide,Tryz.func50.trans (congrArg some (by kernel_rfl))⟩
 t0:=Tryz.underlying0
 a0:=Tryz.isAgg0
 z0:=Tryz.sizeOf0
 v0:=Tryz.zeroValue0
 t4:=Tryz.underlying4
 a4:=Tryz.isAgg4
 z4:=Tryz.sizeOf4
 v4:=Tryz.zeroValue4
 t23:=Tryz.underlying52
 a23:=Tryz.isAgg52
 z23:=Tryz.sizeOf52
 v23:=Tryz.zeroValue52
 t26:=Tryz.underlying9
 a26:=Tryz.isAgg9
 z26:=Tryz.sizeOf9
 v26:=Tryz.zeroValue9
 t27:=Tryz.underlying61
 a27:=Tryz.isAgg61
 z27:=Tryz.sizeOf61
 v27:=Tryz.zeroValue61
 t28:=Tryz.underlying62
 a28:=Tryz.isAgg62
 z28:=Tryz.sizeOf62
 v28:=Tryz.zeroValue62
 t33:=Tryz.underlying91
 a33:=Tryz.isAgg91
 z33:=Tryz.sizeOf91
 v33:=Tryz.zeroValue91 }
def Tryz.collect28_ren:Go.Shelf.Ren:=⟨fun | 8=>28 | 11=>49 | n=>n,fun | 26=>9 | 28=>62 | 24=>59 | 0=>0 | 33=>91 | 4=>4 | n=>n,fun | n=>n⟩
theorem Tryz.collect28:Go.Proofs.SlLaysZ.n8 Tryz.prog Tryz.collect28_ren:={
 mixed:=by kernel_rfl
 f8:=⟨Tryz.f28.name,by decide,Tryz.func28.trans (congrArg some (by kernel_rfl))⟩
 f11:=⟨Tryz.f49.name,by decide,Tryz.func49.trans (congrArg some (by kernel_rfl))⟩
 t0:=Tryz.underlying0
 a0:=Tryz.isAgg0
 z0:=Tryz.sizeOf0
 v0:=Tryz.zeroValue0
 t24:=Tryz.underlying59
 a24:=Tryz.isAgg59
 z24:=Tryz.sizeOf59
 v24:=Tryz.zeroValue59
 t26:=Tryz.underlying9
 a26:=Tryz.isAgg9
 z26:=Tryz.sizeOf9
 v26:=Tryz.zeroValue9
 t28:=Tryz.underlying62
 a28:=Tryz.isAgg62
 z28:=Tryz.sizeOf62
 v28:=Tryz.zeroValue62
 i26:=by kernel_rfl }
end Go.Proofs
namespace Go.Proofs.YtmmbdclkpijkpaaGreatDoor.Q
open Go Go.RowKit Go.Maps Go.Sort Go.Shelf Go.Proofs
set_option linter.unusedVariables false
set_option maxHeartbeats 1000000
theorem P6 {Z:Fz}{v:Value}{vs:List Value}(h:AN Z [rv v] vs):vs=[v]:=AN.eq_rv (us:=[v]) h
theorem RN {T:Type}(enc:T→Rp)(xs:List (Ae×T)):(AY enc xs).map (·.1)=xs.map (·.1):=by simp[AY]
theorem PF (b:Nat):Fn Tryz.prog GE 29 [rv (.map (some b))] [] (λR H=>∃k:Nat,R=rv (.func (.func 50) #[] #[.pointer (some ⟨k,0,none⟩)])∧H=[.blk k [rv (.map (some b))] 52]):=λw Z vs hv hs=>by
 have e:=P6 hv;subst e;have hc:Calls Tryz.prog 29 #[.map (some b)] w (λe w'=>e = .returned (.func (.func 50) #[] #[.pointer (some ⟨w.heap.size,0,none⟩)])∧w'=w.alloc (.cells #[.map (some b)] 52)):=callsIn_wide.1 (AnyZ.keys_in Tryz.keys29 Fence.wide 5 trivial rfl (some b) w);refine hc.mono ?_;rintro e w' ⟨rfl,rfl⟩;exact⟨_,_,_,Z,rfl,⟨w.heap.size,rfl,rfl⟩,rfl,hs.alloc _ ⟨[.map (some b)],by simpa using heap_alloc_new w _,rfl,trivial⟩ rfl⟩
theorem NG {T:Type}(enc:T→Rp)(xs:List (Ae×T))(k b:Nat)(hk:keysOk xs=true):Fn Tryz.prog GE 28 [rv (.func (.func 50) #[] #[.pointer (some ⟨k,0,none⟩)])] [.blk k [rv (.map (some b))] 52,.map b (AY enc xs)] (λR H=>∃ (v:Value) (ks:List Ae),R=rv v∧ks.Perm (xs.map (·.1))∧H=[.row v 9 1 (ks.map eS),.blk k [rv (.map (some b))] 52,.map b (AY enc xs)]):=λw Z vs hv hs=>by
 have e:=P6 hv;subst e;obtain⟨us,h1,h2⟩:=hs.ent (i:=0) rfl;have e2:=P6 h2;subst e2;obtain⟨es,ck,h3,h4⟩:=hs.ent (i:=1) rfl;unfold keysOk at hk;simp only[Yv,Yq,YL] at hk;have hlen:(AY enc xs).length=xs.length:=HG enc xs;have hkl:∀p∈AY enc xs,p.1.length≤maxLen:=λp hp=>by
  obtain⟨y,hy,rfl⟩:=List.mem_map.1 hp;have:=hk.2 y hy;have e:maxLen=9223372036854775807:=rfl;rw[e];simpa[UA] using this
 obtain⟨D0,d1,d2,d3⟩:=Vh (k:=9) Tryz.underlying9 h3 h4 hkl (by rw[hlen];have:=hk.1;have e:maxLen=9223372036854775807:=rfl;omega);have hkb:k<w.heap.size:=(Array.getElem?_eq_some_iff.1 h1).1;have hcell:w.cell? ⟨k,0,none⟩=some (.map (some b)):=by simp[World.cell?,h1]
 have hseq:SeqGives Fence.wide 3 Tryz.prog 50 #[.pointer (some ⟨k,0,none⟩)] encStr (λss=>ss.Perm (strKeys D0)) (Maps.size D0) w:=
  AnyZ.keys_gives (ρ:=Tryz.keys29_ren) { Tryz.keys29 with } Fence.wide _ trivial rfl (by omega) k b es.size D0 w hkb hcell d1
 have hc:=AnyZ.collect_in Tryz.collect28 Fence.wide 5 trivial trivial rfl (by omega) 50 #[.pointer (some ⟨k,0,none⟩)] trivial (enters_of Tryz.func50 (by kernel_rfl) rfl) _ (Maps.size D0) (by rw[d3,hlen];have:=hk.1;have e:maxLen=9223372036854775807:=rfl;omega) (by rw[d3,hlen];exact hk.1) w hseq;refine(callsIn_wide.1 hc).mono ?_;rintro e w' ⟨v,ss,rfl,hS,hrow,hnil,hb⟩;have hp:ss.Perm (xs.map (·.1)):=hS.trans (by rw[← RN enc xs];exact d2);exact⟨_,v,_,Z,rfl,⟨v,ss,rfl,hp,rfl⟩,rfl,hs.newrow hb hrow⟩
open Go Go.RowKit
set_option linter.unusedSimpArgs false
set_option maxRecDepth 100000
set_option maxHeartbeats 4000000
@[reducible] def EP (x:Ab):List Rp:=[rS x.fTimer.fID,Ao x.fTimer.fAt,rS x.fTimer.fTenant,rS x.fTimer.fSource,Bz 4 (AG Ac x.fTimer.fBody),rB x.fTold]
@[reducible] def Al (x:Ab):Rp:=Bm (EP x)
theorem DH (Z:Fz):(Al (Ab.mk (Ad.mk ([]:Ae) 0 ([]:Ae) ([]:Ae) ([]:(List Aa))) false)).p Z (.agg #[(.string ⟨#[]⟩),(.int .i64 0),(.string ⟨#[]⟩),(.string ⟨#[]⟩),(.slice none 0 0),(.bool false)]):=⟨[.string ⟨#[]⟩,.int .i64 0,.string ⟨#[]⟩,.string ⟨#[]⟩,.slice none 0 0,.bool false],rfl,rfl,rfl,rfl,rfl,Pj.nil _ _,rfl,trivial⟩
theorem W5:∃inf,Tryz.prog.info? 31=some inf∧inf.zero=some (.agg #[(.string ⟨#[]⟩),(.int .i64 0),(.string ⟨#[]⟩),(.string ⟨#[]⟩),(.slice none 0 0)])∧inf.size=5∧inf.bytes=80:=by
  have key:(Tryz.prog.info? 31).map (λi=>(i.zero,i.size,i.bytes))=some (some (.agg #[(.string ⟨#[]⟩),(.int .i64 0),(.string ⟨#[]⟩),(.string ⟨#[]⟩),(.slice none 0 0)]),5,80):=by kernel_rfl
  obtain⟨inf,h1,h2⟩:=Option.map_eq_some_iff.1 key;simp only[Prod.mk.injEq] at h2;exact⟨inf,h1,h2.1,h2.2.1,h2.2.2⟩
theorem VG (parts:List (Nat×Value)):Tryz.prog.built 54 parts=Instr.fill (λi=>(#[(0,1)]:Array (Nat×Nat))[i]?) #[((.map none))] parts:=by kernel_rfl
theorem O5 {n:Nat}{c:Cx}{l:Fr}{H:List Ent}{d:Option Nat}{ty:TypeId}{pos:String}{af:Array Edge}{g:Option (Nat×Bool)}{x0:Operand}{r0:Rp}(h0:ev l x0=some r0)(u0:r0.one=true):AZ Tryz.prog n c l H { dst:=d,op:=.build 54 #[(0,x0)],type:=ty,pos:=pos,after:=af,guard:=g } (Bm [r0]):=λa w Z ha _=>by
  have p0:=ha.ev h0;have c0:=BA (r0.hone u0 Z _ p0);have hb:Tryz.prog.built 54 [(0,a.eval x0)]=some #[a.eval x0]:=by
    rw[VG];generalize a.eval x0=v0 at *;simp[Instr.fill,c0]
  refine⟨.agg #[a.eval x0],⟨[a.eval x0],rfl,p0,trivial⟩,?_⟩;have:=run_build w 54 #[(0,a.eval x0)] _ (by simpa using hb);simp[execOp,this]
theorem VF (parts:List (Nat×Value)):Tryz.prog.built 65 parts=Instr.fill (λi=>(#[(0,5),(5,1)]:Array (Nat×Nat))[i]?) #[(.string ⟨#[]⟩),(.int .i64 0),(.string ⟨#[]⟩),(.string ⟨#[]⟩),((.slice none 0 0)),(.bool false)] parts:=by kernel_rfl
theorem O4 {n:Nat}{c:Cx}{l:Fr}{H:List Ent}{d:Option Nat}{ty:TypeId}{pos:String}{af:Array Edge}{g:Option (Nat×Bool)}{x0:Operand}{r0_0 r0_1 r0_2 r0_3 r0_4:Rp}(h0:ev l x0=some (Bm [r0_0,r0_1,r0_2,r0_3,r0_4])):AZ Tryz.prog n c l H { dst:=d,op:=.build 65 #[(0,x0)],type:=ty,pos:=pos,after:=af,guard:=g } (Bm [r0_0,r0_1,r0_2,r0_3,r0_4,rB false]):=λa w Z ha _=>by
  obtain⟨us0,e0,q0⟩:=ha.ev h0;obtain⟨y0_0,y0_1,y0_2,y0_3,y0_4,rfl,q0⟩:=AN.d5 q0;have hb:Tryz.prog.built 65 [(0,a.eval x0)]=some #[y0_0,y0_1,y0_2,y0_3,y0_4,(.bool false)]:=by
    rw[VF];simp[Instr.fill,e0,Value.cells]
  refine⟨.agg #[y0_0,y0_1,y0_2,y0_3,y0_4,(.bool false)],⟨[y0_0,y0_1,y0_2,y0_3,y0_4,(.bool false)],rfl,q0.1,q0.2.1,q0.2.2.1,q0.2.2.2.1,q0.2.2.2.2.1,rfl,trivial⟩,?_⟩;have:=run_build w 65 #[(0,a.eval x0)] _ (by simpa using hb);simp[execOp,this]
theorem Pu  (r:A5)(h:Pv=some r):Fn Tryz.prog GE 7 [] [] (λR H=>∃u0:Nat,∃u0_0:Nat,R=rP u0 0∧H=[.blk u0 [rv (.map (some u0_0))] 54,.map u0_0 (AY Al r.fTimers)]):=by
 refine enter (n:=4) Tryz.func7 rfl Tryz.ntmps7 rfl (λw Z=>?_);unfold Pv at h;refine Aj (wa rfl (B5 (Rf rfl (λb1=>?_))));refine wv (r:=Bm [rv (.map (some b1))]) (O5 rfl rfl) (Cr rfl rfl (λb2=>?_));refine wa rfl (Aw (A1 ?_));obtain rfl:=A2 h;exact A0 (BX Tryz.results7 (AP rfl)) (sC (sC sN)) ⟨b2,b1,rfl,rfl⟩
theorem Jn (hb:Nat)(ha:Nat)(q:A5)(r:Bool×A5)(h:Hv q=some r):Fn Tryz.prog GE 27 [rP hb 0] [.blk hb [rv (.map (some ha))] 54,.map ha (AY Al q.fTimers)] (λR H=>R=rB r.1∧H=[.blk hb [rv (.map (some ha))] 54,.map ha (AY Al r.2.fTimers)]):=by
 refine enter (n:=12) Tryz.func27 rfl Tryz.ntmps27 rfl (λw Z=>?_);unfold Hv at h;refine Aj (wa rfl (Aw (AH [(2,rB true)] [.blk hb [rv (.map (some ha))] 54,.map ha (AY Al q.fTimers)] ?_ ?_)))
 ·refine Ak (wm rfl (wv (r:=rB true) (MJ ⟨_,S8⟩ rfl) (wm rfl (AJ (b:=true) rfl rfl rfl (wm rfl (AJ (b:=true) rfl rfl rfl (wv (Aq rfl) (AJ (b:=true) rfl rfl rfl (vF Lk rfl Ll (AJ (b:=true) rfl rfl rfl (vL 0 Ln rfl (AJ (b:=true) rfl rfl rfl (wv (r:=rB true) (RB (v:=some ha) Mj rfl) (wv (r:=rB true) (Ax (b:=true) rfl rfl rfl) (wa rfl (An ?_))))))))))))))));exact wt
 refine A1 ?_;obtain rfl:=A2 h;exact A0 (BX Tryz.results27 (AP rfl)) (sC (sC sN)) ⟨rfl,rfl⟩
theorem Ql (ha:Nat)(t:Ad)(now:Int)(r:Bool)(h:L3 t now=some r):Fn Tryz.prog GE 31 [Bm (Ah t),rP ha 0] [.blk ha [Ao now] 3] (λR H=>R=rB r∧H=[.blk ha [Ao now] 3]):=by
 refine enter (n:=8) Tryz.func31 rfl Tryz.ntmps31 rfl (λw Z=>?_);unfold L3 at h;refine Aj (Cr rfl rfl (λb1=>?_));refine wa rfl (B5 (vF CC rfl C2 (vL 0 De rfl (vL 1 De rfl (wv (Et rfl rfl) (wa rfl (Aw (A1 ?_))))))));obtain rfl:=A2 h;exact A0 (BX Tryz.results31 (AP rfl)) (sS (sC sN)) ⟨rfl,rfl⟩
theorem ON (F:Nat)(ha:Value)(hb:Nat)(ys:(List Ad))(now:Int)(r:Int)(h:GT F ys now=some r):Fn Tryz.prog GE 51 [rv ha,rv (.func (.func 31) #[] #[(.pointer (some ⟨hb,0,none⟩))])] [.row ha 31 5 (AG Ah ys),.blk hb [Ao now] 3] (λR H=>R=Ao r∧H=[.row ha 31 5 (AG Ah ys),.blk hb [Ao now] 3]):=by
 refine enter (n:=19) Tryz.func51 rfl Tryz.ntmps51 rfl (λw Z=>?_);unfold GT at h;refine Aj (wa rfl (Aw (Ap (Aj (wm rfl (wv (BY (ys:=ys) (enc:=Ah) (i:=0) EX rfl rfl) (wv (r:=Ao 0) (Am rfl) (Aw (AO (ob h λhj hk hh=>BH (S:=Nat×(Int)×(Unit)) (V:=(Unit)×(Unit)) 0 (λσ=>Cs (λσ=>C5 ys now σ) σ.1 σ.2.1=some hj) (λσ=>[(0,rv ha),(1,rv (.func (.func 31) #[] #[(.pointer (some ⟨hb,0,none⟩))])),(4,Ao 0),(7,Ao (ys.length:Int)),(8,Ao σ.2.1)]) (λσ=>[.row ha 31 5 (AG Ah ys),.blk hb [Ao now] 3]) (λσ=>σ.1) (F,0,()) hk (AD.c5 rfl rfl rfl rfl rfl AD.nil) (sC (sC sN)) (λσ=>EN =some r) (λσ=>[(4,Ao 0)]) (λσ=>[.row ha 31 5 (AG Ah ys),.blk hb [Ao now] 3]) ?_ ?_))))))))))
 ·rintro⟨h4,hd,⟨⟩⟩ hl;refine Cn (l':=[(0,rv ha),(1,rv (.func (.func 31) #[] #[(.pointer (some ⟨hb,0,none⟩))])),(4,Ao 0),(7,Ao (ys.length:Int)),(8,Ao hd)]) (H':=[.row ha 31 5 (AG Ah ys),.blk hb [Ao now] 3]) rfl rfl ?_;obtain⟨hm,rfl,hn,he,hg⟩:=DY hl;replace he:C5 ys now hd=some hn:=he;unfold C5 at he;refine Aj (wv (E1 rfl rfl) (Aw (Ap (cz he rfl (λho hp=>?_) (λho hq=>?_)))))
  ·refine A3 (AS (Ap (AO (Aj (wm rfl (wa rfl (B5 (wm rfl (wm rfl (wm rfl (ck hp λhi hr=>wv (r:=rv (D6 5 ha (Bh hd) 0)) (E2 (i:=0) EX Ci rfl rfl rfl (Bk hi)) (wv (r:=Bm (Ah (Ar ys hd))) (Q6 (enc:=Ah) (ys:=ys) (i:=0) (j:=hd) EY Ci rfl rfl hi rfl rfl) (ob hr λhs ht hu=>KS (rs:=[Bm (Ah (Ar ys hd))]) (Hin:=[.blk hb [Ao now] 3]) (Hr:=[.row ha 31 5 (AG Ah ys)]) Tryz.call31 rfl rfl ((As (i:=1) rfl).trans (Yy _ (Ys _))) (Ql hb (Ar ys hd) now hs ht) rfl ?_)))))))))))));rintro _ _ ⟨rfl,rfl⟩;refine Aw (cz hu rfl (λhw hx=>?_) (λhw hy=>?_))
   ·refine Aj (wm rfl (wa rfl (Aw (A1 (A6 (Af (Af (Bj ?_))))))));have hz:=BB hx hg hh;refine A6 (Af (Ce (H2:=[.row ha 31 5 (AG Ah ys),.blk hb [Ao now] 3]) ((As (i:=1) rfl).trans (Yy _ (Ys _))) ?_));obtain rfl:=A2 hz;exact A0 (BX Tryz.results51 (AP rfl)) (sC (sC sN)) ⟨rfl,rfl⟩
   ·refine A3 (AK (AS (Ak (ck hy λh0 h1=>wv (BQ rfl rfl h0) (wm rfl (An (Ce (H2:=[.row ha 31 5 (AG Ah ys),.blk hb [Ao now] 3]) ((As (i:=1) rfl).trans (Yy _ (Ys _))) ?_)))))));have h2:=BD h1 hg;exact Au (AF (hm,hd+1,()) ⟨h2,YI _⟩ (AD.c5 rfl rfl rfl rfl rfl AD.nil) (sC (sC sN)))
  ·refine BJ (AB ?_);have h3:=CY hq hg hh;exact AB (B4 (AF ((),()) h3 (AD.c rfl AD.nil) (sC (sC sN))))
 ·rintro⟨⟨⟩,⟨⟩⟩ hf;refine Eh (l':=[(4,Ao 0)]) (H':=[.row ha 31 5 (AG Ah ys),.blk hb [Ao now] 3]) rfl rfl ?_;replace hf:EN =some r:=hf;unfold EN at hf;refine Bt (AS (Aj (wv (r:=Ao (-1)) (Az rfl) (Aw (A1 ?_)))));obtain rfl:=A2 hf;exact A0 (BX Tryz.results51 (AP rfl)) (sC (sC sN)) ⟨rfl,rfl⟩
theorem NE (F:Nat)(hd:Value)(he:Nat)(ys:(List Ad))(now:Int)(r:(List Ad))(h:Gn F ys now=some r):Fn Tryz.prog GE 30 [rv hd,rv (.func (.func 31) #[] #[(.pointer (some ⟨he,0,none⟩))])] [.row hd 31 5 (AG Ah ys),.blk he [Ao now] 3] (λR H=>∃u0:Value,R=rv u0∧H=[.row u0 31 5 (AG Ah r),.blk he [Ao now] 3]):=by
 refine enter (n:=42) Tryz.func30 rfl Tryz.ntmps30 rfl (λw Z=>?_);unfold Gn at h;refine Aj (wa rfl (B5 (wm rfl (wm rfl (ob h λr1 e3 h2=>Du (Hr:=[]) Tryz.call51 (ON F hd he ys now r1 e3) rfl (Ys _) rfl ?_)))));rintro _ _ ⟨rfl,rfl⟩;refine wa rfl (Aw (Ap (Aj (wm rfl (wv (BP rfl rfl) (Aw (cz h2 rfl (λc4 h5=>?_) (λc4 h6=>?_))))))))
 ·refine Aj (wm rfl (wa rfl (Aw (A1 (Af ?_)))));obtain rfl:=A2 h5;exact A0 (BX Tryz.results30 (AP rfl)) (sC (sC sN)) ⟨hd,rfl,rfl⟩
 ·refine A3 (AS (Ap (Aj (wm rfl (ck h6 λg7 h8=>wv (BQ rfl rfl g7) (wa rfl (Aw (AO (ob h8 λhw hx hy=>BH (S:=Nat×(Int×Int×(List Ad))×(Unit)) (V:=(Int×(List Ad))×(Unit)) 0 (λσ=>Cs (λσ=>Cp now σ.1 σ.2.1 σ.2.2) σ.1 σ.2.1=some hw) (λσ=>[(0,rv hd),(1,rv (.func (.func 31) #[] #[(.pointer (some ⟨he,0,none⟩))])),(4,rv (.slice none 0 0)),(5,Ao σ.2.1.1),(6,Ao σ.2.1.2.1)]) (λσ=>[.row hd 31 5 (AG Ah σ.2.1.2.2),.blk he [Ao now] 3]) (λσ=>σ.1) (F,(r1,r1+1,ys),()) hx (AD.c5 rfl rfl rfl rfl rfl AD.nil) (sC (sC sN)) (λσ=>DC σ.1.1 σ.1.2=some r) (λσ=>[(0,rv hd),(4,rv (.slice none 0 0)),(5,Ao σ.1.1)]) (λσ=>[.row hd 31 5 (AG Ah σ.1.2),.blk he [Ao now] 3]) ?_ ?_)))))))))
  ·rintro⟨hU,⟨hf,ha,hb⟩,⟨⟩⟩ hz;refine Cn (l':=[(0,rv hd),(1,rv (.func (.func 31) #[] #[(.pointer (some ⟨he,0,none⟩))])),(4,rv (.slice none 0 0)),(5,Ao hf),(6,Ao ha)]) (H':=[.row hd 31 5 (AG Ah hb),.blk he [Ao now] 3]) rfl rfl ?_;obtain⟨h0,rfl,t145,hj,hp⟩:=DY hz;replace hj:Cp now hf ha hb=some t145:=hj;unfold Cp at hj;refine Ap (Aj (wm rfl (wm rfl (wv (BY (ys:=hb) (enc:=Ah) (i:=0) EX rfl rfl) (wv (E1 rfl rfl) (Aw (cz hj rfl (λh1 h3=>?_) (λh1 h4=>?_))))))))
   ·refine A3 (AS (Ct (S:=(Int×Bool×Bool×(List Ad))×(Unit)) (λσ=>C9 ha σ.1.1 σ.1.2.1 σ.1.2.2.1 σ.1.2.2.2=some t145) (λσ=>[(0,rv hd),(1,rv (.func (.func 31) #[] #[(.pointer (some ⟨he,0,none⟩))])),(4,rv (.slice none 0 0)),(5,Ao σ.1.1),(6,Ao ha),(16,Ao ha),(17,rv hd),(18,Ao (hb.length:Int)),(19,rB (decide (ha<(hb.length:Int)))),(22,rv hd),(23,Ao ha),(25,Bm (Ah (Ar hb ha))),(26,rv (.func (.func 31) #[] #[(.pointer (some ⟨he,0,none⟩))])),(27,Bm (Ah (Ar hb ha))),(28,rB σ.1.2.1),(29,rB σ.1.2.2.1)]) (λσ=>[.blk he [Ao now] 3,.row hd 31 5 (AG Ah σ.1.2.2.2)]) ?_ ?_))
    ·refine AO (Aj (wm rfl (wm rfl (ck h3 λhq h7=>wv (r:=rv (D6 5 hd (Bh ha) 0)) (E2 (i:=0) EX Ci rfl rfl rfl (Bk hq)) (wv (r:=Bm (Ah (Ar hb ha))) (Q6 (enc:=Ah) (ys:=hb) (i:=0) (j:=ha) EY Ci rfl rfl hq rfl rfl) (Cl (cs:=[rS ([]:Ae),Ao 0,rS ([]:Ae),rS ([]:Ae),rv (.slice none 0 0)]) NR rfl rfl (λhn=>?_)))))));refine By (i:=0) Ci rfl rfl rfl (BI.c rfl) rfl rfl (cs':=[rS ((Ar hb ha).fID),Ao ((Ar hb ha).fAt),rS ((Ar hb ha).fTenant),rS ((Ar hb ha).fSource),Bz 4 (AG Ac ((Ar hb ha).fBody))]) rfl (H':=[.blk hn (Ah (Ar hb ha)) 31,.row hd 31 5 (AG Ah hb),.blk he [Ao now] 3]) rfl (B5 (wm rfl (wv (B2 (i:=0) EY Ci rfl rfl rfl rfl) (ob h7 λhg h9 hA=>KS (rs:=[Bm (Ah (Ar hb ha))]) (Hin:=[.blk he [Ao now] 3]) (Hr:=[.blk hn (Ah (Ar hb ha)) 31,.row hd 31 5 (AG Ah hb)]) Tryz.call31 rfl rfl ((As (i:=2) rfl).trans (Yy _ (Ys _))) (Ql he (Ar hb ha) now hg h9) rfl ?_))));rintro _ _ ⟨rfl,rfl⟩;refine wv (BK rfl) (Aw (cz hA rfl (λhB hC=>?_) (λhB hD=>?_)))
     ·refine Aj (wm rfl (wm rfl (wv (B2 (i:=1) EY Ci rfl rfl rfl rfl) (ck hC λhr hE=>wv (r:=rv (D6 5 hd (Bh hf) 0)) (E2 (i:=2) EX Ci rfl rfl rfl (Bk hr)) (UR (enc:=Ah) (ys:=hb) (y':=(Ar hb ha)) (i:=2) (j:=hf) Ci rfl rfl (BI.c rfl) rfl hr rfl rfl rfl (H':=[.blk he [Ao now] 3,.blk hn (Ah (Ar hb ha)) 31,.row hd 31 5 (AG Ah (List.set hb (Bh hf) (Ar hb ha)))]) rfl (bd hE λhG hH hI=>?_))))));rw[← hH];exact Aw (Ak (wm rfl (ck hI λhJ hK=>wv (BQ rfl rfl hJ) (wa rfl (An (AK (Au (AF ((hf+1,hg,!hg,hG),()) hK (AD.c rfl (AD.c5 rfl rfl rfl rfl rfl (AD.c5 rfl rfl rfl rfl rfl (AD.c5 rfl rfl rfl rfl rfl AD.nil)))) (sC (sS (sC sN)))))))))))
     ·exact A3 (AK (Au (AF ((hf,hg,!hg,hb),()) hD (AD.c rfl (AD.c5 rfl rfl rfl rfl rfl (AD.c5 rfl rfl rfl rfl rfl (AD.c5 rfl rfl rfl rfl rfl AD.nil)))) (sC (sS (sC sN))))))
    ·rintro⟨⟨ho,hs,ht,hk⟩,⟨⟩⟩ hl;refine Cn (l':=[(0,rv hd),(1,rv (.func (.func 31) #[] #[(.pointer (some ⟨he,0,none⟩))])),(4,rv (.slice none 0 0)),(5,Ao ho),(6,Ao ha),(16,Ao ha),(17,rv hd),(18,Ao (hb.length:Int)),(19,rB (decide (ha<(hb.length:Int)))),(22,rv hd),(23,Ao ha),(25,Bm (Ah (Ar hb ha))),(26,rv (.func (.func 31) #[] #[(.pointer (some ⟨he,0,none⟩))])),(27,Bm (Ah (Ar hb ha))),(28,rB hs),(29,rB ht)]) (H':=[.blk he [Ao now] 3,.row hd 31 5 (AG Ah hk)]) rfl rfl ?_;replace hl:C9 ha ho hs ht hk=some t145:=hl;unfold C9 at hl;refine Ak (wm rfl (ck hl λhL hN=>wv (BQ rfl rfl hL) (wa rfl (An (Ce (H2:=[.row hd 31 5 (AG Ah hk),.blk he [Ao now] 3]) ((As (i:=1) rfl).trans (Yy _ (Ys _))) ?_)))));have hO:=BD hN hp;exact Au (AF (h0,(ho,ha+1,hk),()) ⟨hO,YI _⟩ (AD.c5 rfl rfl rfl rfl rfl AD.nil) (sC (sC sN)))
   ·refine BJ (AB ?_);have hP:=CY h4 hp hy;exact AB (B4 (AF ((hf,hb),()) hP (AD.c rfl (AD.c rfl (AD.c rfl AD.nil))) (sC (sC sN))))
  ·rintro⟨⟨hh,hi⟩,⟨⟩⟩ hm;refine Eh (l':=[(0,rv hd),(4,rv (.slice none 0 0)),(5,Ao hh)]) (H':=[.row hd 31 5 (AG Ah hi),.blk he [Ao now] 3]) rfl rfl ?_;replace hm:DC hh hi=some r:=hm;unfold DC at hm;refine Bt (AS (Aj (wm rfl (wm rfl (ck hm λhu hQ=>wv (r:=rv (L5 5 hd (Bh hh))) (Wt (i:=0) EX Ci rfl rfl rfl hu) (Nq (ys:=hi) (enc:=Ah) (i:=0) (z0:=Ad.mk ([]:Ae) 0 ([]:Ae) ([]:Ae) ([]:(List Aa))) EX NR rfl rfl rfl (by decide) (λZ=>⟨rfl,rfl,rfl,rfl,Pj.nil _ _,trivial⟩) rfl rfl rfl hu (H':=[.row hd 31 5 (AG Ah (List.take (Bh hh) hi++List.replicate (hi.length-Bh hh) (Ad.mk ([]:Ae) 0 ([]:Ae) ([]:Ae) ([]:(List Aa))))),.blk he [Ao now] 3]) rfl (B5 (wm rfl (wm rfl (ck hQ λhR hS=>VP (i:=0) EX Ci rfl rfl rfl hR rfl (λhT=>?_)))))))))));refine wa rfl (Aw (A1 ?_));obtain rfl:=A2 hS;exact A0 (BX Tryz.results30 (AP rfl)) (sC (sC sN)) ⟨hT,rfl,rfl⟩
theorem KT (hb:Nat)(ha:Nat)(q:A5)(r:(List Ad)×A5)(h:K5 q=some r):Fn Tryz.prog GE 14 [rP hb 0] [.blk hb [rv (.map (some ha))] 54,.map ha (AY Al q.fTimers)] (λR H=>∃u0:Value,R=rv u0∧H=[.row u0 31 5 (AG Ah r.1),.blk hb [rv (.map (some ha))] 54,.map ha (AY Al r.2.fTimers)]):=by
 refine enter (n:=27) Tryz.func14 rfl Tryz.ntmps14 rfl (λw Z=>?_);unfold K5 at h;refine Aj (wa rfl (Aw (Ap (Aj (wm rfl (ob h λr1 e3 h2=>Du (Hr:=[]) SD (Jn hb ha q r1 e3) rfl (Ys _) rfl ?_))))));rintro _ _ ⟨rfl,rfl⟩;refine wv (BK rfl) (Aw (cz h2 rfl (λc4 h5=>?_) (λc4 h6=>?_)))
 ·refine Aj (wa rfl (Aw (A1 (Af (WK.nilrow (e:=31) (sz:=5) ?_)))));obtain rfl:=A2 h5;exact A0 (BX Tryz.results14 (AP rfl)) (sC (sC (sC sN))) ⟨(.slice none 0 0                               ),rfl,rfl⟩
 ·refine A3 (AS (Aj (wa rfl (Aw (Ap (Aj (wm rfl (wv (Aq rfl) (vF Lk rfl Ll (vL 0 Ln rfl (UL (i:=1) Mj rfl rfl rfl (λb7=>?_))))))))))));refine Aw (AO (WC.nilrow (e:=31) (sz:=5) (No (H2:=[.blk hb [rv (.map (some ha))] 54,.mit ha b7 (AY Al r1.2.fTimers) (AY Al r1.2.fTimers) none,.row (.slice none 0 0                               ) 31 5 (AG Ah ([]:List Ad))]) ((As (i:=1) rfl).trans (Yy _ ((As (i:=1) rfl).trans (Yy _ (Ys _))))) ?_)));have hq:=TF h6;refine BH (S:=(List (Ae×Ab))×((List Ad))×(Value)) (V:=((List Ad))×(Value)) 0 (λσ=>∀q:List (Ae×Ab),q.Perm σ.1→B0 (QC (λp τ=>Gh p.1 p.2 τ) q σ.2.1) (BN λν=>Gg r1 ν)=some r) (λσ=>[(2,rv (.slice none 0 0)),(3,rv σ.2.2),(13,rP b7 0)]) (λσ=>[.blk hb [rv (.map (some ha))] 54,.mit ha b7 (AY Al r1.2.fTimers) (AY Al σ.1) none,.row σ.2.2 31 5 (AG Ah σ.2.1)]) (λσ=>σ.1.length) (r1.2.fTimers,([]:List Ad),(.slice none 0 0                               )) hq (AD.c rfl (AD.c rfl (AD.c rfl AD.nil))) (sC (sC (sC sN))) (λσ=>Gg r1 σ.1=some r) (λσ=>[(2,rv (.slice none 0 0)),(3,rv σ.2),(13,rP b7 0)]) (λσ=>[.blk hb [rv (.map (some ha))] 54,.map ha (AY Al r1.2.fTimers),.row σ.2 31 5 (AG Ah σ.1)]) ?_ ?_
  ·rintro⟨hl,he,hf⟩ hm;refine Cn (l':=[(2,rv (.slice none 0 0)),(3,rv hf),(13,rP b7 0)]) (H':=[.blk hb [rv (.map (some ha))] 54,.mit ha b7 (AY Al r1.2.fTimers) (AY Al hl) none,.row hf 31 5 (AG Ah he)]) rfl rfl (Aj (Wg (enc:=Al) (ys:=hl) (i:=1) rfl rfl rfl (λhy=>?_) (λp hg hn=>?_)))
   ·have hr:Gg r1 he=some r:=Vv hm hy;exact wv (AI rfl rfl) (Aw (Ap (CU rfl rfl (BJ (AB (WK.unmit (i:=1) rfl (AB (B4 (AF (he,hf) hr (AD.c rfl (AD.c rfl (AD.c rfl AD.nil))) (sC (sC (sC sN))))))))))))
   ·obtain⟨hh,x16⟩:=p;obtain⟨hs,hi,ht⟩:=Xo hm hn;replace hi:Gh hh x16 he=some hs:=hi;unfold Gh at hi;refine Wd (H':=[.blk hb [rv (.map (some ha))] 54,.mit ha b7 (AY Al r1.2.fTimers) (AY Al hg) (some (hh,Al x16)),.row hf 31 5 (AG Ah he)]) rfl (wv (AI rfl rfl) (Aw (Ap (DU rfl rfl (A3 (AS (AO (Aj (wv (r:=C0 [rS hh,Bm (EP x16)]) (Vp (i:=1) rfl rfl) (wv (AI rfl rfl) (Cl (cs:=[rS ([]:Ae),Ao 0,rS ([]:Ae),rS ([]:Ae),rv (.slice none 0 0),rB false]) NQ rfl rfl (λho=>?_))))))))))));refine By (i:=0) S9 rfl rfl rfl (BI.c rfl) rfl rfl (cs':=[rS x16.fTimer.fID,Ao x16.fTimer.fAt,rS x16.fTimer.fTenant,rS x16.fTimer.fSource,Bz 4 (AG Ac x16.fTimer.fBody),rB x16.fTold]) rfl (H':=[.blk ho (EP x16) 65,.blk hb [rv (.map (some ha))] 54,.mit ha b7 (AY Al r1.2.fTimers) (AY Al hg) (some (hh,Al x16)),.row hf 31 5 (AG Ah he)]) rfl (Aw (Ak (wm rfl (vF Ra rfl Ci (wv (B2 (i:=0) EY Ci rfl rfl rfl rfl) (ob hi λhd hu hw=>HX Tryz.call35 (SS x16.fTimer hd hu) rfl (Bo (ys:=([hd]:List Ad)) (enc:=Ah) (css:=[[rS hd.fID,Ao hd.fAt,rS hd.fTenant,rS hd.fSource,Bz 4 (AG Ac hd.fBody)]]) (xs:=[.tmp 21]) EX Ci NR rfl rfl rfl ⟨Ja.agg ⟨Up.refl _,Up.refl _,Up.refl _,Up.refl _,Up.refl _,trivial⟩,trivial⟩ rfl HM rfl rfl rfl (λhx=>?_))))))));refine ck hw λhz h0=>Exists.elim W5 λinf hinf=>Cj (xs:=he) (ys:=([hd]:List Ad)) (enc:=Ah) (i:=4) EX hinf.1 hinf.2.1 hinf.2.2.1 hinf.2.2.2 rfl rfl rfl rfl rfl (Li.w (i:=0) rfl rfl) HM HL hz rfl (λhp=>?_);refine wa rfl (An (AK (WK.uncur (i:=4) rfl (Ce (H2:=[.blk hb [rv (.map (some ha))] 54,.mit ha b7 (AY Al r1.2.fTimers) (AY Al hg) none,.row hp 31 5 (AG Ah (he++([hd]:List Ad))),.row (.slice (some ⟨hx,0,none⟩) 1 1) 31 5 (AG Ah ([hd]:List Ad)),.blk ho (EP x16) 65]) ((As (i:=3) rfl).trans (Yy _ ((As (i:=3) rfl).trans (Yy _ (Ys _))))) ?_))));have h1:=RP h0 ht;exact Au (AF (hg,he++([hd]:List Ad),hp) ⟨h1,Vf hn⟩ (AD.c rfl (AD.c rfl (AD.c rfl AD.nil))) (sC (sC (sC (sS (sS sN))))))
  ·rintro⟨hk,v55⟩ hj;refine Eh (l':=[(2,rv (.slice none 0 0)),(3,rv v55),(13,rP b7 0)]) (H':=[.blk hb [rv (.map (some ha))] 54,.map ha (AY Al r1.2.fTimers),.row v55 31 5 (AG Ah hk)]) rfl rfl ?_;replace hj:Gg r1 hk=some r:=hj;unfold Gg at hj;refine Bt (AS (Aj (wm rfl (ck hj λh3 h4=>ck h4 λh7 h8=>BL (rs:=[rv v55,rv (.func (.func 37) #[] #[])]) (Hin:=[.row v55 31 5 (AG Ah hk)]) (Hr:=[.blk hb [rv (.map (some ha))] 54,.map ha (AY Al r1.2.fTimers)]) Tryz.call36 rfl ((As (i:=2) rfl).trans (Yy _ (Ys _))) (Vb h3 h7) rfl ?_))));rintro _ _ ⟨rfl,rfl⟩;refine B5 (wm rfl (wa rfl (Aw (A1 ?_))));obtain rfl:=A2 h8;exact A0 (BX Tryz.results14 (AP rfl)) (sC (sC (sC sN))) ⟨v55,rfl,rfl⟩
theorem Pw (F:Nat)(hf:Nat)(he:Nat)(q:A5)(now:Int)(r:(List Ad)×A5)(h:Px F q now=some r):Fn Tryz.prog GE 10 [rP hf 0,Ao now] [.blk hf [rv (.map (some he))] 54,.map he (AY Al q.fTimers)] (λR H=>∃u0:Value,R=rv u0∧H=[.row u0 31 5 (AG Ah r.1),.blk hf [rv (.map (some he))] 54,.map he (AY Al r.2.fTimers)]):=by
 refine enter (n:=49) Tryz.func10 rfl Tryz.ntmps10 rfl (λw Z=>?_);unfold Px at h;refine Aj (SK rfl (BW rfl) rfl (λb1=>?_));refine wa rfl (Aw (Ap (Aj (wm rfl (ob h λr2 e4 h3=>Du (Hr:=[.blk b1 [Ao now] 3]) SD (Jn hf he q r2 e4) rfl ((As (i:=1) rfl).trans (Yy _ ((As (i:=1) rfl).trans (Yy _ (Ys _))))) rfl ?_)))));rintro _ _ ⟨rfl,rfl⟩;refine wv (BK rfl) (Aw (cz h3 rfl (λc5 h6=>?_) (λc5 h7=>?_)))
 ·refine Aj (wa rfl (Aw (A1 (Af (WK.nilrow (e:=31) (sz:=5) ?_)))));obtain rfl:=A2 h6;exact A0 (BX Tryz.results10 (AP rfl)) (sC (sC (sC (sS sN)))) ⟨(.slice none 0 0                               ),rfl,rfl⟩
 ·refine A3 (AS (Ap (Aj (wm rfl (wv (Aq rfl) (vF Lk rfl Ll (vL 0 Ln rfl (BL (rs:=[rv (.map (some he))]) (Hin:=[]) (Hr:=[.blk hf [rv (.map (some he))] 54,.map he (AY Al r2.2.fTimers),.blk b1 [Ao now] 3]) Tryz.call29 rfl (Ys _) (PF he) rfl ?_))))))));rintro _ _ ⟨b8,rfl,rfl⟩;refine ck h7 λg9 hp=>BL (rs:=[rv (.func (.func 50) #[] #[(.pointer (some ⟨b8,0,none⟩))])]) (Hin:=[.blk b8 [rv (.map (some he))] 52,.map he (AY Al r2.2.fTimers)]) (Hr:=[.blk hf [rv (.map (some he))] 54,.blk b1 [Ao now] 3]) Tryz.call28 rfl ((As (i:=0) rfl).trans (Yy _ ((As (i:=1) rfl).trans (Yy _ (Ys _))))) (NG Al r2.2.fTimers b8 he g9) rfl ?_;rintro _ _ ⟨hh,ha,rfl,hq,rfl⟩;have hr:=TF hp ha hq;refine wv (BY (ys:=ha) (enc:=eS) (i:=0) GA rfl rfl) (wv (r:=Ao 0) (Am rfl) (Aw (AO (ob hr λhs ht hu=>BH (S:=Nat×(Int×(List (Ae×Ab)))×(Unit)) (V:=((List (Ae×Ab)))×(Unit)) 0 (λσ=>Cs (λσ=>Gu now ha σ.1 σ.2) σ.1 σ.2.1=some hs) (λσ=>[(0,rP hf 0),(3,rP b1 0),(16,rv hh),(17,Ao (ha.length:Int)),(18,Ao σ.2.1.1)]) (λσ=>[.row hh 9 1 (AG eS ha),.map he (AY Al σ.2.1.2),.blk hf [rv (.map (some he))] 54,.blk b1 [Ao now] 3]) (λσ=>σ.1) (F,(0,r2.2.fTimers),()) ht (AD.c5 rfl rfl rfl rfl rfl AD.nil) (sC (sS (sC (sC (sC sN))))) (λσ=>Jo F now σ.1=some r) (λσ=>[(0,rP hf 0),(3,rP b1 0)]) (λσ=>[.map he (AY Al σ.1),.blk hf [rv (.map (some he))] 54,.blk b1 [Ao now] 3]) ?_ ?_))))
  ·rintro⟨hI,⟨hd,hb⟩,⟨⟩⟩ hw;refine Cn (l':=[(0,rP hf 0),(3,rP b1 0),(16,rv hh),(17,Ao (ha.length:Int)),(18,Ao hd)]) (H':=[.row hh 9 1 (AG eS ha),.map he (AY Al hb),.blk hf [rv (.map (some he))] 54,.blk b1 [Ao now] 3]) rfl rfl ?_;obtain⟨hx,rfl,hy,hj,hn⟩:=DY hw;replace hj:Gu now ha hd hb=some hy:=hj;unfold Gu at hj;refine Aj (wv (E1 rfl rfl) (Aw (Ap (cz hj rfl (λhz h0=>?_) (λhz h1=>?_)))))
   ·refine A3 (AS (Ap (AO (Aj (ck h0 λho h2=>wv (r:=rv (D6 1 hh (Bh hd) 0)) (E2 (i:=0) GA Df rfl rfl rfl (Bk ho)) (wv (r:=rS (Ar ha hd)) (EC (enc:=eS) (ys:=ha) (i:=0) (j:=hd) D8 rfl rfl ho rfl) (wa rfl (B5 (wm rfl (wv (Aq rfl) (vF Lk rfl Ll (vL 2 Ln rfl (wm rfl (wv (r:=Bm [rS (((AM hb (Ar ha hd) (Ab.mk (Ad.mk ([]:Ae) 0 ([]:Ae) ([]:Ae) ([]:(List Aa))) false)).fTimer).fID),Ao (((AM hb (Ar ha hd) (Ab.mk (Ad.mk ([]:Ae) 0 ([]:Ae) ([]:Ae) ([]:(List Aa))) false)).fTimer).fAt),rS (((AM hb (Ar ha hd) (Ab.mk (Ad.mk ([]:Ae) 0 ([]:Ae) ([]:Ae) ([]:(List Aa))) false)).fTimer).fTenant),rS (((AM hb (Ar ha hd) (Ab.mk (Ad.mk ([]:Ae) 0 ([]:Ae) ([]:Ae) ([]:(List Aa))) false)).fTimer).fSource),Bz 4 (AG Ac (((AM hb (Ar ha hd) (Ab.mk (Ad.mk ([]:Ae) 0 ([]:Ae) ([]:Ae) ([]:(List Aa))) false)).fTimer).fBody)),rB ((AM hb (Ar ha hd) (Ab.mk (Ad.mk ([]:Ae) 0 ([]:Ae) ([]:Ae) ([]:(List Aa))) false)).fTold)]) (T7 (enc:=Al) (xs:=hb) (z:=Ab.mk (Ad.mk ([]:Ae) 0 ([]:Ae) ([]:Ae) ([]:(List Aa))) false) (i:=1) Mj CA NQ DH rfl rfl rfl) (Cl (cs:=[rS ([]:Ae),Ao 0,rS ([]:Ae),rS ([]:Ae),rv (.slice none 0 0),rB false]) NQ rfl rfl (λhi=>?_))))))))))))))));refine By (i:=0) S9 rfl rfl rfl (BI.c rfl) rfl rfl (cs':=[rS (((AM hb (Ar ha hd) (Ab.mk (Ad.mk ([]:Ae) 0 ([]:Ae) ([]:Ae) ([]:(List Aa))) false)).fTimer).fID),Ao (((AM hb (Ar ha hd) (Ab.mk (Ad.mk ([]:Ae) 0 ([]:Ae) ([]:Ae) ([]:(List Aa))) false)).fTimer).fAt),rS (((AM hb (Ar ha hd) (Ab.mk (Ad.mk ([]:Ae) 0 ([]:Ae) ([]:Ae) ([]:(List Aa))) false)).fTimer).fTenant),rS (((AM hb (Ar ha hd) (Ab.mk (Ad.mk ([]:Ae) 0 ([]:Ae) ([]:Ae) ([]:(List Aa))) false)).fTimer).fSource),Bz 4 (AG Ac (((AM hb (Ar ha hd) (Ab.mk (Ad.mk ([]:Ae) 0 ([]:Ae) ([]:Ae) ([]:(List Aa))) false)).fTimer).fBody)),rB ((AM hb (Ar ha hd) (Ab.mk (Ad.mk ([]:Ae) 0 ([]:Ae) ([]:Ae) ([]:(List Aa))) false)).fTold)]) rfl (H':=[.blk hi [rS (((AM hb (Ar ha hd) (Ab.mk (Ad.mk ([]:Ae) 0 ([]:Ae) ([]:Ae) ([]:(List Aa))) false)).fTimer).fID),Ao (((AM hb (Ar ha hd) (Ab.mk (Ad.mk ([]:Ae) 0 ([]:Ae) ([]:Ae) ([]:(List Aa))) false)).fTimer).fAt),rS (((AM hb (Ar ha hd) (Ab.mk (Ad.mk ([]:Ae) 0 ([]:Ae) ([]:Ae) ([]:(List Aa))) false)).fTimer).fTenant),rS (((AM hb (Ar ha hd) (Ab.mk (Ad.mk ([]:Ae) 0 ([]:Ae) ([]:Ae) ([]:(List Aa))) false)).fTimer).fSource),Bz 4 (AG Ac (((AM hb (Ar ha hd) (Ab.mk (Ad.mk ([]:Ae) 0 ([]:Ae) ([]:Ae) ([]:(List Aa))) false)).fTimer).fBody)),rB ((AM hb (Ar ha hd) (Ab.mk (Ad.mk ([]:Ae) 0 ([]:Ae) ([]:Ae) ([]:(List Aa))) false)).fTold)] 65,.row hh 9 1 (AG eS ha),.map he (AY Al hb),.blk hf [rv (.map (some he))] 54,.blk b1 [Ao now] 3]) rfl (Aw (AH [(0,rP hf 0),(3,rP b1 0),(6,rS (Ar ha hd)),(7,rP hi 0),(16,rv hh),(17,Ao (ha.length:Int)),(18,Ao hd)] [.blk hi [rS (((AM hb (Ar ha hd) (Ab.mk (Ad.mk ([]:Ae) 0 ([]:Ae) ([]:Ae) ([]:(List Aa))) false)).fTimer).fID),Ao (((AM hb (Ar ha hd) (Ab.mk (Ad.mk ([]:Ae) 0 ([]:Ae) ([]:Ae) ([]:(List Aa))) false)).fTimer).fAt),rS (((AM hb (Ar ha hd) (Ab.mk (Ad.mk ([]:Ae) 0 ([]:Ae) ([]:Ae) ([]:(List Aa))) false)).fTimer).fTenant),rS (((AM hb (Ar ha hd) (Ab.mk (Ad.mk ([]:Ae) 0 ([]:Ae) ([]:Ae) ([]:(List Aa))) false)).fTimer).fSource),Bz 4 (AG Ac (((AM hb (Ar ha hd) (Ab.mk (Ad.mk ([]:Ae) 0 ([]:Ae) ([]:Ae) ([]:(List Aa))) false)).fTimer).fBody)),rB (((AM hb (Ar ha hd) (Ab.mk (Ad.mk ([]:Ae) 0 ([]:Ae) ([]:Ae) ([]:(List Aa))) false)).fTold)||(decide ((((AM hb (Ar ha hd) (Ab.mk (Ad.mk ([]:Ae) 0 ([]:Ae) ([]:Ae) ([]:(List Aa))) false)).fTimer).fAt)≤now)))] 65,.row hh 9 1 (AG eS ha),.map he (AY Al hb),.blk hf [rv (.map (some he))] 54,.blk b1 [Ao now] 3] ?_ ?_))
    ·refine Ak (vF Ra rfl Gs (vL 0 Qd rfl (wm rfl (AR ((AM hb (Ar ha hd) (Ab.mk (Ad.mk ([]:Ae) 0 ([]:Ae) ([]:Ae) ([]:(List Aa))) false)).fTold) (λhg=>?_) (λhg=>?_)))))
     ·refine wf hg (wf hg (wf hg (wf hg (wf hg (wv (r:=rB true) (Ax rfl hg rfl) (vF Ra rfl Gs (Bu (i:=0) Gs rfl rfl (BW rfl) rfl rfl (cs':=[rS (((AM hb (Ar ha hd) (Ab.mk (Ad.mk ([]:Ae) 0 ([]:Ae) ([]:Ae) ([]:(List Aa))) false)).fTimer).fID),Ao (((AM hb (Ar ha hd) (Ab.mk (Ad.mk ([]:Ae) 0 ([]:Ae) ([]:Ae) ([]:(List Aa))) false)).fTimer).fAt),rS (((AM hb (Ar ha hd) (Ab.mk (Ad.mk ([]:Ae) 0 ([]:Ae) ([]:Ae) ([]:(List Aa))) false)).fTimer).fTenant),rS (((AM hb (Ar ha hd) (Ab.mk (Ad.mk ([]:Ae) 0 ([]:Ae) ([]:Ae) ([]:(List Aa))) false)).fTimer).fSource),Bz 4 (AG Ac (((AM hb (Ar ha hd) (Ab.mk (Ad.mk ([]:Ae) 0 ([]:Ae) ([]:Ae) ([]:(List Aa))) false)).fTimer).fBody)),rB true]) rfl (H':=[.blk hi [rS (((AM hb (Ar ha hd) (Ab.mk (Ad.mk ([]:Ae) 0 ([]:Ae) ([]:Ae) ([]:(List Aa))) false)).fTimer).fID),Ao (((AM hb (Ar ha hd) (Ab.mk (Ad.mk ([]:Ae) 0 ([]:Ae) ([]:Ae) ([]:(List Aa))) false)).fTimer).fAt),rS (((AM hb (Ar ha hd) (Ab.mk (Ad.mk ([]:Ae) 0 ([]:Ae) ([]:Ae) ([]:(List Aa))) false)).fTimer).fTenant),rS (((AM hb (Ar ha hd) (Ab.mk (Ad.mk ([]:Ae) 0 ([]:Ae) ([]:Ae) ([]:(List Aa))) false)).fTimer).fSource),Bz 4 (AG Ac (((AM hb (Ar ha hd) (Ab.mk (Ad.mk ([]:Ae) 0 ([]:Ae) ([]:Ae) ([]:(List Aa))) false)).fTimer).fBody)),rB true] 65,.row hh 9 1 (AG eS ha),.map he (AY Al hb),.blk hf [rv (.map (some he))] 54,.blk b1 [Ao now] 3]) rfl (An (Ga (H':=[.blk hi [rS (((AM hb (Ar ha hd) (Ab.mk (Ad.mk ([]:Ae) 0 ([]:Ae) ([]:Ae) ([]:(List Aa))) false)).fTimer).fID),Ao (((AM hb (Ar ha hd) (Ab.mk (Ad.mk ([]:Ae) 0 ([]:Ae) ([]:Ae) ([]:(List Aa))) false)).fTimer).fAt),rS (((AM hb (Ar ha hd) (Ab.mk (Ad.mk ([]:Ae) 0 ([]:Ae) ([]:Ae) ([]:(List Aa))) false)).fTimer).fTenant),rS (((AM hb (Ar ha hd) (Ab.mk (Ad.mk ([]:Ae) 0 ([]:Ae) ([]:Ae) ([]:(List Aa))) false)).fTimer).fSource),Bz 4 (AG Ac (((AM hb (Ar ha hd) (Ab.mk (Ad.mk ([]:Ae) 0 ([]:Ae) ([]:Ae) ([]:(List Aa))) false)).fTimer).fBody)),rB (((AM hb (Ar ha hd) (Ab.mk (Ad.mk ([]:Ae) 0 ([]:Ae) ([]:Ae) ([]:(List Aa))) false)).fTold)||(decide ((((AM hb (Ar ha hd) (Ab.mk (Ad.mk ([]:Ae) 0 ([]:Ae) ([]:Ae) ([]:(List Aa))) false)).fTimer).fAt)≤now)))] 65,.row hh 9 1 (AG eS ha),.map he (AY Al hb),.blk hf [rv (.map (some he))] 54,.blk b1 [Ao now] 3]) (by simp only[hg,Y5,YA,YK,Y7,YB,YF,YJ,YD,Y3,YE,Yw,Yt]) ?_)))))))));exact wt
     ·refine wo hg (vF Ra rfl Ci (wo hg (vF CC rfl C2 (wo hg (vL 0 De rfl (wo hg (vL 4 De rfl (wo hg (wv (Kc rfl rfl) (It rfl hg rfl (vF Ra rfl Gs (Bu (i:=0) Gs rfl rfl (BW rfl) rfl rfl (cs':=[rS (((AM hb (Ar ha hd) (Ab.mk (Ad.mk ([]:Ae) 0 ([]:Ae) ([]:Ae) ([]:(List Aa))) false)).fTimer).fID),Ao (((AM hb (Ar ha hd) (Ab.mk (Ad.mk ([]:Ae) 0 ([]:Ae) ([]:Ae) ([]:(List Aa))) false)).fTimer).fAt),rS (((AM hb (Ar ha hd) (Ab.mk (Ad.mk ([]:Ae) 0 ([]:Ae) ([]:Ae) ([]:(List Aa))) false)).fTimer).fTenant),rS (((AM hb (Ar ha hd) (Ab.mk (Ad.mk ([]:Ae) 0 ([]:Ae) ([]:Ae) ([]:(List Aa))) false)).fTimer).fSource),Bz 4 (AG Ac (((AM hb (Ar ha hd) (Ab.mk (Ad.mk ([]:Ae) 0 ([]:Ae) ([]:Ae) ([]:(List Aa))) false)).fTimer).fBody)),rB (decide ((((AM hb (Ar ha hd) (Ab.mk (Ad.mk ([]:Ae) 0 ([]:Ae) ([]:Ae) ([]:(List Aa))) false)).fTimer).fAt)≤now))]) rfl (H':=[.blk hi [rS (((AM hb (Ar ha hd) (Ab.mk (Ad.mk ([]:Ae) 0 ([]:Ae) ([]:Ae) ([]:(List Aa))) false)).fTimer).fID),Ao (((AM hb (Ar ha hd) (Ab.mk (Ad.mk ([]:Ae) 0 ([]:Ae) ([]:Ae) ([]:(List Aa))) false)).fTimer).fAt),rS (((AM hb (Ar ha hd) (Ab.mk (Ad.mk ([]:Ae) 0 ([]:Ae) ([]:Ae) ([]:(List Aa))) false)).fTimer).fTenant),rS (((AM hb (Ar ha hd) (Ab.mk (Ad.mk ([]:Ae) 0 ([]:Ae) ([]:Ae) ([]:(List Aa))) false)).fTimer).fSource),Bz 4 (AG Ac (((AM hb (Ar ha hd) (Ab.mk (Ad.mk ([]:Ae) 0 ([]:Ae) ([]:Ae) ([]:(List Aa))) false)).fTimer).fBody)),rB (decide ((((AM hb (Ar ha hd) (Ab.mk (Ad.mk ([]:Ae) 0 ([]:Ae) ([]:Ae) ([]:(List Aa))) false)).fTimer).fAt)≤now))] 65,.row hh 9 1 (AG eS ha),.map he (AY Al hb),.blk hf [rv (.map (some he))] 54,.blk b1 [Ao now] 3]) rfl (An (Ga (H':=[.blk hi [rS (((AM hb (Ar ha hd) (Ab.mk (Ad.mk ([]:Ae) 0 ([]:Ae) ([]:Ae) ([]:(List Aa))) false)).fTimer).fID),Ao (((AM hb (Ar ha hd) (Ab.mk (Ad.mk ([]:Ae) 0 ([]:Ae) ([]:Ae) ([]:(List Aa))) false)).fTimer).fAt),rS (((AM hb (Ar ha hd) (Ab.mk (Ad.mk ([]:Ae) 0 ([]:Ae) ([]:Ae) ([]:(List Aa))) false)).fTimer).fTenant),rS (((AM hb (Ar ha hd) (Ab.mk (Ad.mk ([]:Ae) 0 ([]:Ae) ([]:Ae) ([]:(List Aa))) false)).fTimer).fSource),Bz 4 (AG Ac (((AM hb (Ar ha hd) (Ab.mk (Ad.mk ([]:Ae) 0 ([]:Ae) ([]:Ae) ([]:(List Aa))) false)).fTimer).fBody)),rB (((AM hb (Ar ha hd) (Ab.mk (Ad.mk ([]:Ae) 0 ([]:Ae) ([]:Ae) ([]:(List Aa))) false)).fTold)||(decide ((((AM hb (Ar ha hd) (Ab.mk (Ad.mk ([]:Ae) 0 ([]:Ae) ([]:Ae) ([]:(List Aa))) false)).fTimer).fAt)≤now)))] 65,.row hh 9 1 (AG eS ha),.map he (AY Al hb),.blk hf [rv (.map (some he))] 54,.blk b1 [Ao now] 3]) (by simp only[hg,Y5,YA,YK,Y7,YB,YF,YJ,YD,Y3,YE,Yw,Yt]) ?_))))))))))))));exact wt
    refine Hb 6 [0,3,6,7,16,17,18] [⟨[],rP hf 0,none,none,none⟩,⟨[0],rP hf 0,none,none,none⟩,⟨[1],rP hf 0,none,none,none⟩,⟨[2],rv (.map (some he)),none,none,none⟩,⟨[],rS (Ar ha hd),none,none,none⟩,⟨[],Bm [rS (((AM hb (Ar ha hd) (Ab.mk (Ad.mk ([]:Ae) 0 ([]:Ae) ([]:Ae) ([]:(List Aa))) false)).fTimer).fID),Ao (((AM hb (Ar ha hd) (Ab.mk (Ad.mk ([]:Ae) 0 ([]:Ae) ([]:Ae) ([]:(List Aa))) false)).fTimer).fAt),rS (((AM hb (Ar ha hd) (Ab.mk (Ad.mk ([]:Ae) 0 ([]:Ae) ([]:Ae) ([]:(List Aa))) false)).fTimer).fTenant),rS (((AM hb (Ar ha hd) (Ab.mk (Ad.mk ([]:Ae) 0 ([]:Ae) ([]:Ae) ([]:(List Aa))) false)).fTimer).fSource),Bz 4 (AG Ac (((AM hb (Ar ha hd) (Ab.mk (Ad.mk ([]:Ae) 0 ([]:Ae) ([]:Ae) ([]:(List Aa))) false)).fTimer).fBody)),rB (((AM hb (Ar ha hd) (Ab.mk (Ad.mk ([]:Ae) 0 ([]:Ae) ([]:Ae) ([]:(List Aa))) false)).fTold)||(decide ((((AM hb (Ar ha hd) (Ab.mk (Ad.mk ([]:Ae) 0 ([]:Ae) ([]:Ae) ([]:(List Aa))) false)).fTimer).fAt)≤now)))],none,none,none⟩] ?_ (λβ=>?_)
    ·refine E9 (Am rfl) (E9 (Aq rfl) (E9 (A4 Lk rfl Ll rfl rfl) (VR (AW (i:=3) Ln rfl rfl rfl) (E9 (Am rfl) (VR (B2 (i:=0) Tryz.isAgg65 S9 rfl rfl rfl rfl) ?_)))));exact Ws
    refine H0 (H1:=[.blk hi [rS (((AM hb (Ar ha hd) (Ab.mk (Ad.mk ([]:Ae) 0 ([]:Ae) ([]:Ae) ([]:(List Aa))) false)).fTimer).fID),Ao (((AM hb (Ar ha hd) (Ab.mk (Ad.mk ([]:Ae) 0 ([]:Ae) ([]:Ae) ([]:(List Aa))) false)).fTimer).fAt),rS (((AM hb (Ar ha hd) (Ab.mk (Ad.mk ([]:Ae) 0 ([]:Ae) ([]:Ae) ([]:(List Aa))) false)).fTimer).fTenant),rS (((AM hb (Ar ha hd) (Ab.mk (Ad.mk ([]:Ae) 0 ([]:Ae) ([]:Ae) ([]:(List Aa))) false)).fTimer).fSource),Bz 4 (AG Ac (((AM hb (Ar ha hd) (Ab.mk (Ad.mk ([]:Ae) 0 ([]:Ae) ([]:Ae) ([]:(List Aa))) false)).fTimer).fBody)),rB (((AM hb (Ar ha hd) (Ab.mk (Ad.mk ([]:Ae) 0 ([]:Ae) ([]:Ae) ([]:(List Aa))) false)).fTold)||(decide ((((AM hb (Ar ha hd) (Ab.mk (Ad.mk ([]:Ae) 0 ([]:Ae) ([]:Ae) ([]:(List Aa))) false)).fTimer).fAt)≤now)))] 65,.row hh 9 1 (AG eS ha),.map he (AY Al hb),.blk hf [rv (.map (some he))] 54,.blk b1 [Ao now] 3]) [38,39,40,41,42,43,0,3,6,7,16,17,18] ?_;refine Qh (enc:=Al) (xs:=hb) (v:=(Ab.mk ((AM hb (Ar ha hd) (Ab.mk (Ad.mk ([]:Ae) 0 ([]:Ae) ([]:Ae) ([]:(List Aa))) false)).fTimer) (((AM hb (Ar ha hd) (Ab.mk (Ad.mk ([]:Ae) 0 ([]:Ae) ([]:Ae) ([]:(List Aa))) false)).fTold)||(decide ((((AM hb (Ar ha hd) (Ab.mk (Ad.mk ([]:Ae) 0 ([]:Ae) ([]:Ae) ([]:(List Aa))) false)).fTimer).fAt)≤now))))) (i:=2) Mj CA rfl rfl rfl rfl (H':=[.blk hi [rS (((AM hb (Ar ha hd) (Ab.mk (Ad.mk ([]:Ae) 0 ([]:Ae) ([]:Ae) ([]:(List Aa))) false)).fTimer).fID),Ao (((AM hb (Ar ha hd) (Ab.mk (Ad.mk ([]:Ae) 0 ([]:Ae) ([]:Ae) ([]:(List Aa))) false)).fTimer).fAt),rS (((AM hb (Ar ha hd) (Ab.mk (Ad.mk ([]:Ae) 0 ([]:Ae) ([]:Ae) ([]:(List Aa))) false)).fTimer).fTenant),rS (((AM hb (Ar ha hd) (Ab.mk (Ad.mk ([]:Ae) 0 ([]:Ae) ([]:Ae) ([]:(List Aa))) false)).fTimer).fSource),Bz 4 (AG Ac (((AM hb (Ar ha hd) (Ab.mk (Ad.mk ([]:Ae) 0 ([]:Ae) ([]:Ae) ([]:(List Aa))) false)).fTimer).fBody)),rB (((AM hb (Ar ha hd) (Ab.mk (Ad.mk ([]:Ae) 0 ([]:Ae) ([]:Ae) ([]:(List Aa))) false)).fTold)||(decide ((((AM hb (Ar ha hd) (Ab.mk (Ad.mk ([]:Ae) 0 ([]:Ae) ([]:Ae) ([]:(List Aa))) false)).fTimer).fAt)≤now)))] 65,.row hh 9 1 (AG eS ha),.map he (AY Al (mset hb (Ar ha hd) (Ab.mk ((AM hb (Ar ha hd) (Ab.mk (Ad.mk ([]:Ae) 0 ([]:Ae) ([]:Ae) ([]:(List Aa))) false)).fTimer) (((AM hb (Ar ha hd) (Ab.mk (Ad.mk ([]:Ae) 0 ([]:Ae) ([]:Ae) ([]:(List Aa))) false)).fTold)||(decide ((((AM hb (Ar ha hd) (Ab.mk (Ad.mk ([]:Ae) 0 ([]:Ae) ([]:Ae) ([]:(List Aa))) false)).fTimer).fAt)≤now)))))),.blk hf [rv (.map (some he))] 54,.blk b1 [Ao now] 3]) rfl (An (AK (AS (Ak (ck h2 λh4 h5=>wv (BQ rfl rfl h4) (wm rfl (An ?_)))))));have h8:=BD h5 hn;exact Au (AF (hx,(hd+1,mset hb (Ar ha hd) (Ab.mk ((AM hb (Ar ha hd) (Ab.mk (Ad.mk ([]:Ae) 0 ([]:Ae) ([]:Ae) ([]:(List Aa))) false)).fTimer) (((AM hb (Ar ha hd) (Ab.mk (Ad.mk ([]:Ae) 0 ([]:Ae) ([]:Ae) ([]:(List Aa))) false)).fTold)||(decide ((((AM hb (Ar ha hd) (Ab.mk (Ad.mk ([]:Ae) 0 ([]:Ae) ([]:Ae) ([]:(List Aa))) false)).fTimer).fAt)≤now))))),()) ⟨h8,YI _⟩ (AD.c5 rfl rfl rfl rfl rfl AD.nil) (sS (sC (sC (sC (sC sN))))))
   ·refine BJ (AB ?_);have h9:=CY h1 hn hu;exact AB (B4 (AF (hb,()) h9 (AD.c rfl (AD.c rfl AD.nil)) (sS (sC (sC (sC sN))))))
  ·rintro⟨hl,⟨⟩⟩ hk;refine Eh (l':=[(0,rP hf 0),(3,rP b1 0)]) (H':=[.map he (AY Al hl),.blk hf [rv (.map (some he))] 54,.blk b1 [Ao now] 3]) rfl rfl ?_;replace hk:Jo F now hl=some r:=hk;unfold Jo at hk;refine Bt (AS (Aj (wm rfl (ob hk λhm hA hB=>Du (Hr:=[.blk b1 [Ao now] 3]) Tryz.call14 (KT hf he (A5.mk hl) hm hA) rfl ((As (i:=1) rfl).trans (Yy _ (Ys _))) rfl ?_))));rintro _ _ ⟨hC,rfl,rfl⟩;refine wv (r:=rv (.func (.func 31) #[] #[(.pointer (some ⟨b1,0,none⟩))])) (IQ rfl) (ob hB λhD hE hG=>Du (Hr:=[.blk hf [rv (.map (some he))] 54,.map he (AY Al hm.2.fTimers)]) Tryz.call30 (NE F hC b1 hm.1 now hD hE) rfl ((As (i:=0) rfl).trans (Yy _ ((As (i:=2) rfl).trans (Yy _ (Ys _))))) rfl ?_);rintro _ _ ⟨hH,rfl,rfl⟩;refine wa rfl (Aw (A1 ?_));obtain rfl:=A2 hG;exact A0 (BX Tryz.results10 (AP rfl)) (sC (sS (sC (sC sN)))) ⟨hH,rfl,rfl⟩
theorem JV (F:Nat)(ha:Nat)(hb:Nat)(q:A5)(t:Ad)(now:Int)(r:Int×A5)(h:Mq F q t now=some r):Fn Tryz.prog GE 21 [rP ha 0,Bm (Ah t),Ao now] [.blk ha [rv (.map (some hb))] 54,.map hb (AY Al q.fTimers)] (λR H=>R=Ao r.1∧H=[.blk ha [rv (.map (some hb))] 54,.map hb (AY Al r.2.fTimers)]):=by
 refine enter (n:=56) Tryz.func21 rfl Tryz.ntmps21 rfl (λw Z=>?_);unfold Mq at h;refine Aj (Cr rfl rfl (λb1=>?_));refine wa rfl (Aw (Ap (Aj (wm rfl (ob h λr2 e4 h3=>Du (Hr:=[.blk b1 (Ah t) 31]) SD (Jn ha hb q r2 e4) rfl ((As (i:=1) rfl).trans (Yy _ ((As (i:=1) rfl).trans (Yy _ (Ys _))))) rfl ?_)))));rintro _ _ ⟨rfl,rfl⟩;refine wv (BK rfl) (Aw (cz h3 rfl (λc5 h6=>?_) (λc5 h7=>?_)))
 ·refine Aj (wa rfl (Aw (A1 (Af ?_))));obtain rfl:=A2 h6;exact A0 (BX Rc (AP rfl)) (sC (sC (sS sN))) ⟨rfl,rfl⟩
 ·refine A3 (AS (Ap (Aj (wv (B2 (i:=2) EY Ci rfl rfl rfl rfl) (ob h7 λr8 hg h9=>HX Tryz.call41 (Oj F t r8 hg) rfl (wa rfl (B5 (wm rfl (wv (D2 rfl rfl) (Aw (cz h9 rfl (λhi hj=>?_) (λhi hk=>?_))))))))))))
  ·refine Aj (wm rfl (wa rfl (Aw (A1 (Af ?_)))));obtain rfl:=A2 hj;exact A0 (BX Rc (AP rfl)) (sC (sC (sS sN))) ⟨rfl,rfl⟩
  ·refine A3 (AS (Ap (Hb 12 [0,2,4] [⟨[],rP ha 0,none,none,none⟩,⟨[0],rP ha 0,none,none,none⟩,⟨[1],rP ha 0,none,none,none⟩,⟨[2],rv (.map (some hb)),none,none,none⟩,⟨[],rP b1 0,none,none,none⟩,⟨[4],rS t.fID,none,none,none⟩,⟨[3,5],C0 [Bm [rS (((AM r2.2.fTimers t.fID (Ab.mk (Ad.mk ([]:Ae) 0 ([]:Ae) ([]:Ae) ([]:(List Aa))) false)).fTimer).fID),Ao (((AM r2.2.fTimers t.fID (Ab.mk (Ad.mk ([]:Ae) 0 ([]:Ae) ([]:Ae) ([]:(List Aa))) false)).fTimer).fAt),rS (((AM r2.2.fTimers t.fID (Ab.mk (Ad.mk ([]:Ae) 0 ([]:Ae) ([]:Ae) ([]:(List Aa))) false)).fTimer).fTenant),rS (((AM r2.2.fTimers t.fID (Ab.mk (Ad.mk ([]:Ae) 0 ([]:Ae) ([]:Ae) ([]:(List Aa))) false)).fTimer).fSource),Bz 4 (AG Ac (((AM r2.2.fTimers t.fID (Ab.mk (Ad.mk ([]:Ae) 0 ([]:Ae) ([]:Ae) ([]:(List Aa))) false)).fTimer).fBody)),rB ((AM r2.2.fTimers t.fID (Ab.mk (Ad.mk ([]:Ae) 0 ([]:Ae) ([]:Ae) ([]:(List Aa))) false)).fTold)],rB (E3 r2.2.fTimers t.fID)],none,none,none⟩,⟨[6],C0 [Bm [rS (((AM r2.2.fTimers t.fID (Ab.mk (Ad.mk ([]:Ae) 0 ([]:Ae) ([]:Ae) ([]:(List Aa))) false)).fTimer).fID),Ao (((AM r2.2.fTimers t.fID (Ab.mk (Ad.mk ([]:Ae) 0 ([]:Ae) ([]:Ae) ([]:(List Aa))) false)).fTimer).fAt),rS (((AM r2.2.fTimers t.fID (Ab.mk (Ad.mk ([]:Ae) 0 ([]:Ae) ([]:Ae) ([]:(List Aa))) false)).fTimer).fTenant),rS (((AM r2.2.fTimers t.fID (Ab.mk (Ad.mk ([]:Ae) 0 ([]:Ae) ([]:Ae) ([]:(List Aa))) false)).fTimer).fSource),Bz 4 (AG Ac (((AM r2.2.fTimers t.fID (Ab.mk (Ad.mk ([]:Ae) 0 ([]:Ae) ([]:Ae) ([]:(List Aa))) false)).fTimer).fBody)),rB ((AM r2.2.fTimers t.fID (Ab.mk (Ad.mk ([]:Ae) 0 ([]:Ae) ([]:Ae) ([]:(List Aa))) false)).fTold)],rB (E3 r2.2.fTimers t.fID)],none,none,none⟩,⟨[7],Bm [rS (((AM r2.2.fTimers t.fID (Ab.mk (Ad.mk ([]:Ae) 0 ([]:Ae) ([]:Ae) ([]:(List Aa))) false)).fTimer).fID),Ao (((AM r2.2.fTimers t.fID (Ab.mk (Ad.mk ([]:Ae) 0 ([]:Ae) ([]:Ae) ([]:(List Aa))) false)).fTimer).fAt),rS (((AM r2.2.fTimers t.fID (Ab.mk (Ad.mk ([]:Ae) 0 ([]:Ae) ([]:Ae) ([]:(List Aa))) false)).fTimer).fTenant),rS (((AM r2.2.fTimers t.fID (Ab.mk (Ad.mk ([]:Ae) 0 ([]:Ae) ([]:Ae) ([]:(List Aa))) false)).fTimer).fSource),Bz 4 (AG Ac (((AM r2.2.fTimers t.fID (Ab.mk (Ad.mk ([]:Ae) 0 ([]:Ae) ([]:Ae) ([]:(List Aa))) false)).fTimer).fBody)),rB ((AM r2.2.fTimers t.fID (Ab.mk (Ad.mk ([]:Ae) 0 ([]:Ae) ([]:Ae) ([]:(List Aa))) false)).fTold)],none,none,none⟩,⟨[7],rB (E3 r2.2.fTimers t.fID),none,none,none⟩,⟨[],rv undef,some ([rS ([]:Ae),Ao 0,rS ([]:Ae),rS ([]:Ae),rv (.slice none 0 0),rB false],65),some (11,[rS (((AM r2.2.fTimers t.fID (Ab.mk (Ad.mk ([]:Ae) 0 ([]:Ae) ([]:Ae) ([]:(List Aa))) false)).fTimer).fID),Ao (((AM r2.2.fTimers t.fID (Ab.mk (Ad.mk ([]:Ae) 0 ([]:Ae) ([]:Ae) ([]:(List Aa))) false)).fTimer).fAt),rS (((AM r2.2.fTimers t.fID (Ab.mk (Ad.mk ([]:Ae) 0 ([]:Ae) ([]:Ae) ([]:(List Aa))) false)).fTimer).fTenant),rS (((AM r2.2.fTimers t.fID (Ab.mk (Ad.mk ([]:Ae) 0 ([]:Ae) ([]:Ae) ([]:(List Aa))) false)).fTimer).fSource),Bz 4 (AG Ac (((AM r2.2.fTimers t.fID (Ab.mk (Ad.mk ([]:Ae) 0 ([]:Ae) ([]:Ae) ([]:(List Aa))) false)).fTimer).fBody)),rB ((AM r2.2.fTimers t.fID (Ab.mk (Ad.mk ([]:Ae) 0 ([]:Ae) ([]:Ae) ([]:(List Aa))) false)).fTold)]),none⟩,⟨[8],rv undef,none,none,some 10⟩] ?_ (λβ=>?_))))
   ·refine E9 (Am rfl) (E9 (Aq rfl) (E9 (A4 Lk rfl Ll rfl rfl) (VR (AW (i:=0) Ln rfl rfl rfl) (E9 (A4 CC rfl Df rfl rfl) (VR (AW (i:=2) D8 rfl rfl rfl) (VR (Q4 (enc:=Al) (xs:=r2.2.fTimers) (z:=Ab.mk (Ad.mk ([]:Ae) 0 ([]:Ae) ([]:Ae) ([]:(List Aa))) false) (i:=1) Mj CA NQ DH rfl rfl rfl) (E9 (Am rfl) (E9 (AI rfl rfl) (E9 (AI rfl rfl) (Ye (VY (cs:=[rS ([]:Ae),Ao 0,rS ([]:Ae),rS ([]:Ae),rv (.slice none 0 0),rB false]) NQ rfl) (Yk (fun {hf hh}=>Oz (CX (i:=0) S9 rfl rfl rfl (BI.c rfl) rfl rfl (cs':=[rS (((AM r2.2.fTimers t.fID (Ab.mk (Ad.mk ([]:Ae) 0 ([]:Ae) ([]:Ae) ([]:(List Aa))) false)).fTimer).fID),Ao (((AM r2.2.fTimers t.fID (Ab.mk (Ad.mk ([]:Ae) 0 ([]:Ae) ([]:Ae) ([]:(List Aa))) false)).fTimer).fAt),rS (((AM r2.2.fTimers t.fID (Ab.mk (Ad.mk ([]:Ae) 0 ([]:Ae) ([]:Ae) ([]:(List Aa))) false)).fTimer).fTenant),rS (((AM r2.2.fTimers t.fID (Ab.mk (Ad.mk ([]:Ae) 0 ([]:Ae) ([]:Ae) ([]:(List Aa))) false)).fTimer).fSource),Bz 4 (AG Ac (((AM r2.2.fTimers t.fID (Ab.mk (Ad.mk ([]:Ae) 0 ([]:Ae) ([]:Ae) ([]:(List Aa))) false)).fTimer).fBody)),rB ((AM r2.2.fTimers t.fID (Ab.mk (Ad.mk ([]:Ae) 0 ([]:Ae) ([]:Ae) ([]:(List Aa))) false)).fTold)]) rfl (H':=.blk hf [rS (((AM r2.2.fTimers t.fID (Ab.mk (Ad.mk ([]:Ae) 0 ([]:Ae) ([]:Ae) ([]:(List Aa))) false)).fTimer).fID),Ao (((AM r2.2.fTimers t.fID (Ab.mk (Ad.mk ([]:Ae) 0 ([]:Ae) ([]:Ae) ([]:(List Aa))) false)).fTimer).fAt),rS (((AM r2.2.fTimers t.fID (Ab.mk (Ad.mk ([]:Ae) 0 ([]:Ae) ([]:Ae) ([]:(List Aa))) false)).fTimer).fTenant),rS (((AM r2.2.fTimers t.fID (Ab.mk (Ad.mk ([]:Ae) 0 ([]:Ae) ([]:Ae) ([]:(List Aa))) false)).fTimer).fSource),Bz 4 (AG Ac (((AM r2.2.fTimers t.fID (Ab.mk (Ad.mk ([]:Ae) 0 ([]:Ae) ([]:Ae) ([]:(List Aa))) false)).fTimer).fBody)),rB ((AM r2.2.fTimers t.fID (Ab.mk (Ad.mk ([]:Ae) 0 ([]:Ae) ([]:Ae) ([]:(List Aa))) false)).fTold)] 65::hh) rfl)) ?_)))))))))));exact Ws
   refine H0 (H1:=[.blk ha [rv (.map (some hb))] 54,.map hb (AY Al r2.2.fTimers),.blk b1 (Ah t) 31,.blk (β 10) [rS (((AM r2.2.fTimers t.fID (Ab.mk (Ad.mk ([]:Ae) 0 ([]:Ae) ([]:Ae) ([]:(List Aa))) false)).fTimer).fID),Ao (((AM r2.2.fTimers t.fID (Ab.mk (Ad.mk ([]:Ae) 0 ([]:Ae) ([]:Ae) ([]:(List Aa))) false)).fTimer).fAt),rS (((AM r2.2.fTimers t.fID (Ab.mk (Ad.mk ([]:Ae) 0 ([]:Ae) ([]:Ae) ([]:(List Aa))) false)).fTimer).fTenant),rS (((AM r2.2.fTimers t.fID (Ab.mk (Ad.mk ([]:Ae) 0 ([]:Ae) ([]:Ae) ([]:(List Aa))) false)).fTimer).fSource),Bz 4 (AG Ac (((AM r2.2.fTimers t.fID (Ab.mk (Ad.mk ([]:Ae) 0 ([]:Ae) ([]:Ae) ([]:(List Aa))) false)).fTimer).fBody)),rB ((AM r2.2.fTimers t.fID (Ab.mk (Ad.mk ([]:Ae) 0 ([]:Ae) ([]:Ae) ([]:(List Aa))) false)).fTold)] 65]) [19,20,21,22,23,24,25,18,26,27,8,0,2,4] ?_;generalize β 10=hf;refine wa rfl (Aw (Ap (AO (ck hk λg15 hl=>AH [(0,rP ha 0),(4,rP b1 0),(9,rB (E3 r2.2.fTimers t.fID)),(28,rB ((!(ov (H6 now)))||(decide (t.fAt<now))))] [.blk ha [rv (.map (some hb))] 54,.map hb (AY Al r2.2.fTimers),.blk b1 (Ah t) 31] ?_ ?_))))
   ·refine Ak (wm rfl (HX Tryz.call48 (Qi now (ov (H6 now)) (Wp g15)) rfl (wv (BK rfl) (wm rfl (AR (!(ov (H6 now))) (λhd=>?_) (λhd=>?_))))))
    ·refine wf hd (wf hd (wf hd (wf hd (wv (r:=rB true) (Ax rfl hd rfl) (wa rfl (An ?_))))));exact Dg hd
    ·refine wo hd (vF CC rfl C2 (wo hd (vL 2 De rfl (wo hd (wm rfl (wo hd (wv (E1 rfl rfl) (It rfl hd rfl (wa rfl (An ?_))))))))));exact Dg hd
   refine cz hl rfl (λhm hn=>?_) (λhm ho=>?_)
   ·refine Aj (wa rfl (Aw (A1 (A6 (Af ?_)))));obtain rfl:=A2 hn;exact A0 (BX Rc (AP rfl)) (sC (sC (sS sN))) ⟨rfl,rfl⟩
   ·refine Aj (wm rfl (wa rfl (Aw (cz ho rfl (λc21 hp=>?_) (λc21 hq=>?_)))))
    ·refine Aj (wa rfl (Aw (A1 (A6 (Af ?_)))));obtain rfl:=A2 hp;exact A0 (BX Rc (AP rfl)) (sC (sC (sS sN))) ⟨rfl,rfl⟩
    ·refine Aj (wm rfl (wv (Aq rfl) (vF Lk rfl Ll (vL 0 Ln rfl (wv (r:=Ao (r2.2.fTimers.length:Int)) (Wv (N:=r2.2.fTimers.length) (i:=1) Mj rfl rfl (HG _ _)) (wv (Ix rfl rfl) (wa rfl (Aw (cz hq rfl (λhr hs=>?_) (λhr ht=>?_))))))))))
     ·refine Aj (wa rfl (Aw (A1 (A6 (Af ?_)))));obtain rfl:=A2 hs;exact A0 (BX Rc (AP rfl)) (sC (sC (sS sN))) ⟨rfl,rfl⟩
     ·refine A3 (AK (AS (Ap (ob ht λhe hu hw=>Hb 9 [0,4] [⟨[],rP ha 0,none,none,none⟩,⟨[0],rP ha 0,none,none,none⟩,⟨[1],rP ha 0,none,none,none⟩,⟨[2],rv (.map (some hb)),none,none,none⟩,⟨[],rP b1 0,none,none,none⟩,⟨[4],rS t.fID,none,none,none⟩,⟨[],Bm (Ah t),none,none,none⟩,⟨[6],Bm (Ah he),none,none,none⟩,⟨[7],Bm [rS he.fID,Ao he.fAt,rS he.fTenant,rS he.fSource,Bz 4 (AG Ac he.fBody),rB false],none,none,none⟩] ?_ (λβ=>?_)))))
      ·refine E9 (Am rfl) (E9 (Aq rfl) (E9 (A4 Lk rfl Ll rfl rfl) (VR (AW (i:=0) Ln rfl rfl rfl) (E9 (A4 CC rfl Df rfl rfl) (VR (AW (i:=2) D8 rfl rfl rfl) (VR (B2 (i:=2) EY Ci rfl rfl rfl rfl) (Yl (MG Tryz.call35 (SS t he hu) rfl) (E9 (O4 rfl) ?_))))))));exact Ws
      refine H0 (H1:=[.blk ha [rv (.map (some hb))] 54,.map hb (AY Al r2.2.fTimers),.blk b1 (Ah t) 31]) [47,48,49,50,51,52,53,54,55,0,4] ?_;refine Qh (enc:=Al) (xs:=r2.2.fTimers) (v:=(Ab.mk he false)) (i:=1) Mj CA rfl rfl rfl rfl (H':=[.blk ha [rv (.map (some hb))] 54,.map hb (AY Al (mset r2.2.fTimers t.fID (Ab.mk he false))),.blk b1 (Ah t) 31]) rfl (B5 (wa rfl (Aw (A1 ?_))));obtain rfl:=A2 hw;exact A0 (BX Rc (AP rfl)) (sC (sC (sS sN))) ⟨rfl,rfl⟩
theorem P0 (hb:Nat)(ha:Nat)(q:A5)(id:Ae)(r:Int×A5)(h:P1 q id=some r):Fn Tryz.prog GE 24 [rP hb 0,rS id] [.blk hb [rv (.map (some ha))] 54,.map ha (AY Al q.fTimers)] (λR H=>R=Ao r.1∧H=[.blk hb [rv (.map (some ha))] 54,.map ha (AY Al r.2.fTimers)]):=by
 refine enter (n:=26) Tryz.func24 rfl Tryz.ntmps24 rfl (λw Z=>?_);unfold P1 at h;refine Aj (wa rfl (Aw (Ap (Aj (wm rfl (ob h λr1 e3 h2=>Du (Hr:=[]) SD (Jn hb ha q r1 e3) rfl (Ys _) rfl ?_))))));rintro _ _ ⟨rfl,rfl⟩;refine wv (BK rfl) (Aw (cz h2 rfl (λc4 h5=>?_) (λc4 h6=>?_)))
 ·refine Aj (wa rfl (Aw (A1 (Af ?_))));obtain rfl:=A2 h5;exact A0 (BX Tryz.results24 (AP rfl)) (sC (sC sN)) ⟨rfl,rfl⟩
 ·refine A3 (AS (Ap (Aj (wm rfl (wv (Aq rfl) (vF Lk rfl Ll (vL 0 Ln rfl (wm rfl (wv (r:=C0 [Bm [rS (((AM r1.2.fTimers id (Ab.mk (Ad.mk ([]:Ae) 0 ([]:Ae) ([]:Ae) ([]:(List Aa))) false)).fTimer).fID),Ao (((AM r1.2.fTimers id (Ab.mk (Ad.mk ([]:Ae) 0 ([]:Ae) ([]:Ae) ([]:(List Aa))) false)).fTimer).fAt),rS (((AM r1.2.fTimers id (Ab.mk (Ad.mk ([]:Ae) 0 ([]:Ae) ([]:Ae) ([]:(List Aa))) false)).fTimer).fTenant),rS (((AM r1.2.fTimers id (Ab.mk (Ad.mk ([]:Ae) 0 ([]:Ae) ([]:Ae) ([]:(List Aa))) false)).fTimer).fSource),Bz 4 (AG Ac (((AM r1.2.fTimers id (Ab.mk (Ad.mk ([]:Ae) 0 ([]:Ae) ([]:Ae) ([]:(List Aa))) false)).fTimer).fBody)),rB ((AM r1.2.fTimers id (Ab.mk (Ad.mk ([]:Ae) 0 ([]:Ae) ([]:Ae) ([]:(List Aa))) false)).fTold)],rB (E3 r1.2.fTimers id)]) (Q4 (enc:=Al) (xs:=r1.2.fTimers) (z:=Ab.mk (Ad.mk ([]:Ae) 0 ([]:Ae) ([]:Ae) ([]:(List Aa))) false) (i:=1) Mj CA NQ DH rfl rfl rfl) (wm rfl (wv (AI rfl rfl) (wv (AI rfl rfl) (Cl (cs:=[rS ([]:Ae),Ao 0,rS ([]:Ae),rS ([]:Ae),rv (.slice none 0 0),rB false]) NQ rfl rfl (λb7=>?_))))))))))))));refine By (i:=0) S9 rfl rfl rfl (BI.c rfl) rfl rfl (cs':=[rS (((AM r1.2.fTimers id (Ab.mk (Ad.mk ([]:Ae) 0 ([]:Ae) ([]:Ae) ([]:(List Aa))) false)).fTimer).fID),Ao (((AM r1.2.fTimers id (Ab.mk (Ad.mk ([]:Ae) 0 ([]:Ae) ([]:Ae) ([]:(List Aa))) false)).fTimer).fAt),rS (((AM r1.2.fTimers id (Ab.mk (Ad.mk ([]:Ae) 0 ([]:Ae) ([]:Ae) ([]:(List Aa))) false)).fTimer).fTenant),rS (((AM r1.2.fTimers id (Ab.mk (Ad.mk ([]:Ae) 0 ([]:Ae) ([]:Ae) ([]:(List Aa))) false)).fTimer).fSource),Bz 4 (AG Ac (((AM r1.2.fTimers id (Ab.mk (Ad.mk ([]:Ae) 0 ([]:Ae) ([]:Ae) ([]:(List Aa))) false)).fTimer).fBody)),rB ((AM r1.2.fTimers id (Ab.mk (Ad.mk ([]:Ae) 0 ([]:Ae) ([]:Ae) ([]:(List Aa))) false)).fTold)]) rfl (H':=[.blk b7 [rS (((AM r1.2.fTimers id (Ab.mk (Ad.mk ([]:Ae) 0 ([]:Ae) ([]:Ae) ([]:(List Aa))) false)).fTimer).fID),Ao (((AM r1.2.fTimers id (Ab.mk (Ad.mk ([]:Ae) 0 ([]:Ae) ([]:Ae) ([]:(List Aa))) false)).fTimer).fAt),rS (((AM r1.2.fTimers id (Ab.mk (Ad.mk ([]:Ae) 0 ([]:Ae) ([]:Ae) ([]:(List Aa))) false)).fTimer).fTenant),rS (((AM r1.2.fTimers id (Ab.mk (Ad.mk ([]:Ae) 0 ([]:Ae) ([]:Ae) ([]:(List Aa))) false)).fTimer).fSource),Bz 4 (AG Ac (((AM r1.2.fTimers id (Ab.mk (Ad.mk ([]:Ae) 0 ([]:Ae) ([]:Ae) ([]:(List Aa))) false)).fTimer).fBody)),rB ((AM r1.2.fTimers id (Ab.mk (Ad.mk ([]:Ae) 0 ([]:Ae) ([]:Ae) ([]:(List Aa))) false)).fTold)] 65,.blk hb [rv (.map (some ha))] 54,.map ha (AY Al r1.2.fTimers)]) rfl (wa rfl (B5 (wm rfl (wv (BK rfl) (Aw (cz h6 rfl (λc8 h9=>?_) (λc8 hd=>?_)))))))
  ·refine Aj (wa rfl (Aw (A1 (Af ?_))));obtain rfl:=A2 h9;exact A0 (BX Tryz.results24 (AP rfl)) (sS (sC (sC sN))) ⟨rfl,rfl⟩
  ·refine A3 (AS (Aj (wm rfl (wv (Aq rfl) (vF Lk rfl Ll (vL 1 Ln rfl (wm rfl (US (enc:=Al) (xs:=r1.2.fTimers) (i:=2) Mj CA rfl rfl rfl (H':=[.blk b7 [rS (((AM r1.2.fTimers id (Ab.mk (Ad.mk ([]:Ae) 0 ([]:Ae) ([]:Ae) ([]:(List Aa))) false)).fTimer).fID),Ao (((AM r1.2.fTimers id (Ab.mk (Ad.mk ([]:Ae) 0 ([]:Ae) ([]:Ae) ([]:(List Aa))) false)).fTimer).fAt),rS (((AM r1.2.fTimers id (Ab.mk (Ad.mk ([]:Ae) 0 ([]:Ae) ([]:Ae) ([]:(List Aa))) false)).fTimer).fTenant),rS (((AM r1.2.fTimers id (Ab.mk (Ad.mk ([]:Ae) 0 ([]:Ae) ([]:Ae) ([]:(List Aa))) false)).fTimer).fSource),Bz 4 (AG Ac (((AM r1.2.fTimers id (Ab.mk (Ad.mk ([]:Ae) 0 ([]:Ae) ([]:Ae) ([]:(List Aa))) false)).fTimer).fBody)),rB ((AM r1.2.fTimers id (Ab.mk (Ad.mk ([]:Ae) 0 ([]:Ae) ([]:Ae) ([]:(List Aa))) false)).fTold)] 65,.blk hb [rv (.map (some ha))] 54,.map ha (AY Al (mdel r1.2.fTimers id))]) rfl (B5 (wa rfl (Aw (A1 ?_))))))))))));obtain rfl:=A2 hd;exact A0 (BX Tryz.results24 (AP rfl)) (sS (sC (sC sN))) ⟨rfl,rfl⟩
theorem M8 (hd:Nat)(hb:Nat)(q:A5)(id:Ae)(r:Int×A5)(h:Id q id=some r):Fn Tryz.prog GE 25 [rP hd 0,rS id] [.blk hd [rv (.map (some hb))] 54,.map hb (AY Al q.fTimers)] (λR H=>R=Ao r.1∧H=[.blk hd [rv (.map (some hb))] 54,.map hb (AY Al r.2.fTimers)]):=by
 refine enter (n:=19) Tryz.func25 rfl Tryz.ntmps25 rfl (λw Z=>?_);unfold Id at h;refine Aj (wa rfl (Aw (Ap (Ct (S:=(Bool×(List (Ae×Ab)))×(Unit)) (λσ=>Ez id σ.1.1 σ.1.2=some r) (λσ=>[(0,rP hd 0),(1,rS id),(4,Ao 0),(15,rB σ.1.1)]) (λσ=>[.blk hd [rv (.map (some hb))] 54,.map hb (AY Al σ.1.2)]) ?_ ?_))))
 ·refine Ak (wm rfl (ob h λr9 hf hg=>Du (Hr:=[]) SD (Jn hd hb q r9 hf) rfl (Ys _) rfl ?_));rintro _ _ ⟨rfl,rfl⟩;refine wm rfl (bz hg (λha hh=>?_) (λha hi=>?_))
  ·exact wo ha (wm rfl (wo ha (wv (Aq rfl) (wo ha (vF Lk rfl Ll (wo ha (vL 0 Ln rfl (wo ha (wm rfl (wo ha (wv (r:=Bm [rS (((AM r9.2.fTimers id (Ab.mk (Ad.mk ([]:Ae) 0 ([]:Ae) ([]:Ae) ([]:(List Aa))) false)).fTimer).fID),Ao (((AM r9.2.fTimers id (Ab.mk (Ad.mk ([]:Ae) 0 ([]:Ae) ([]:Ae) ([]:(List Aa))) false)).fTimer).fAt),rS (((AM r9.2.fTimers id (Ab.mk (Ad.mk ([]:Ae) 0 ([]:Ae) ([]:Ae) ([]:(List Aa))) false)).fTimer).fTenant),rS (((AM r9.2.fTimers id (Ab.mk (Ad.mk ([]:Ae) 0 ([]:Ae) ([]:Ae) ([]:(List Aa))) false)).fTimer).fSource),Bz 4 (AG Ac (((AM r9.2.fTimers id (Ab.mk (Ad.mk ([]:Ae) 0 ([]:Ae) ([]:Ae) ([]:(List Aa))) false)).fTimer).fBody)),rB ((AM r9.2.fTimers id (Ab.mk (Ad.mk ([]:Ae) 0 ([]:Ae) ([]:Ae) ([]:(List Aa))) false)).fTold)]) (T7 (enc:=Al) (xs:=r9.2.fTimers) (z:=Ab.mk (Ad.mk ([]:Ae) 0 ([]:Ae) ([]:Ae) ([]:(List Aa))) false) (i:=1) Mj CA NQ DH rfl rfl rfl) (wo ha (wv (r:=rB ((AM r9.2.fTimers id (Ab.mk (Ad.mk ([]:Ae) 0 ([]:Ae) ([]:Ae) ([]:(List Aa))) false)).fTold)) (Vo Ra rfl Qd rfl rfl) (KR rfl ha rfl (An (Au (AF (((AM r9.2.fTimers id (Ab.mk (Ad.mk ([]:Ae) 0 ([]:Ae) ([]:Ae) ([]:(List Aa))) false)).fTold,r9.2.fTimers),()) hh (AD.c rfl (AD.c rfl (AD.c rfl (AD.c rfl AD.nil)))) (sC (sC sN)))))))))))))))))))
  ·exact wf ha (wf ha (wf ha (wf ha (wf ha (wf ha (wf ha (wv (r:=rB false) (AA rfl ha rfl) (An (Au (AF ((false,r9.2.fTimers),()) hi (AD.c rfl (AD.c rfl (AD.c rfl (AD.c rfl AD.nil)))) (sC (sC sN))))))))))))
 ·rintro⟨⟨x7,x8⟩,⟨⟩⟩ he;refine Cn (l':=[(0,rP hd 0),(1,rS id),(4,Ao 0),(15,rB x7)]) (H':=[.blk hd [rv (.map (some hb))] 54,.map hb (AY Al x8)]) rfl rfl ?_;replace he:Ez id x7 x8=some r:=he;unfold Ez at he;refine cz he rfl (λhj hk=>?_) (λhj hl=>?_)
  ·refine Aj (wa rfl (Aw (A1 (Af ?_))));obtain rfl:=A2 hk;exact A0 (BX Tryz.results25 (AP rfl)) (sC (sC sN)) ⟨rfl,rfl⟩
  ·refine A3 (AS (Aj (wm rfl (wm rfl (ob hl λhm hn ho=>Du (Hr:=[]) Tryz.call24 (P0 hd hb (A5.mk x8) id hm hn) rfl (Ys _) rfl ?_)))));rintro _ _ ⟨rfl,rfl⟩;refine wa rfl (Aw (A1 ?_));obtain rfl:=A2 ho;exact A0 (BX Tryz.results25 (AP rfl)) (sC (sC sN)) ⟨rfl,rfl⟩
theorem UW (hb:Nat)(ha:Nat)(q:A5)(r:Int×Bool×A5)(h:ST q=some r):Fn Tryz.prog GE 16 [rP hb 0] [.blk hb [rv (.map (some ha))] 54,.map ha (AY Al q.fTimers)] (λR H=>R=C0 [Ao r.1,rB r.2.1]∧H=[.blk hb [rv (.map (some ha))] 54,.map ha (AY Al r.2.2.fTimers)]):=by
 refine enter (n:=14) Tryz.func16 rfl Tryz.ntmps16 rfl (λw Z=>?_);unfold ST at h;refine Aj (wa rfl (wa rfl (B5 (wm rfl (ob h λr1 e3 h2=>Du (Hr:=[]) Tryz.call14 (KT hb ha q r1 e3) rfl (Ys _) rfl ?_)))));rintro _ _ ⟨v4,rfl,rfl⟩;refine wa rfl (Aw (Ap (Aj (wm rfl (wv (BY (ys:=r1.1) (enc:=Ah) (i:=0) EX rfl rfl) (wv (BP rfl rfl) (Aw (cz h2 rfl (λc5 h6=>?_) (λc5 h7=>?_)))))))))
 ·refine Aj (wa rfl (wa rfl (Aw (A1 (Af ?_)))));obtain rfl:=A2 h6;exact A0 (Ie Tryz.results16 (AP rfl) (AP rfl)) (sS (sC (sC sN))) ⟨rfl,rfl⟩
 ·refine A3 (AS (Aj (wm rfl (ck h7 λg8 h9=>wv (r:=rv (D6 5 v4 (Bh 0) 0)) (E2 (i:=0) EX Ci rfl rfl rfl (Bk g8)) (wv (r:=rv (D6 5 v4 (Bh 0) 1)) (Do (k:=0) CC rfl C2 rfl (Bk g8) rfl rfl rfl) (wv (r:=Ao ((Ar r1.1 0).fAt)) (EC (enc:=Ah) (ys:=r1.1) (i:=0) (j:=0) De rfl rfl g8 rfl) (wa rfl (wa rfl (Aw (A1 ?_))))))))));obtain rfl:=A2 h9;exact A0 (Ie Tryz.results16 (AP rfl) (AP rfl)) (sS (sC (sC sN))) ⟨rfl,rfl⟩
end Go.Proofs.YtmmbdclkpijkpaaGreatDoor.Q
namespace Go.Proofs.YtmmbdclkpijkpaaGreatDoor
open Go
set_option linter.unusedVariables false
structure ID where
 fTimer:Ad
 fReturned:Bool
 deriving DecidableEq,Inhabited
structure S7 where
 fMade:Bool
 fTimers:(List ID)
 deriving DecidableEq,Inhabited
def Dy (a:Ad)(b:Ad)(ha:Int):Option (Stp (Int) (Out (Bool) (Unit))):=
 Bw (decide (ha<(a.fBody.length:Int))) (Bc (Dt ha (a.fBody.length:Int))<|Bc (Dt ha (b.fBody.length:Int))<|Bw (!(decide (((Ar a.fBody ha).fKind)=((Ar b.fBody ha).fKind))&&decide (((Ar a.fBody ha).fInt)=((Ar b.fBody ha).fInt))&&decide (((Ar a.fBody ha).fStr)=((Ar b.fBody ha).fStr))&&decide (((Ar a.fBody ha).fN)=((Ar b.fBody ha).fN)))) (some (.out (.ret false))) (Bc (BT .i64 (ha+1))<|some (.next (ha+1)))) (some (.out (.go ())))
def Ih :Option (Bool):=
 some true
def LA (F:Nat)(a:Ad)(b:Ad):Option (Bool):=
 Bw (((!decide (a.fID=b.fID))||((!decide (a.fAt=b.fAt))||((!decide (a.fTenant=b.fTenant))||((!decide (a.fSource=b.fSource))||(!decide ((a.fBody.length:Int)=(b.fBody.length:Int)))))))) (some false) (B0 (Cs (λσ=>Dy a b σ) F 0) (BN λν=>Ih ))
def Dx (F:Nat)(a:(List Ad))(b:(List Ad))(ha:Int):Option (Stp (Int) (Out (Bool) (Unit))):=
 Bw (decide (ha<(a.length:Int))) (Bc (Dt ha (a.length:Int))<|Bc (Dt ha (b.length:Int))<|B0 (LA F (Ar a ha) (Ar b ha)) λhb=>Bw (!hb) (some (.out (.ret false))) (Bc (BT .i64 (ha+1))<|some (.next (ha+1)))) (some (.out (.go ())))
def Ig :Option (Bool):=
 some true
def JX (F:Nat)(a:(List Ad))(b:(List Ad)):Option (Bool):=
 Bw (!decide ((a.length:Int)=(b.length:Int))) (some false) (B0 (Cs (λσ=>Dx F a b σ) F 0) (BN λν=>Ig ))
def Dw (t:Ad)(ha:Int):Option (Stp (Int) (Out (Bool) (Unit))):=
 Bw (decide (ha<(t.fBody.length:Int))) (Bc (Dt ha (t.fBody.length:Int))<|Bw (decide (5000<(((Ar t.fBody ha).fStr).length:Int))) (some (.out (.ret false))) (Bc (BT .i64 (ha+1))<|some (.next (ha+1)))) (some (.out (.go ())))
def If :Option (Bool):=
 some true
def L9 (F:Nat)(t:Ad):Option (Bool):=
 Bw (((decide (300<(t.fID.length:Int)))||((decide (300<(t.fTenant.length:Int)))||((decide (300<(t.fSource.length:Int)))||(decide (300<(t.fBody.length:Int))))))) (some false) (B0 (Cs (λσ=>Dw t σ) F 0) (BN λν=>If ))
end Go.Proofs.YtmmbdclkpijkpaaGreatDoor
namespace Go.Proofs.YtmmbdclkpijkpaaGreatDoor.Q
open Go Go.RowKit
set_option linter.unusedVariables false
set_option linter.unusedSimpArgs false
set_option maxRecDepth 100000
set_option maxHeartbeats 4000000
theorem U5 {a0 b0:Int}{a1 b1:Int}{a2 b2:Ae}{a3 b3:Int}(w:World):(Op.equalIn 10000 89 (.agg #[.int .i64 a0,.int .i64 a1,.string (B a2),.int .i64 a3]) (.agg #[.int .i64 b0,.int .i64 b1,.string (B b2),.int .i64 b3])).run Tryz.prog w = .ok (decide (a0=b0)&&decide (a1=b1)&&decide (a2=b2)&&decide (a3=b3)) w:=by
  have hS:Tryz.prog.underlying 89=some (.struct (Tryz.prog.fieldsOf 89)):=by kernel_rfl
  have hp:Tryz.prog.stoodInHeld 89=false:=by kernel_rfl
  have u3:=UC;have ia3:=De;have so3:=C2;have u9:=CA;have ia9:=D8;have so9:=Df;have ha:=Tryz.underlying87;have hb:=Jc;have hd:=Jb;rw[show(10000:Nat)=9999+1 from rfl,run_equalIn_agg w 9999 89 _ _ hS hp];simp only[Program.fieldsOf,BZ]
  go_simp
  simp only[Dr]
  by_cases h0:a0=b0<;>by_cases h1:a1=b1<;>by_cases h2:a2=b2<;>by_cases h3:a3=b3<;>simp[h0,h1,h2,h3]
theorem O6 {n:Nat}{c:Cx}{l:Fr}{H:List Ent}{d:Option Nat}{ty rty:TypeId}{pos:String}{af:Array Edge}{g:Option (Nat×Bool)}{x y:Operand}{a0 b0:Int}{a1 b1:Int}{a2 b2:Ae}{a3 b3:Int}(hx:ev l x=some (Bm [Ao a0,Ao a1,rS a2,Ao a3]))(hy:ev l y=some (Bm [Ao b0,Ao b1,rS b2,Ao b3])):AZ Tryz.prog n c l H { dst:=d,op:=.binOp .neq 89 x y rty,type:=ty,pos:=pos,after:=af,guard:=g } (rB (!(decide (a0=b0)&&decide (a1=b1)&&decide (a2=b2)&&decide (a3=b3)))):=λa w Z ha hw=>by
  obtain⟨us,e1,q1⟩:=ha.ev hx;obtain⟨vs,e2,q2⟩:=ha.ev hy;have k1:=AN.eq_rv (us:=[.int .i64 a0,.int .i64 a1,.string (B a2),.int .i64 a3]) q1;have k2:=AN.eq_rv (us:=[.int .i64 b0,.int .i64 b1,.string (B b2),.int .i64 b3]) q2;subst k1;subst k2;have hm:Tryz.prog.eqGuardType Tryz.prog.depth 89=false:=by kernel_rfl
  have hb:=U5 (a0:=a0) (a1:=a1) (a2:=a2) (a3:=a3) (b0:=b0) (b1:=b1) (b2:=b2) (b3:=b3) w;refine⟨.bool (!(decide (a0=b0)&&decide (a1=b1)&&decide (a2=b2)&&decide (a3=b3))),rfl,?_⟩;have hg:=run_eqGuard_agg (P:=Tryz.prog) w .neq 89 x y #[.int .i64 a0,.int .i64 a1,.string (B a2),.int .i64 a3] #[.int .i64 b0,.int .i64 b1,.string (B b2),.int .i64 b3] hm;simp only[execOp,e1,e2,Sem.run_bind,hg,Result.andThen_ok,run_neq_struct,hb,Sem.run_pure]
theorem Ti (F:Nat)(a:Ad)(b:Ad)(r:Bool)(h:LA F a b=some r):Fn Tryz.prog GE 26 [Bm (Ah a),Bm (Ah b)] [] (λR H=>R=rB r∧H=[]):=by
 refine enter (n:=59) Tryz.func26 rfl Tryz.ntmps26 rfl (λw Z=>?_);unfold LA at h;refine Aj (Cr rfl rfl (λb1=>?_));refine Cr rfl rfl (λb2=>?_);refine wa rfl (Aw (Ap (AH [(2,rP b1 0),(3,rP b2 0),(40,rB ((!decide (a.fID=b.fID))||((!decide (a.fAt=b.fAt))||((!decide (a.fTenant=b.fTenant))||((!decide (a.fSource=b.fSource))||(!decide ((a.fBody.length:Int)=(b.fBody.length:Int))))))))] [.blk b2 (Ah b) 31,.blk b1 (Ah a) 31] ?_ ?_)))
 ·refine Ak (vF CC rfl Df (vL 1 D8 rfl (vF CC rfl Df (vL 0 D8 rfl (wv (J6 rfl rfl) (wm rfl (AR (!decide (a.fID=b.fID)) (λc3=>?_) (λc3=>?_))))))))
  ·refine wf c3 (wf c3 (wf c3 (wf c3 (wf c3 (wv (r:=rB true) (Ax rfl c3 rfl) (wm rfl (wz rfl rfl (wz rfl rfl (wz rfl rfl (wz rfl rfl (wz rfl rfl (wv (r:=rB true) (Ax (b:=true) rfl rfl rfl) (wm rfl (wz rfl rfl (wz rfl rfl (wz rfl rfl (wz rfl rfl (wz rfl rfl (wv (r:=rB true) (Ax (b:=true) rfl rfl rfl) (wm rfl (wz rfl rfl (wz rfl rfl (wz rfl rfl ?_)))))))))))))))))))))));refine wz rfl rfl (wz rfl rfl (wz rfl rfl (wz rfl rfl (wv (r:=rB true) (Ax (b:=true) rfl rfl rfl) (An ?_)))));exact Dg c3
  ·refine wo c3 (vF CC rfl C2 (wo c3 (vL 1 De rfl (wo c3 (vF CC rfl C2 (wo c3 (vL 0 De rfl (wo c3 (wv (D2 rfl rfl) (It rfl c3 rfl (wm rfl (AR (!decide (a.fAt=b.fAt)) (λc4=>?_) (λc4=>?_)))))))))))))
   ·refine wf c4 (wf c4 (wf c4 (wf c4 (wf c4 (wv (r:=rB true) (Ax rfl c4 rfl) (wm rfl (wz rfl rfl (wz rfl rfl (wz rfl rfl (wz rfl rfl (wz rfl rfl (wv (r:=rB true) (Ax (b:=true) rfl rfl rfl) (wm rfl (wz rfl rfl (wz rfl rfl (wz rfl rfl (wz rfl rfl (wz rfl rfl (wz rfl rfl (wz rfl rfl (wv (r:=rB true) (Ax (b:=true) rfl rfl rfl) (An ?_))))))))))))))))))))));exact Dg (And.intro c3 c4)
   ·refine wo c4 (vF CC rfl Df (wo c4 (vL 1 D8 rfl (wo c4 (vF CC rfl Df (wo c4 (vL 0 D8 rfl (wo c4 (wv (J6 rfl rfl) (It rfl c4 rfl (wm rfl (AR (!decide (a.fTenant=b.fTenant)) (λc5=>?_) (λc5=>?_)))))))))))))
    ·refine wf c5 (wf c5 (wf c5 (wf c5 (wf c5 (wv (r:=rB true) (Ax rfl c5 rfl) (wm rfl (wz rfl rfl (wz rfl rfl (wz rfl rfl (wz rfl rfl (wz rfl rfl (wz rfl rfl (wz rfl rfl (wv (r:=rB true) (Ax (b:=true) rfl rfl rfl) (An ?_)))))))))))))));exact Dg (And.intro c3 (And.intro c4 c5))
    ·refine wo c5 (vF CC rfl Df (wo c5 (vL 1 D8 rfl (wo c5 (vF CC rfl Df (wo c5 (vL 0 D8 rfl (wo c5 (wv (J6 rfl rfl) (It rfl c5 rfl (wm rfl (AR (!decide (a.fSource=b.fSource)) (λc6=>?_) (λc6=>?_)))))))))))))
     ·refine wf c6 (wf c6 (wf c6 (wf c6 (wf c6 (wf c6 (wf c6 (wv (r:=rB true) (Ax rfl c6 rfl) (An ?_))))))));exact Dg (And.intro c3 (And.intro c4 (And.intro c5 c6)))
     ·refine wo c6 (vF CC rfl CB (wo c6 (vL 1 EI rfl (wo c6 (wv (BO (ys:=a.fBody) (enc:=Ac) C1 rfl) (wo c6 (vF CC rfl CB (wo c6 (vL 0 EI rfl (wo c6 (wv (BO (ys:=b.fBody) (enc:=Ac) C1 rfl) (wo c6 (wv (D2 rfl rfl) (It rfl c6 rfl (An ?_)))))))))))))));exact Dg (And.intro c3 (And.intro c4 (And.intro c5 c6)))
 refine cz h rfl (λc7 h8=>?_) (λc7 h9=>?_)
 ·refine Aj (wa rfl (Aw (A1 (Af ?_))));obtain rfl:=A2 h8;exact A0 (BX Tryz.results26 (AP rfl)) (sS (sS sN)) ⟨rfl,rfl⟩
 ·refine A3 (AS (Ap (Aj (vF CC rfl CB (vL 1 EI rfl (wv (BO (ys:=a.fBody) (enc:=Ac) C1 rfl) (wv (r:=Ao 0) (Am rfl) (Aw (AO (ob h9 λhg hh hf=>BH (S:=Nat×(Int)×(Unit)) (V:=(Unit)×(Unit)) 0 (λσ=>Cs (λσ=>Dy a b σ) σ.1 σ.2.1=some hg) (λσ=>[(2,rP b1 0),(3,rP b2 0),(43,Ao (a.fBody.length:Int)),(44,Ao σ.2.1)]) (λσ=>[.blk b2 (Ah b) 31,.blk b1 (Ah a) 31]) (λσ=>σ.1) (F,0,()) hh (AD.c rfl (AD.c rfl (AD.c rfl (AD.c rfl AD.nil)))) (sC (sC sN)) (λσ=>Ih =some r) (λσ=>[]) (λσ=>[]) ?_ ?_))))))))))
  ·rintro⟨h1,ha,⟨⟩⟩ hi;refine Cn (l':=[(2,rP b1 0),(3,rP b2 0),(43,Ao (a.fBody.length:Int)),(44,Ao ha)]) (H':=[.blk b2 (Ah b) 31,.blk b1 (Ah a) 31]) rfl rfl ?_;obtain⟨hj,rfl,hk,hb,he⟩:=DY hi;replace hb:Dy a b ha=some hk:=hb;unfold Dy at hb;refine Aj (wv (E1 rfl rfl) (Aw (Ap (cz hb rfl (λhl hm=>?_) (λhl hn=>?_)))))
   ·refine A3 (AS (Ap (AO (Aj (wm rfl (wa rfl (Aw (Ap (ck hm λho hp=>ck hp λhq hr=>Dh [2,3,5,43,44] [⟨[],rP b1 4,0⟩,⟨[0],Bz 4 (AG Ac a.fBody),1⟩,⟨[],Ao ha,0⟩,⟨[1,2],R3 (Ac (Ar a.fBody ha)),0⟩,⟨[3],Bm (Ac (Ar a.fBody ha)),0⟩,⟨[],rP b2 4,0⟩,⟨[5],Bz 4 (AG Ac b.fBody),1⟩,⟨[],Ao ha,0⟩,⟨[6,7],R3 (Ac (Ar b.fBody ha)),0⟩,⟨[8],Bm (Ac (Ar b.fBody ha)),0⟩,⟨[4,9],rB (!(decide (((Ar a.fBody ha).fKind)=((Ar b.fBody ha).fKind))&&decide (((Ar a.fBody ha).fInt)=((Ar b.fBody ha).fInt))&&decide (((Ar a.fBody ha).fStr)=((Ar b.fBody ha).fStr))&&decide (((Ar a.fBody ha).fN)=((Ar b.fBody ha).fN)))),0⟩] [47,48,49,50,51,52,53,54,55,56,57,2,3,43,44] ?_ ?_)))))))))
    ·refine oq (A4 CC rfl CB rfl rfl) (of (AW (i:=1) EI rfl rfl rfl) (oq (Am rfl) (oq (Cv (enc:=Ac) (ys:=a.fBody) C1 D7 rfl rfl ho) (oq (CW Re D7 rfl rfl rfl) (oq (A4 CC rfl CB rfl rfl) (of (AW (i:=0) EI rfl rfl rfl) (oq (Am rfl) (oq (Cv (enc:=Ac) (ys:=b.fBody) C1 D7 rfl rfl hq) (oq (CW Re D7 rfl rfl rfl) (oq (O6 rfl rfl) ?_))))))))));exact Co
    refine AS (cz hr rfl (λhs ht=>?_) (λhs hu=>?_))
    ·refine Aj (wa rfl (Aw (A1 (A6 (Af (Af (Bj ?_)))))));have hw:=BB ht he hf;refine A6 (Af ?_);obtain rfl:=A2 hw;exact A0 (BX Tryz.results26 (AP rfl)) (sS (sS sN)) ⟨rfl,rfl⟩
    ·refine A3 (AK (AS (Ak (ck hu λhx hy=>wv (BQ rfl rfl hx) (wm rfl (An ?_))))));have hz:=BD hy he;exact Au (AF (hj,ha+1,()) ⟨hz,YI _⟩ (AD.c rfl (AD.c rfl (AD.c rfl (AD.c rfl AD.nil)))) (sC (sC sN)))
   ·refine BJ (AB ?_);have h0:=CY hn he hf;exact AB (B4 (AF ((),()) h0 AD.nil (sS (sS sN))))
  ·rintro⟨⟨⟩,⟨⟩⟩ hd;refine Eh (l':=[]) (H':=[]) rfl rfl ?_;replace hd:Ih =some r:=hd;unfold Ih at hd;refine Bt (AS (Aj (wa rfl (Aw (A1 ?_)))));obtain rfl:=A2 hd;exact A0 (BX Tryz.results26 (AP rfl)) sN ⟨rfl,rfl⟩
theorem Th (F:Nat)(a:(List Ad))(b:(List Ad))(r:Bool)(h:JX F a b=some r):Fn Tryz.prog GE 9 [Bz 5 (AG Ah a),Bz 5 (AG Ah b)] [] (λR H=>R=rB r∧H=[]):=by
 refine enter (n:=27) Tryz.func9 rfl Tryz.ntmps9 rfl (λw Z=>?_);unfold JX at h;refine Aj (wa rfl (Aw (Ap (Aj (wm rfl (wv (BO (ys:=a) (enc:=Ah) EX rfl) (wm rfl (wv (BO (ys:=b) (enc:=Ah) EX rfl) (wv (D2 rfl rfl) (Aw (cz h rfl (λc1 h2=>?_) (λc1 h3=>?_))))))))))))
 ·refine Aj (wa rfl (Aw (A1 (Af ?_))));obtain rfl:=A2 h2;exact A0 (BX Tryz.results9 (AP rfl)) sN ⟨rfl,rfl⟩
 ·refine A3 (AS (Ap (Aj (wm rfl (wv (BO (ys:=a) (enc:=Ah) EX rfl) (wv (r:=Ao 0) (Am rfl) (Aw (AO (ob h3 λhg hh hf=>BH (S:=Nat×(Int)×(Unit)) (V:=(Unit)×(Unit)) 0 (λσ=>Cs (λσ=>Dx F a b σ) σ.1 σ.2.1=some hg) (λσ=>[(0,Bz 5 (AG Ah a)),(1,Bz 5 (AG Ah b)),(12,Ao (a.length:Int)),(13,Ao σ.2.1)]) (λσ=>[]) (λσ=>σ.1) (F,0,()) hh (AD.c rfl (AD.c rfl (AD.c rfl (AD.c rfl AD.nil)))) sN (λσ=>Ig =some r) (λσ=>[]) (λσ=>[]) ?_ ?_)))))))))
  ·rintro⟨h6,ha,⟨⟩⟩ hi;refine Cn (l':=[(0,Bz 5 (AG Ah a)),(1,Bz 5 (AG Ah b)),(12,Ao (a.length:Int)),(13,Ao ha)]) (H':=[]) rfl rfl ?_;obtain⟨hj,rfl,hk,hb,he⟩:=DY hi;replace hb:Dx F a b ha=some hk:=hb;unfold Dx at hb;refine Aj (wv (E1 rfl rfl) (Aw (Ap (cz hb rfl (λhl hm=>?_) (λhl hn=>?_)))))
   ·refine A3 (AS (Ap (AO (Aj (wm rfl (wa rfl (Aw (Ap (ck hm λho hp=>ck hp λhq hr=>Hb 8 [0,1,5,12,13] [⟨[],Bz 5 (AG Ah a),none,none,none⟩,⟨[],Ao ha,none,none,none⟩,⟨[0,1],R3 (Ah (Ar a ha)),none,none,none⟩,⟨[2],Bm (Ah (Ar a ha)),none,none,none⟩,⟨[],Bz 5 (AG Ah b),none,none,none⟩,⟨[],Ao ha,none,none,none⟩,⟨[4,5],R3 (Ah (Ar b ha)),none,none,none⟩,⟨[6],Bm (Ah (Ar b ha)),none,none,none⟩] ?_ (λβ=>?_))))))))))
    ·refine E9 (Am rfl) (E9 (Am rfl) (E9 (Cv (enc:=Ah) (ys:=a) EX Ci rfl rfl ho) (E9 (CW EY Ci rfl rfl rfl) (E9 (Am rfl) (E9 (Am rfl) (E9 (Cv (enc:=Ah) (ys:=b) EX Ci rfl rfl hq) (E9 (CW EY Ci rfl rfl rfl) ?_)))))));exact Ws
    refine H0 (H1:=[]) [16,17,18,19,20,21,22,23,0,1,5,12,13] ?_;refine ob hr λhs ht hu=>HX Tryz.call26 (Ti F (Ar a ha) (Ar b ha) hs ht) rfl (wv (BK rfl) (Aw (cz hu rfl (λhw hx=>?_) (λhw hy=>?_))))
    ·refine Aj (wa rfl (Aw (A1 (A6 (Af (Af (Bj ?_)))))));have hz:=BB hx he hf;refine A6 (Af ?_);obtain rfl:=A2 hz;exact A0 (BX Tryz.results9 (AP rfl)) sN ⟨rfl,rfl⟩
    ·refine A3 (AK (AS (Ak (ck hy λh0 h1=>wv (BQ rfl rfl h0) (wm rfl (An ?_))))));have h4:=BD h1 he;exact Au (AF (hj,ha+1,()) ⟨h4,YI _⟩ (AD.c rfl (AD.c rfl (AD.c rfl (AD.c rfl AD.nil)))) sN)
   ·refine BJ (AB ?_);have h5:=CY hn he hf;exact AB (B4 (AF ((),()) h5 AD.nil sN))
  ·rintro⟨⟨⟩,⟨⟩⟩ hd;refine Eh (l':=[]) (H':=[]) rfl rfl ?_;replace hd:Ig =some r:=hd;unfold Ig at hd;refine Bt (AS (Aj (wa rfl (Aw (A1 ?_)))));obtain rfl:=A2 hd;exact A0 (BX Tryz.results9 (AP rfl)) sN ⟨rfl,rfl⟩
theorem Tf (F:Nat)(t:Ad)(r:Bool)(h:L9 F t=some r):Fn Tryz.prog GE 22 [Bm (Ah t)] [] (λR H=>R=rB r∧H=[]):=by
 refine enter (n:=41) Tryz.func22 rfl Tryz.ntmps22 rfl (λw Z=>?_);unfold L9 at h;refine Aj (Cr rfl rfl (λb1=>?_));refine wa rfl (Aw (Ap (AH [(1,rP b1 0),(25,rB ((decide (300<(t.fID.length:Int)))||((decide (300<(t.fTenant.length:Int)))||((decide (300<(t.fSource.length:Int)))||(decide (300<(t.fBody.length:Int)))))))] [.blk b1 (Ah t) 31] ?_ ?_)))
 ·refine Ak (vF CC rfl Df (vL 0 D8 rfl (wv (Bp CA rfl) (wv (Et rfl rfl) (wm rfl (AR (decide (300<(t.fID.length:Int))) (λc2=>?_) (λc2=>?_)))))))
  ·refine wf c2 (wf c2 (wf c2 (wf c2 (wv (r:=rB true) (Ax rfl c2 rfl) (wm rfl (wz rfl rfl (wz rfl rfl (wz rfl rfl (wz rfl rfl (wv (r:=rB true) (Ax (b:=true) rfl rfl rfl) (wm rfl (wz rfl rfl (wz rfl rfl (wz rfl rfl (wz rfl rfl (wv (r:=rB true) (Ax (b:=true) rfl rfl rfl) (An ?_)))))))))))))))));exact Dg c2
  ·refine wo c2 (vF CC rfl Df (wo c2 (vL 0 D8 rfl (wo c2 (wv (Bp CA rfl) (wo c2 (wv (Et rfl rfl) (It rfl c2 rfl (wm rfl (AR (decide (300<(t.fTenant.length:Int))) (λc3=>?_) (λc3=>?_)))))))))))
   ·refine wf c3 (wf c3 (wf c3 (wf c3 (wv (r:=rB true) (Ax rfl c3 rfl) (wm rfl (wz rfl rfl (wz rfl rfl (wz rfl rfl (wz rfl rfl (wv (r:=rB true) (Ax (b:=true) rfl rfl rfl) (An ?_)))))))))));exact Dg (And.intro c2 c3)
   ·refine wo c3 (vF CC rfl Df (wo c3 (vL 0 D8 rfl (wo c3 (wv (Bp CA rfl) (wo c3 (wv (Et rfl rfl) (It rfl c3 rfl (wm rfl (AR (decide (300<(t.fSource.length:Int))) (λc4=>?_) (λc4=>?_)))))))))))
    ·refine wf c4 (wf c4 (wf c4 (wf c4 (wv (r:=rB true) (Ax rfl c4 rfl) (An ?_)))));exact Dg (And.intro c2 (And.intro c3 c4))
    ·refine wo c4 (vF CC rfl CB (wo c4 (vL 0 EI rfl (wo c4 (wv (BO (ys:=t.fBody) (enc:=Ac) C1 rfl) (wo c4 (wv (Et rfl rfl) (It rfl c4 rfl (An ?_)))))))));exact Dg (And.intro c2 (And.intro c3 c4))
 refine cz h rfl (λc5 h6=>?_) (λc5 h7=>?_)
 ·refine Aj (wa rfl (Aw (A1 (Af ?_))));obtain rfl:=A2 h6;exact A0 (BX Tryz.results22 (AP rfl)) (sS sN) ⟨rfl,rfl⟩
 ·refine A3 (AS (Ap (Aj (vF CC rfl CB (vL 0 EI rfl (wv (BO (ys:=t.fBody) (enc:=Ac) C1 rfl) (wv (r:=Ao 0) (Am rfl) (Aw (AO (ob h7 λhg hh hf=>BH (S:=Nat×(Int)×(Unit)) (V:=(Unit)×(Unit)) 0 (λσ=>Cs (λσ=>Dw t σ) σ.1 σ.2.1=some hg) (λσ=>[(1,rP b1 0),(28,Ao (t.fBody.length:Int)),(29,Ao σ.2.1)]) (λσ=>[.blk b1 (Ah t) 31]) (λσ=>σ.1) (F,0,()) hh (AD.c rfl (AD.c rfl (AD.c rfl AD.nil))) (sC sN) (λσ=>If =some r) (λσ=>[]) (λσ=>[]) ?_ ?_))))))))))
  ·rintro⟨hy,hd,⟨⟩⟩ hi;refine Cn (l':=[(1,rP b1 0),(28,Ao (t.fBody.length:Int)),(29,Ao hd)]) (H':=[.blk b1 (Ah t) 31]) rfl rfl ?_;obtain⟨hj,rfl,hk,ha,he⟩:=DY hi;replace ha:Dw t hd=some hk:=ha;unfold Dw at ha;refine Aj (wv (E1 rfl rfl) (Aw (Ap (cz ha rfl (λhl hm=>?_) (λhl hn=>?_)))))
   ·refine A3 (AS (Ap (AO (Aj (wm rfl (wa rfl (B5 (vF CC rfl CB (vL 0 EI rfl (wm rfl (ck hm λho hp=>wv (Cv (enc:=Ac) (ys:=t.fBody) C1 D7 rfl rfl ho) (wv (C8 BZ rfl Df rfl rfl) (wv (CF D8 rfl rfl) (wv (Bp CA rfl) (wv (Et rfl rfl) (Aw (cz hp rfl (λc51 hq=>?_) (λc51 hr=>?_))))))))))))))))))
    ·refine Aj (wa rfl (Aw (A1 (A6 (Af (Af (Bj ?_)))))));have hs:=BB hq he hf;refine A6 (Af ?_);obtain rfl:=A2 hs;exact A0 (BX Tryz.results22 (AP rfl)) (sS sN) ⟨rfl,rfl⟩
    ·refine A3 (AK (AS (Ak (ck hr λht hu=>wv (BQ rfl rfl ht) (wm rfl (An ?_))))));have hw:=BD hu he;exact Au (AF (hj,hd+1,()) ⟨hw,YI _⟩ (AD.c rfl (AD.c rfl (AD.c rfl AD.nil))) (sC sN))
   ·refine BJ (AB ?_);have hx:=CY hn he hf;exact AB (B4 (AF ((),()) hx AD.nil (sS sN)))
  ·rintro⟨⟨⟩,⟨⟩⟩ hb;refine Eh (l':=[]) (H':=[]) rfl rfl ?_;replace hb:If =some r:=hb;unfold If at hb;refine Bt (AS (Aj (wa rfl (Aw (A1 ?_)))));obtain rfl:=A2 hb;exact A0 (BX Tryz.results22 (AP rfl)) sN ⟨rfl,rfl⟩
end Go.Proofs.YtmmbdclkpijkpaaGreatDoor.Q
namespace Go.Proofs.YtmmbdclkpijkpaaGreatDoor
open Go
set_option linter.unusedVariables false
structure AQ where
 fKind:Int
 fNow:Int
 fTimer:Ad
 deriving DecidableEq,Inhabited
def WV (id:Ae)(n:Int):Option (Ad):=
 some (Ad.mk id n ([116]:Ae) ([115]:Ae) ([(Aa.mk 1 0 ([]:Ae) 0)]:List Aa))
def LM (F:Nat) :Option (Bool):=
 B0 (Pv) λr1=>B0 (WV ([98]:Ae) 5) λr6=>B0 (Mq F r1 r6 0) λr9=>Bc (!(!decide (r9.1=0)))<|B0 (WV ([97]:Ae) 5) λhi=>B0 (Mq F r9.2 hi 0) λhe=>Bc (!(!decide (he.1=0)))<|B0 (WV ([99]:Ae) 3) λhj=>B0 (Mq F he.2 hj 0) λhf=>Bc (!(!decide (hf.1=0)))<|B0 (Px F hf.2 4) λha=>B0 (Px F ha.2 5) λhb=>B0 (ST hb.2) λhd=>Bc (!(!decide ((ha.1.length:Int)=1)))<|Bc (Dt 0 (ha.1.length:Int))<|Bc (!(!decide (((Ar ha.1 0).fID)=([99]:Ae))))<|Bc (!(!decide ((hb.1.length:Int)=3)))<|Bc (Dt 1 (hb.1.length:Int))<|Bc (!(!decide (((Ar hb.1 1).fID)=([97]:Ae))))<|Bc (!(!decide (hd.1=3)))<|Bc (!(!hd.2.1))<|B0 (P1 hd.2.2 ([99]:Ae)) λhg=>Bc (decide (hg.1=0))<|B0 (Id hg.2 ([97]:Ae)) λhh=>Bc (decide (hh.1=10))<|B0 (WV ([100]:Ae) 3) λhk=>B0 (Mq F hh.2 hk 4) λhl=>some (decide (hl.1=2))
def D3 (F:Nat)(l:(List AQ))(ha:Int):Option (Stp (Int) (Out (Bool) (Unit))):=
 Bw (decide (ha<(l.length:Int))) (Bc (Dt ha (l.length:Int))<|B0 (L9 F ((Ar l ha).fTimer)) λhb=>Bw (!hb) (some (.out (.ret false))) (Bc (BT .i64 (ha+1))<|some (.next (ha+1)))) (some (.out (.go ())))
def Ip :Option (Bool):=
 some true
def LL (F:Nat)(l:(List AQ)):Option (Bool):=
 Bw (decide (300<(l.length:Int))) (some false) (B0 (Cs (λσ=>D3 F l σ) F 0) (BN λν=>Ip ))
def MU (F:Nat)(q:A5)(o:AQ):Option (Int×A5):=
 Bw (decide (o.fKind=0)) (B0 (Mq F q o.fTimer o.fNow) λr4=>some (r4.1,r4.2)) (Bw (decide (o.fKind=2)) (B0 (P1 q o.fTimer.fID) λha=>some (ha.1,ha.2)) (Bw (decide (o.fKind=3)) (B0 (Id q o.fTimer.fID) λhb=>some (hb.1,hb.2)) (some (0,q))))
def DN (F:Nat)(l:(List AQ))(ha:Int)(hb:(List (Ae×Ab))):Option (Stp (Int×(List (Ae×Ab))) (Out (A5) ((List (Ae×Ab))))):=
 Bw (decide (ha<(l.length:Int))) (Bc (Dt ha (l.length:Int))<|Bw (decide (((Ar l ha).fKind)=1)) (B0 (Px F (A5.mk hb) ((Ar l ha).fNow)) λhd=>B0 (MU F hd.2 (AQ.mk ((Ar l ha).fKind) ((Ar l ha).fNow) ((Ar l ha).fTimer))) λhe=>Bc (BT .i64 (ha+1))<|some (.next (ha+1,he.2.fTimers))) (B0 (MU F (A5.mk hb) (AQ.mk ((Ar l ha).fKind) ((Ar l ha).fNow) ((Ar l ha).fTimer))) λhf=>Bc (BT .i64 (ha+1))<|some (.next (ha+1,hf.2.fTimers)))) (some (.out (.go hb)))
def Hi (ha:(List (Ae×Ab))):Option (A5):=
 some (A5.mk ha)
def JE (F:Nat)(l:(List AQ)):Option (A5):=
 B0 (Pv) λr1=>B0 (Cs (λσ=>DN F l σ.1 σ.2) F (0,r1.fTimers)) (BN λν=>Hi ν)
end Go.Proofs.YtmmbdclkpijkpaaGreatDoor
namespace Go.Proofs.YtmmbdclkpijkpaaGreatDoor.Q
open Go Go.RowKit
set_option linter.unusedVariables false
set_option linter.unusedSimpArgs false
set_option maxRecDepth 100000
set_option maxHeartbeats 4000000
@[reducible] def AX (x:AQ):List Rp:=[Ao x.fKind,Ao x.fNow,rS x.fTimer.fID,Ao x.fTimer.fAt,rS x.fTimer.fTenant,rS x.fTimer.fSource,Bz 4 (AG Ac x.fTimer.fBody)]
theorem JM (x:AQ):(AX x).length=7:=rfl
theorem QU (parts:List (Nat×Value)):Tryz.prog.built 31 parts=Instr.fill (λi=>(#[(0,1),(1,1),(2,1),(3,1),(4,1)]:Array (Nat×Nat))[i]?) #[(.string ⟨#[]⟩),(.int .i64 0),(.string ⟨#[]⟩),(.string ⟨#[]⟩),((.slice none 0 0))] parts:=by kernel_rfl
theorem EG {n:Nat}{c:Cx}{l:Fr}{H:List Ent}{d:Option Nat}{ty:TypeId}{pos:String}{af:Array Edge}{g:Option (Nat×Bool)}{x0:Operand}{r0:Rp}(h0:ev l x0=some r0)(u0:r0.one=true){x1:Operand}{r1:Rp}(h1:ev l x1=some r1)(u1:r1.one=true){x2:Operand}{r2:Rp}(h2:ev l x2=some r2)(u2:r2.one=true){x3:Operand}{r3:Rp}(h3:ev l x3=some r3)(u3:r3.one=true){x4:Operand}{r4:Rp}(h4:ev l x4=some r4)(u4:r4.one=true):AZ Tryz.prog n c l H { dst:=d,op:=.build 31 #[(0,x0),(1,x1),(2,x2),(3,x3),(4,x4)],type:=ty,pos:=pos,after:=af,guard:=g } (Bm [r0,r1,r2,r3,r4]):=λa w Z ha _=>by
  have p0:=ha.ev h0;have c0:=BA (r0.hone u0 Z _ p0);have p1:=ha.ev h1;have c1:=BA (r1.hone u1 Z _ p1);have p2:=ha.ev h2;have c2:=BA (r2.hone u2 Z _ p2);have p3:=ha.ev h3;have c3:=BA (r3.hone u3 Z _ p3);have p4:=ha.ev h4;have c4:=BA (r4.hone u4 Z _ p4);have hb:Tryz.prog.built 31 [(0,a.eval x0),(1,a.eval x1),(2,a.eval x2),(3,a.eval x3),(4,a.eval x4)]=some #[a.eval x0,a.eval x1,a.eval x2,a.eval x3,a.eval x4]:=by
    rw[QU];generalize a.eval x0=v0 at *;generalize a.eval x1=v1 at *;generalize a.eval x2=v2 at *;generalize a.eval x3=v3 at *;generalize a.eval x4=v4 at *;simp[Instr.fill,c0,c1,c2,c3,c4]
  refine⟨.agg #[a.eval x0,a.eval x1,a.eval x2,a.eval x3,a.eval x4],⟨[a.eval x0,a.eval x1,a.eval x2,a.eval x3,a.eval x4],rfl,p0,p1,p2,p3,p4,trivial⟩,?_⟩;have:=run_build w 31 #[(0,a.eval x0),(1,a.eval x1),(2,a.eval x2),(3,a.eval x3),(4,a.eval x4)] _ (by simpa using hb);simp[execOp,this]
theorem QF (id:Ae)(n:Int)(r:Ad)(h:WV id n=some r):Fn Tryz.prog GE 23 [rS id,Ao n] [] (λR H=>R=Bm (Ah r)∧H=[]):=by
 refine enter (n:=10) Tryz.func23 rfl Tryz.ntmps23 rfl (λw Z=>?_);unfold WV at h;refine Aj (Cl (cs:=[rS ([]:Ae),Ao 0,rS ([]:Ae),rS ([]:Ae),rv (.slice none 0 0)]) NR rfl rfl (λb1=>?_));refine B5 (wm rfl (wm rfl (wv (r:=Bm [Ao 1,Ao 0,rS ([]:Ae),Ao 0]) (EA rfl rfl) (Bo (ys:=([(Aa.mk 1 0 ([]:Ae) 0)]:List Aa)) (enc:=Ac) (css:=[[Ao 1,Ao 0,rS ([]:Ae),Ao 0]]) (xs:=[.tmp 7]) C1 D7 KG rfl rfl rfl ⟨Ja.agg ⟨Up.refl _,Up.refl _,Up.refl _,Up.refl _,trivial⟩,trivial⟩ rfl Bb rfl rfl rfl (λb2=>?_)))));refine wv (r:=Bm [rS id,Ao n,rS ([116]:Ae),rS ([115]:Ae),rv (.slice (some ⟨b2,0,none⟩) 1 1)]) (EG rfl rfl rfl rfl rfl rfl rfl rfl rfl rfl) (By (i:=1) Ci rfl rfl rfl ⟨(BW rfl),(BW rfl),(BW rfl),(BW rfl),(D1 (i:=0) rfl),trivial⟩ rfl rfl (cs':=[rS id,Ao n,rS ([116]:Ae),rS ([115]:Ae),rv (.slice (some ⟨b2,0,none⟩) 1 1)]) rfl (H':=[.row (.slice (some ⟨b2,0,none⟩) 1 1) 89 4 (AG Ac ([(Aa.mk 1 0 ([]:Ae) 0)]:List Aa)),.blk b1 [rS id,Ao n,rS ([116]:Ae),rS ([115]:Ae),rv (.slice (some ⟨b2,0,none⟩) 1 1)] 31]) rfl (Aw (A1 (WK.freeze (i:=0) rfl (WK.upBlk (i:=1) (cs':=[rS id,Ao n,rS ([116]:Ae),rS ([115]:Ae),Bz 4 (AG Ac ([(Aa.mk 1 0 ([]:Ae) 0)]:List Aa))]) rfl ⟨Up.refl _,Up.refl _,Up.refl _,Up.refl _,Up.fact (i:=0) rfl,trivial⟩ ?_)))));obtain rfl:=A2 h;exact A0 (BX Tryz.results23 (HB (i:=1) EY Ci rfl rfl rfl)) (sS (sS sN)) ⟨rfl,rfl⟩
theorem OJ (F:Nat)  (r:Bool)(h:LM F=some r):Fn Tryz.prog GE 6 [] [] (λR H=>R=rB r∧H=[]):=by
 refine enter (n:=80) Tryz.func6 rfl Tryz.ntmps6 rfl (λw Z=>?_);unfold LM at h;refine Aj (wa rfl (B5 (ob h λr1 e3 h2=>Du (Hr:=[]) Tryz.call7 (Pu r1 e3) rfl (Ys _) rfl ?_)));rintro _ _ ⟨b4,b5,rfl,rfl⟩;refine wa rfl (Aw (Ap (Aj (wm rfl (wv (r:=rB false) (N5 ⟨_,S8⟩ rfl) (wm rfl (AJ (b:=false) rfl rfl rfl (wm rfl (AJ (b:=false) rfl rfl rfl (ob h2 λr6 e8 h7=>HX Tryz.call23 (QF ([98]:Ae) 5 r6 e8) rfl (AJ (b:=false) rfl rfl rfl (ob h7 λr9 hx hy=>Du (Hr:=[]) Rd (JV F b4 b5 r1 r6 0 r9 hx) rfl (Ys _) rfl ?_))))))))))));rintro _ _ ⟨rfl,rfl⟩;refine AJ (b:=false) rfl rfl rfl (wv (D2 rfl rfl) (wv (r:=rB (!decide (r9.1=0))) (AA (b:=false) rfl rfl rfl) (wm rfl (ck hy λhh hz=>AJ (b:=!decide (r9.1=0)) rfl rfl (Bool.not_eq_eq_eq_not.1 hh) (wm rfl (AJ (b:=!decide (r9.1=0)) rfl rfl (Bool.not_eq_eq_eq_not.1 hh) (ob hz λhr h0 h1=>HX Tryz.call23 (QF ([97]:Ae) 5 hr h0) rfl (AJ (b:=!decide (r9.1=0)) rfl rfl (Bool.not_eq_eq_eq_not.1 hh) (ob h1 λhd h3 h4=>Du (Hr:=[]) Rd (JV F b4 b5 r9.2 hr 0 hd h3) rfl (Ys _) rfl ?_)))))))));rintro _ _ ⟨rfl,rfl⟩;refine AJ (b:=!decide (r9.1=0)) rfl rfl (Bool.not_eq_eq_eq_not.1 hh) (wv (D2 rfl rfl) (wv (r:=rB (!decide (hd.1=0))) (AA (b:=!decide (r9.1=0)) rfl (Bool.not_eq_eq_eq_not.1 hh) rfl) (wm rfl (ck h4 λhi h5=>AJ (b:=!decide (hd.1=0)) rfl rfl (Bool.not_eq_eq_eq_not.1 hi) (wm rfl (AJ (b:=!decide (hd.1=0)) rfl rfl (Bool.not_eq_eq_eq_not.1 hi) (ob h5 λhs h6 h8=>HX Tryz.call23 (QF ([99]:Ae) 3 hs h6) rfl (AJ (b:=!decide (hd.1=0)) rfl rfl (Bool.not_eq_eq_eq_not.1 hi) (ob h8 λhk h9 hA=>Du (Hr:=[]) Rd (JV F b4 b5 hd.2 hs 0 hk h9) rfl (Ys _) rfl ?_)))))))));rintro _ _ ⟨rfl,rfl⟩;refine AJ (b:=!decide (hd.1=0)) rfl rfl (Bool.not_eq_eq_eq_not.1 hi) (wv (D2 rfl rfl) (wv (r:=rB (!decide (hk.1=0))) (AA (b:=!decide (hd.1=0)) rfl (Bool.not_eq_eq_eq_not.1 hi) rfl) (Aw (ck hA λhB hC=>CU (b:=!decide (hk.1=0)) rfl (Bool.not_eq_eq_eq_not.1 hB) (A3 (AS (Aj (wm rfl (ob hC λha hD hE=>Du (Hr:=[]) Tryz.call10 (Pw F b4 b5 hk.2 4 ha hD) rfl (Ys _) rfl ?_)))))))));rintro _ _ ⟨v33,rfl,rfl⟩;refine wa rfl (B5 (wm rfl (ob hE λhb hG hH=>Du (Hr:=[.row v33 31 5 (AG Ah ha.1)]) Tryz.call10 (Pw F b4 b5 ha.2 5 hb hG) rfl ((As (i:=1) rfl).trans (Yy _ ((As (i:=1) rfl).trans (Yy _ (Ys _))))) rfl ?_)));rintro _ _ ⟨v37,rfl,rfl⟩;refine wa rfl (B5 (wm rfl (ob hH λhe hI hJ=>Du (Hr:=[.row v37 31 5 (AG Ah hb.1),.row v33 31 5 (AG Ah ha.1)]) Tryz.call16 (UW b4 b5 hb.2 he hI) rfl ((As (i:=1) rfl).trans (Yy _ ((As (i:=1) rfl).trans (Yy _ (Ys _))))) rfl ?_)));rintro _ _ ⟨rfl,rfl⟩;refine wm rfl (wv (AI rfl rfl) (wv (AI rfl rfl) (wa rfl (wa rfl (Aw (Ap (Aj (wm rfl (wv (BY (ys:=ha.1) (enc:=Ah) (i:=3) EX rfl rfl) (wv (D2 rfl rfl) (wm rfl (ck hJ λhf hK=>AJ (b:=!decide ((ha.1.length:Int)=1)) rfl rfl (Bool.not_eq_eq_eq_not.1 hf) (wm rfl (AJ (b:=!decide ((ha.1.length:Int)=1)) rfl rfl (Bool.not_eq_eq_eq_not.1 hf) (ck hK λhn hL=>wv (r:=rv (D6 5 v33 (Bh 0) 0)) (E2 (i:=3) EX Ci rfl rfl rfl (Bk hn)) (AJ (b:=!decide ((ha.1.length:Int)=1)) rfl rfl (Bool.not_eq_eq_eq_not.1 hf) (wv (r:=rv (D6 5 v33 (Bh 0) 0)) (Do (k:=3) CC rfl Df rfl (Bk hn) rfl rfl rfl) (AJ (b:=!decide ((ha.1.length:Int)=1)) rfl rfl (Bool.not_eq_eq_eq_not.1 hf) (wv (r:=rS ((Ar ha.1 0).fID)) (EC (enc:=Ah) (ys:=ha.1) (i:=3) (j:=0) D8 rfl rfl hn rfl) (AJ (b:=!decide ((ha.1.length:Int)=1)) rfl rfl (Bool.not_eq_eq_eq_not.1 hf) (wv (J6 rfl rfl) ?_)))))))))))))))))))));refine wv (r:=rB (!decide (((Ar ha.1 0).fID)=([99]:Ae)))) (AA (b:=!decide ((ha.1.length:Int)=1)) rfl (Bool.not_eq_eq_eq_not.1 hf) rfl) (wm rfl (ck hL λhl hN=>AJ (b:=!decide (((Ar ha.1 0).fID)=([99]:Ae))) rfl rfl (Bool.not_eq_eq_eq_not.1 hl) (wm rfl (AJ (b:=!decide (((Ar ha.1 0).fID)=([99]:Ae))) rfl rfl (Bool.not_eq_eq_eq_not.1 hl) (wv (BY (ys:=hb.1) (enc:=Ah) (i:=2) EX rfl rfl) (AJ (b:=!decide (((Ar ha.1 0).fID)=([99]:Ae))) rfl rfl (Bool.not_eq_eq_eq_not.1 hl) (wv (D2 rfl rfl) (wv (r:=rB (!decide ((hb.1.length:Int)=3))) (AA (b:=!decide (((Ar ha.1 0).fID)=([99]:Ae))) rfl (Bool.not_eq_eq_eq_not.1 hl) rfl) (wm rfl (ck hN λhg hO=>AJ (b:=!decide ((hb.1.length:Int)=3)) rfl rfl (Bool.not_eq_eq_eq_not.1 hg) (wm rfl (AJ (b:=!decide ((hb.1.length:Int)=3)) rfl rfl (Bool.not_eq_eq_eq_not.1 hg) (ck hO λho hP=>wv (r:=rv (D6 5 v37 (Bh 1) 0)) (E2 (i:=2) EX Ci rfl rfl rfl (Bk ho)) (AJ (b:=!decide ((hb.1.length:Int)=3)) rfl rfl (Bool.not_eq_eq_eq_not.1 hg) (wv (r:=rv (D6 5 v37 (Bh 1) 0)) (Do (k:=2) CC rfl Df rfl (Bk ho) rfl rfl rfl) (AJ (b:=!decide ((hb.1.length:Int)=3)) rfl rfl (Bool.not_eq_eq_eq_not.1 hg) (wv (r:=rS ((Ar hb.1 1).fID)) (EC (enc:=Ah) (ys:=hb.1) (i:=2) (j:=1) D8 rfl rfl ho rfl) (AJ (b:=!decide ((hb.1.length:Int)=3)) rfl rfl (Bool.not_eq_eq_eq_not.1 hg) (wv (J6 rfl rfl) (wv (r:=rB (!decide (((Ar hb.1 1).fID)=([97]:Ae)))) (AA (b:=!decide ((hb.1.length:Int)=3)) rfl (Bool.not_eq_eq_eq_not.1 hg) rfl) ?_))))))))))))))))))));refine wm rfl (ck hP λhp hQ=>AJ (b:=!decide (((Ar hb.1 1).fID)=([97]:Ae))) rfl rfl (Bool.not_eq_eq_eq_not.1 hp) (wm rfl (AJ (b:=!decide (((Ar hb.1 1).fID)=([97]:Ae))) rfl rfl (Bool.not_eq_eq_eq_not.1 hp) (wv (D2 rfl rfl) (wv (r:=rB (!decide (he.1=3))) (AA (b:=!decide (((Ar hb.1 1).fID)=([97]:Ae))) rfl (Bool.not_eq_eq_eq_not.1 hp) rfl) (wm rfl (ck hQ λhq hR=>AJ (b:=!decide (he.1=3)) rfl rfl (Bool.not_eq_eq_eq_not.1 hq) (wm rfl (AJ (b:=!decide (he.1=3)) rfl rfl (Bool.not_eq_eq_eq_not.1 hq) (wv (BK rfl) (wv (r:=rB (!he.2.1)) (AA (b:=!decide (he.1=3)) rfl (Bool.not_eq_eq_eq_not.1 hq) rfl) (Aw (ck hR λhS hT=>CU (b:=!he.2.1) rfl (Bool.not_eq_eq_eq_not.1 hS) (A3 (AS (Aj (wm rfl (ob hT λht hU hV=>Du (Hr:=[.row v37 31 5 (AG Ah hb.1),.row v33 31 5 (AG Ah ha.1)]) Tryz.call24 (P0 b4 b5 he.2.2 ([99]:Ae) ht hU) rfl (Ys _) rfl ?_))))))))))))))))));rintro _ _ ⟨rfl,rfl⟩;refine wv (BP rfl rfl) (wm rfl (ck hV λhm hW=>wo hm (wm rfl (wo hm (ob hW λhu hX hY=>Du (Hr:=[.row v37 31 5 (AG Ah hb.1),.row v33 31 5 (AG Ah ha.1)]) Tryz.call25 (M8 b4 b5 ht.2 ([97]:Ae) hu hX) rfl (Ys _) rfl ?_)))));rintro _ _ ⟨rfl,rfl⟩;refine wo hm (wv (BP rfl rfl) (KR rfl hm rfl (wm rfl (ck hY λhj hZ=>wo hj (wm rfl (wo hj (ob hZ λhw ga gb=>HX Tryz.call23 (QF ([100]:Ae) 3 hw ga) rfl (wo hj (ob gb λgc gd ge=>Du (Hr:=[.row v37 31 5 (AG Ah hb.1),.row v33 31 5 (AG Ah ha.1)]) Rd (JV F b4 b5 hu.2 hw 4 gc gd) rfl (Ys _) rfl ?_)))))))));rintro _ _ ⟨rfl,rfl⟩;refine wo hj (wv (BP rfl rfl) (KR rfl hj rfl (wa rfl (Aw (A1 ?_)))));obtain rfl:=A2 ge;exact A0 (BX Tryz.results6 (AP rfl)) (sS (sS (sS (sS sN)))) ⟨rfl,rfl⟩
theorem TP (F:Nat)(l:(List AQ))(r:Bool)(h:LL F l=some r):Fn Tryz.prog GE 5 [Bz 7 (AG AX l)] [] (λR H=>R=rB r∧H=[]):=by
 refine enter (n:=20) Tryz.func5 rfl Tryz.ntmps5 rfl (λw Z=>?_);unfold LL at h;refine Aj (wa rfl (Aw (Ap (Aj (wm rfl (wv (BO (ys:=l) (enc:=AX) NT rfl) (wv (Et rfl rfl) (Aw (cz h rfl (λc1 h2=>?_) (λc1 h3=>?_))))))))))
 ·refine Aj (wa rfl (Aw (A1 (Af ?_))));obtain rfl:=A2 h2;exact A0 (BX Tryz.results5 (AP rfl)) sN ⟨rfl,rfl⟩
 ·refine A3 (AS (Ap (Aj (wm rfl (wv (BO (ys:=l) (enc:=AX) NT rfl) (wv (r:=Ao 0) (Am rfl) (Aw (AO (ob h3 λhg hh hf=>BH (S:=Nat×(Int)×(Unit)) (V:=(Unit)×(Unit)) 0 (λσ=>Cs (λσ=>D3 F l σ) σ.1 σ.2.1=some hg) (λσ=>[(0,Bz 7 (AG AX l)),(2,rB false),(8,Ao (l.length:Int)),(9,Ao σ.2.1)]) (λσ=>[]) (λσ=>σ.1) (F,0,()) hh (AD.c rfl (AD.c rfl (AD.c rfl (AD.c rfl AD.nil)))) sN (λσ=>Ip =some r) (λσ=>[(2,rB false)]) (λσ=>[]) ?_ ?_)))))))))
  ·rintro⟨h1,ha,⟨⟩⟩ hi;refine Cn (l':=[(0,Bz 7 (AG AX l)),(2,rB false),(8,Ao (l.length:Int)),(9,Ao ha)]) (H':=[]) rfl rfl ?_;obtain⟨hj,rfl,t46,hb,he⟩:=DY hi;replace hb:D3 F l ha=some t46:=hb;unfold D3 at hb;refine Aj (wv (E1 rfl rfl) (Aw (Ap (cz hb rfl (λhk hl=>?_) (λhk hm=>?_)))))
   ·refine A3 (AS (Ap (AO (Aj (wm rfl (wa rfl (B5 (wm rfl (wm rfl (ck hl λhn ho=>wv (Cv (enc:=AX) (ys:=l) NT Pk rfl rfl hn) (wv (C8 Mk rfl Ci rfl rfl) (wv (CW EY Ci rfl rfl rfl) (ob ho λhp hq hr=>HX Tryz.call22 (Tf F ((Ar l ha).fTimer) hp hq) rfl (wv (BK rfl) (Aw (cz hr rfl (λhs ht=>?_) (λhs hu=>?_)))))))))))))))))
    ·refine Aj (wa rfl (Aw (A1 (A6 (Af (Af (Bj ?_)))))));have hw:=BB ht he hf;refine A6 (Af ?_);obtain rfl:=A2 hw;exact A0 (BX Tryz.results5 (AP rfl)) sN ⟨rfl,rfl⟩
    ·refine A3 (AK (AS (Ak (ck hu λhx hy=>wv (BQ rfl rfl hx) (wm rfl (An ?_))))));have hz:=BD hy he;exact Au (AF (hj,ha+1,()) ⟨hz,YI _⟩ (AD.c rfl (AD.c rfl (AD.c rfl (AD.c rfl AD.nil)))) sN)
   ·refine BJ (AB ?_);have h0:=CY hm he hf;exact AB (B4 (AF ((),()) h0 (AD.c rfl AD.nil) sN))
  ·rintro⟨⟨⟩,⟨⟩⟩ hd;refine Eh (l':=[(2,rB false)]) (H':=[]) rfl rfl ?_;replace hd:Ip =some r:=hd;unfold Ip at hd;refine Bt (AS (Aj (wa rfl (Aw (A1 ?_)))));obtain rfl:=A2 hd;exact A0 (BX Tryz.results5 (AP rfl)) sN ⟨rfl,rfl⟩
theorem QE (F:Nat)(hb:Nat)(ha:Nat)(q:A5)(o:AQ)(r:Int×A5)(h:MU F q o=some r):Fn Tryz.prog GE 12 [rP hb 0,Bm (AX o)] [.blk hb [rv (.map (some ha))] 54,.map ha (AY Al q.fTimers)] (λR H=>R=Ao r.1∧H=[.blk hb [rv (.map (some ha))] 54,.map ha (AY Al r.2.fTimers)]):=by
 refine enter (n:=30) Tryz.func12 rfl Tryz.ntmps12 rfl (λw Z=>?_);unfold MU at h;refine Aj (Cr rfl rfl (λb1=>?_));refine wa rfl (Aw (Ap (Aj (vF Mk rfl C2 (vL 0 De rfl (wv (BP rfl rfl) (Aw (cz h rfl (λc2 h3=>?_) (λc2 h7=>?_)))))))))
 ·refine Aj (wm rfl (vF Mk rfl Ci (wv (B2 (i:=0) EY Ci rfl rfl rfl rfl) (vF Mk rfl C2 (vL 0 De rfl (ob h3 λr4 e6 h5=>Du (Hr:=[.blk b1 (AX o) 33]) Rd (JV F hb ha q o.fTimer o.fNow r4 e6) rfl ((As (i:=1) rfl).trans (Yy _ ((As (i:=1) rfl).trans (Yy _ (Ys _))))) rfl ?_))))));rintro _ _ ⟨rfl,rfl⟩;refine wa rfl (Aw (A1 (Af ?_)));obtain rfl:=A2 h5;exact A0 (BX UI (AP rfl)) (sC (sC (sS sN))) ⟨rfl,rfl⟩
 ·refine A3 (AS (Ap (Aj (vF Mk rfl C2 (vL 0 De rfl (wv (BP rfl rfl) (Aw (cz h7 rfl (λc8 h9=>?_) (λc8 hd=>?_)))))))))
  ·refine Aj (wm rfl (vF Mk rfl Ci (vF CC rfl Df (vL 0 D8 rfl (ob h9 λhe hf hg=>Du (Hr:=[.blk b1 (AX o) 33]) Tryz.call24 (P0 hb ha q o.fTimer.fID he hf) rfl ((As (i:=1) rfl).trans (Yy _ ((As (i:=1) rfl).trans (Yy _ (Ys _))))) rfl ?_)))));rintro _ _ ⟨rfl,rfl⟩;refine wa rfl (Aw (A1 (Af ?_)));obtain rfl:=A2 hg;exact A0 (BX UI (AP rfl)) (sC (sC (sS sN))) ⟨rfl,rfl⟩
  ·refine A3 (AS (Ap (Aj (vF Mk rfl C2 (vL 0 De rfl (wv (BP rfl rfl) (Aw (cz hd rfl (λhh hi=>?_) (λhh hj=>?_)))))))))
   ·refine Aj (wm rfl (vF Mk rfl Ci (vF CC rfl Df (vL 0 D8 rfl (ob hi λhk hl hm=>Du (Hr:=[.blk b1 (AX o) 33]) Tryz.call25 (M8 hb ha q o.fTimer.fID hk hl) rfl ((As (i:=1) rfl).trans (Yy _ ((As (i:=1) rfl).trans (Yy _ (Ys _))))) rfl ?_)))));rintro _ _ ⟨rfl,rfl⟩;refine wa rfl (Aw (A1 (Af ?_)));obtain rfl:=A2 hm;exact A0 (BX UI (AP rfl)) (sC (sC (sS sN))) ⟨rfl,rfl⟩
   ·refine A3 (AS (Aj (wa rfl (Aw (A1 ?_)))));obtain rfl:=A2 hj;exact A0 (BX UI (AP rfl)) (sS (sC (sC sN))) ⟨rfl,rfl⟩
theorem RR (F:Nat)(l:(List AQ))(r:A5)(h:JE F l=some r):Fn Tryz.prog GE 18 [Bz 7 (AG AX l)] [] (λR H=>∃u0:Nat,∃u0_0:Nat,R=rP u0 0∧H=[.blk u0 [rv (.map (some u0_0))] 54,.map u0_0 (AY Al r.fTimers)]):=by
 refine enter (n:=36) Tryz.func18 rfl Tryz.ntmps18 rfl (λw Z=>?_);unfold JE at h;refine Aj (wa rfl (B5 (ob h λr1 e3 h2=>Du (Hr:=[]) Tryz.call7 (Pu r1 e3) rfl (Ys _) rfl ?_)));rintro _ _ ⟨b4,b5,rfl,rfl⟩;refine wa rfl (Aw (Ap (Aj (wa rfl (Aw (AO (ob h2 λhm hn ho=>BH (S:=Nat×(Int×(List (Ae×Ab)))×(Unit)) (V:=((List (Ae×Ab)))×(Unit)) 0 (λσ=>Cs (λσ=>DN F l σ.1 σ.2) σ.1 σ.2.1=some hm) (λσ=>[(0,Bz 7 (AG AX l)),(3,rP b4 0),(4,Ao σ.2.1.1)]) (λσ=>[.blk b4 [rv (.map (some b5))] 54,.map b5 (AY Al σ.2.1.2)]) (λσ=>σ.1) (F,(0,r1.fTimers),()) hn (AD.c rfl (AD.c rfl (AD.c rfl AD.nil))) (sC (sC sN)) (λσ=>Hi σ.1=some r) (λσ=>[(3,rP b4 0)]) (λσ=>[.blk b4 [rv (.map (some b5))] 54,.map b5 (AY Al σ.1)]) ?_ ?_)))))))
 ·rintro⟨hE,⟨ha,hb⟩,⟨⟩⟩ hp;refine Cn (l':=[(0,Bz 7 (AG AX l)),(3,rP b4 0),(4,Ao ha)]) (H':=[.blk b4 [rv (.map (some b5))] 54,.map b5 (AY Al hb)]) rfl rfl ?_;obtain⟨hi,rfl,hq,hd,hg⟩:=DY hp;replace hd:DN F l ha hb=some hq:=hd;unfold DN at hd;refine Ap (AH [(0,Bz 7 (AG AX l)),(3,rP b4 0),(4,Ao ha),(13,rB (decide (ha<(l.length:Int))))] [.blk b4 [rv (.map (some b5))] 54,.map b5 (AY Al hb)] ?_ ?_)
  ·refine Ak (wm rfl (wm rfl (wv (BO (ys:=l) (enc:=AX) NT rfl) (wv (E1 rfl rfl) (wm rfl (AR (decide (ha<(l.length:Int))) (λc85=>?_) (λc85=>?_)))))))
   ·refine wo c85 (wm rfl (wo c85 (wv (r:=rB true) (MJ ⟨_,S8⟩ rfl) (KR rfl c85 rfl (An ?_)))));exact Dg c85
   ·refine wf c85 (wf c85 (wv (r:=rB false) (AA rfl c85 rfl) (An ?_)));exact Dg c85
  refine cz hd rfl (λhr hs=>?_) (λhr ht=>?_)
  ·refine A3 (AS (Ap (AO (Ap (Aj (wm rfl (wm rfl (ck hs λhe hu=>wv (Cv (enc:=AX) (ys:=l) NT Pk rfl rfl he) (wv (C8 Mk rfl C2 rfl rfl) (wv (CF De rfl rfl) (wv (BP rfl rfl) (Aw (cz hu rfl (λhw hx=>?_) (λhw hy=>?_))))))))))))))
   ·refine Ak (wm rfl (wm rfl (wm rfl (wv (Cv (enc:=AX) (ys:=l) NT Pk rfl rfl he) (wv (C8 Mk rfl C2 rfl rfl) (wv (CF De rfl rfl) (ob hx λhh hz h0=>Du (Hr:=[]) Tryz.call10 (Pw F b4 b5 (A5.mk hb) ((Ar l ha).fNow) hh hz) rfl (Ys _) rfl ?_)))))));rintro _ _ ⟨h1,rfl,rfl⟩;refine Aw (Ak (wm rfl (wm rfl (wm rfl (wv (Cv (enc:=AX) (ys:=l) NT Pk rfl rfl he) (wv (CW Tryz.isAgg33 Pk rfl rfl rfl) (ob h0 λhj h3 h4=>Du (Hr:=[.row h1 31 5 (AG Ah hh.1)]) Tryz.call12 (QE F b4 b5 hh.2 (AQ.mk ((Ar l ha).fKind) ((Ar l ha).fNow) ((Ar l ha).fTimer)) hj h3) rfl ((As (i:=1) rfl).trans (Yy _ ((As (i:=1) rfl).trans (Yy _ (Ys _))))) rfl ?_)))))));rintro _ _ ⟨rfl,rfl⟩;refine An (AK (AS (Ak (wm rfl (ck h4 λh5 h6=>wv (BQ rfl rfl h5) (wa rfl (An ?_)))))));have h7:=BD h6 hg;exact Au (AF (hi,(ha+1,hj.2.fTimers),()) ⟨h7,YI _⟩ (AD.c rfl (AD.c rfl (AD.c rfl AD.nil))) (sC (sC (sS sN))))
   ·refine A3 (AS (Ak (wm rfl (wm rfl (wm rfl (wv (Cv (enc:=AX) (ys:=l) NT Pk rfl rfl he) (wv (CW Tryz.isAgg33 Pk rfl rfl rfl) (ob hy λhk h8 h9=>Du (Hr:=[]) Tryz.call12 (QE F b4 b5 (A5.mk hb) (AQ.mk ((Ar l ha).fKind) ((Ar l ha).fNow) ((Ar l ha).fTimer)) hk h8) rfl (Ys _) rfl ?_))))))));rintro _ _ ⟨rfl,rfl⟩;refine An (AK (AS (Ak (wm rfl (ck h9 λhA hB=>wv (BQ rfl rfl hA) (wa rfl (An ?_)))))));have hC:=BD hB hg;exact Au (AF (hi,(ha+1,hk.2.fTimers),()) ⟨hC,YI _⟩ (AD.c rfl (AD.c rfl (AD.c rfl AD.nil))) (sC (sC sN)))
  ·refine BJ (AB ?_);have hD:=CY ht hg ho;exact AB (B4 (AF (hb,()) hD (AD.c rfl AD.nil) (sC (sC sN))))
 ·rintro⟨hl,⟨⟩⟩ hf;refine Eh (l':=[(3,rP b4 0)]) (H':=[.blk b4 [rv (.map (some b5))] 54,.map b5 (AY Al hl)]) rfl rfl ?_;replace hf:Hi hl=some r:=hf;unfold Hi at hf;refine Bt (AS (Aj (wm rfl (wa rfl (Aw (A1 ?_))))));obtain rfl:=A2 hf;exact A0 (BX Tryz.results18 (AP rfl)) (sC (sC sN)) ⟨b4,b5,rfl,rfl⟩
end Go.Proofs.YtmmbdclkpijkpaaGreatDoor.Q
namespace Go.Proofs.YtmmbdclkpijkpaaGreatDoor
open Go
set_option linter.unusedVariables false
def EB (fields:(List Ae))(hb:(List Int))(ha:Int):Option (Stp ((List Int)×Int) (Out (Ae×Int) ((List Int)))):=
 Bw (decide (ha<(fields.length:Int))) (Bc (Dt ha (fields.length:Int))<|Bw (decide (4000<((Ar fields ha).length:Int))) (some (.out (.ret (([]:Ae),3)))) (Bc (Ea 1 (hb.length+([IntKind.wrap .u8 (IU .i64 ((Ar fields ha).length:Int) 8),IntKind.wrap .u8 ((Ar fields ha).length:Int)]:List Int).length))<|Bc (Ea 1 ((hb++([IntKind.wrap .u8 (IU .i64 ((Ar fields ha).length:Int) 8),IntKind.wrap .u8 ((Ar fields ha).length:Int)]:List Int)).length+(Ar fields ha).length))<|Bc (BT .i64 (ha+1))<|some (.next ((hb++([IntKind.wrap .u8 (IU .i64 ((Ar fields ha).length:Int) 8),IntKind.wrap .u8 ((Ar fields ha).length:Int)]:List Int))++CH (Ar fields ha),ha+1)))) (some (.out (.go hb)))
def JK (ha:(List Int)):Option (Ae×Int):=
 some (Ph ha,0)
def OR (F:Nat)(fields:(List Ae)):Option (Ae×Int):=
 Bw (decide (64<(fields.length:Int))) (some (([]:Ae),3)) (B0 (Cs (λσ=>EB fields σ.1 σ.2) F (([IntKind.wrap .u8 (fields.length:Int)]:List Int),0)) (BN λν=>JK ν))
def CN (ha:Int):Option ((List Ae)×Int):=
 some (([]:List Ae),ha)
def Cb (s:Ae)(ha:Ae)(hb:(List Ae))(hh:Int)(hd:Int):Option (Stp (Ae×(List Ae)×Int×Int) (Out ((List Ae)×Int) (Ae×(List Ae)))):=
 Bw (decide (hd<(Be s 0))) (Bw (decide ((ha.length:Int)<2)) (B0 (CN 14) λhe=>some (.out (.ret he))) (Bc (Dt 0 (ha.length:Int))<|Bc (BT .i64 (Be ha 0))<|Bc (Dt 1 (ha.length:Int))<|Bc (BT .i64 (Be ha 1))<|Bc (HJ 2 (ha.length:Int))<|Bw (decide (4000<(KA .i64 (Eu .i64 (Be ha 0) 8) (Be ha 1)))) (B0 (CN 13) λhf=>some (.out (.ret hf))) (Bw (decide (((List.drop (Int.toNat 2) ha).length:Int)<(KA .i64 (Eu .i64 (Be ha 0) 8) (Be ha 1)))) (B0 (CN 14) λhg=>some (.out (.ret hg))) (Bc (HJ (KA .i64 (Eu .i64 (Be ha 0) 8) (Be ha 1)) ((List.drop (Int.toNat 2) ha).length:Int))<|Bc (Ea 16 (hb.length+([List.take (Int.toNat (KA .i64 (Eu .i64 (Be ha 0) 8) (Be ha 1))) (List.drop (Int.toNat 2) ha)]:List Ae).length))<|Bc (BT .i64 (hd+1))<|some (.next (List.drop (Int.toNat (KA .i64 (Eu .i64 (Be ha 0) 8) (Be ha 1))) (List.drop (Int.toNat 2) ha),hb++([List.take (Int.toNat (KA .i64 (Eu .i64 (Be ha 0) 8) (Be ha 1))) (List.drop (Int.toNat 2) ha)]:List Ae),KA .i64 (Eu .i64 (Be ha 0) 8) (Be ha 1),hd+1)))))) (some (.out (.go (ha,hb))))
def DP (hb:Ae)(ha:(List Ae)):Option ((List Ae)×Int):=
 Bw (!decide (hb=([]:Ae))) (CN 13) (Bc (HJ (ha.length:Int) (ha.length:Int))<|some (List.take (Int.toNat (ha.length:Int)) ha,0))
def JJ (F:Nat)(s:Ae):Option ((List Ae)×Int):=
 Bw (decide (s=([]:Ae))) (CN 14) (Bc (Dt 0 (s.length:Int))<|Bc (BT .i64 (Be s 0))<|Bc (HJ 1 (s.length:Int))<|Bw (decide (64<(Be s 0))) (CN 13) (B0 (Cs (λσ=>Cb s σ.1 σ.2.1 σ.2.2.1 σ.2.2.2) F (List.drop (Int.toNat 1) s,([]:List Ae),0,0)) (BN λν=>DP ν.1 ν.2)))
end Go.Proofs.YtmmbdclkpijkpaaGreatDoor
namespace Go.Proofs.YtmmbdclkpijkpaaGreatDoor.Q
open Go Go.RowKit
set_option linter.unusedVariables false
set_option linter.unusedSimpArgs false
section
variable {P : Program} {n : Nat} {c : Cx} {l : Fr} {H : List Ent} {d : Option Nat} {x y : Operand} {t t' ty : TypeId} {pos : String} {af : Array Edge} {g : Option (Nat × Bool)} {k k' : IntKind} {p q : Int}
theorem XP (hx:ev l x=some (rI k p))(hy:ev l y=some (rI k q)):AZ P n c l H { dst:=d,op:=.binOp .or t x y t',type:=ty,pos:=pos,after:=af,guard:=g } (rI k (KA k p q)):=λa w Z ha _=>C3<|by
 simp[execOp,ha.eval hx,ha.eval hy,Bl,binOp,Op.intBits,KA]
theorem Xj (hx:ev l x=some (rI k p))(hy:ev l y=some (rI k' q))(h0:decide (0≤q)=true):AZ P n c l H { dst:=d,op:=.binOp .shl t x y t',type:=ty,pos:=pos,after:=af,guard:=g } (rI k (Eu k p q)):=λa w Z ha _=>C3<|by
 have h1 : ¬ q<0:=by have:=YG h0;omega
 simp[execOp,ha.eval hx,ha.eval hy,Bl,binOp,Op.shift,Eu,h1]
theorem Xi (hx:ev l x=some (rI k p))(hy:ev l y=some (rI k' q))(h0:decide (0≤q)=true):AZ P n c l H { dst:=d,op:=.binOp .shr t x y t',type:=ty,pos:=pos,after:=af,guard:=g } (rI k (IU k p q)):=λa w Z ha _=>C3<|by
 have h1 : ¬ q<0:=by have:=YG h0;omega
 simp[execOp,ha.eval hx,ha.eval hy,Bl,binOp,Op.shift,IU,h1]
end
section
variable {P : Program} {n : Nat} {c : Cx} {ops : Array Oper} {Q : Exit → Act → World → Prop} {rest : List Oper} {l : Fr} {H H' : List Ent} {d : Nat} {d' : Option Nat} {x y : Operand} {t ty e : TypeId} {pos : String} {af : Array Edge} {g : Option (Nat × Bool)} {k : IntKind} {b i len : Nat} {j : Int}
end
end Go.Proofs.YtmmbdclkpijkpaaGreatDoor.Q
