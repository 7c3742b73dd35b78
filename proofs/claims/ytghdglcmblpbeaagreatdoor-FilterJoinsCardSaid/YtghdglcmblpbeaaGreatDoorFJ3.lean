/-
  Texts of the proof, put together: QU, QT, WVg, PVh, QN, WVh, PFa, QW, PM, QM, QV, PH, QJ, QX, QL, WFa, PI, PFb, QF, GrowL, QGr.
-/
import Derived.Test.YtghdglcmblpbeaaGreatDoorFJ2
import Derived.Laws.Cover3
import Derived.MapKept
import Derived.Maps.RangeRun
import GoSem.Op.IntBits
import GoSem.Op.Shift
import Derived.ScopeJumps
import Derived.Laws.CopyRow
import Derived.Laws.IdiomCopy
import Derived.Laws.OwnMore
import Derived.Shelf.Spec.SlicesGrow
import Derived.Test.YtghdglcmblpbeaaGreatDoorProg
namespace Go.Proofs.YtghdglcmblpbeaaGreatDoor.Q
open Go Go.RowKit
set_option linter.unusedVariables false
set_option linter.unusedSimpArgs false
def Or (ops:List Oper)(N:Nat):Bool:=
 let cl:=Lm ops []
 (List.range ops.length).all (λi=>(DQ (ops.getD i default)).all (·<i))&&
 (List.range ops.length).all (λi=>i<N||(List.range i).all (λj=>(cl.getD i 0).testBit j))
section
variable {P : Program} {Q : Exit → Act → World → Prop}
theorem NB {listed:Array Bool}{len m:Nat}(hs:listed.size=len)(hm:m≤len)(h:∀j,j<len→(listed.getD j true=true↔j<m)):listed.toList.count false=len-m:=by
 have:listed.toList=List.replicate m true++List.replicate (len-m) false:=by
  apply List.ext_getElem
  ·simp[hs];omega
  ·intro j h1 h2;have hj:j<len:=by simpa[hs] using h1
   have:=h j hj;rw[Array.getD_eq_getD_getElem?,Array.getElem?_eq_getElem (by omega)] at this;simp only[VD] at this;rw[Array.getElem_toList,List.getElem_append]
   split
   ·rename_i h3
    simp at h3;simp[this.2 h3]
   ·rename_i h3
    simp at h3;simp only[List.getElem_replicate]
    cases hb:listed[j] with
    | false=>rfl
    | true=>have:=this.1 hb;omega
 rw[this];simp[List.count_append,List.count_replicate]
theorem OO {listed:Array Bool}{j:Nat}(h:j<listed.size)(d d':Bool):listed.getD j d=listed.getD j d':=by
 simp[Array.getD_eq_getD_getElem?,Array.getElem?_eq_getElem h]
theorem Lp {ops:List Oper}{listed:Array Bool}{i:Nat}{o:Oper}(ho:ops[i]? =some o)(hb:∀e∈DQ o,listed.getD e true=true)
  (hcl:∀j o,ops[j]? =some o→listed.getD j true=true→∀e∈DQ o,listed.getD e true=true) (j:Nat) (h:((Lm ops []).getD i 0).testBit j=true):j=i∨listed.getD j true=true:=
 Gy ops (λk=>k=i∨listed.getD k true=true) ops [] (λt o' ht e he hF=>by
  rcases hF with hF | hF
  ·simp at hF;subst hF;rw[ho] at ht;simp at ht;subst ht;exact .inr (hb e he)
  ·exact .inr (hcl t o' ht (by simpa using hF) e he)) (λj i hb=>by simp at hb) i j h (.inl rfl)
theorem If {ops:List Oper}{listed:Array Bool}{i:Nat}(hsz:listed.size=ops.length)(hlt:∀i,i<ops.length→∀e∈DQ (ops.getD i default),e<i)(h:i∈Region.ready .any ops.toArray listed) :
  listed.getD i true=false∧i<ops.length∧∃o,ops[i]? =some o∧∀e∈DQ o,listed.getD e true=true:=by
 obtain⟨h1,o,ho,h2⟩:=mem_ready.1 h;have ho':ops[i]? =some o:=by simpa using ho
 have hil:=(List.getElem?_eq_some_iff.1 ho').1;refine⟨h1,hil,o,ho',λe he=>?_⟩;have hei:=hlt i hil e (by rw[Vx,ho'];exact he);simp only[DQ,List.mem_map,List.mem_filter] at he;obtain⟨x,⟨hx1,hx2⟩,rfl⟩:=he;have h3:=h2 x (by simpa using hx1) hx2;rw[OO (by omega) true false];exact h3
theorem HY {ops:List Oper}{listed:Array Bool}(hsz:listed.size=ops.length)(hlt:∀i,i<ops.length→∀e∈DQ (ops.getD i default),e<i)(h:Region.ready .any ops.toArray listed=[]) :
  ∀j,j<ops.length→listed.getD j true=true:=by
 intro j
 induction j using Nat.strongRecOn with
 | ind j ih=>
  intro hj
  cases hb:listed.getD j true with
  | true=>rfl
  | false=>
   have:j∈Region.ready .any ops.toArray listed:=mem_ready.2 ⟨hb,ops[j],by simp[hj],λe he hbn=>by
    have hel:e.on<j:=hlt j hj e.on (by
     rw[Vx,Vw hj];simp only[DQ,VD,List.mem_map,List.mem_filter];exact⟨e,⟨by simpa using he,hbn⟩,rfl⟩)
    rw[OO (by omega) false true];exact ih e.on hel (by omega)⟩
   rw[h] at this;cases this
theorem Kg {listed:Array Bool}{i j:Nat}(hi:i<listed.size):(listed.setIfInBounds i true).getD j true=true↔(j=i∨listed.getD j true=true):=by
 by_cases hj:i=j
 ·subst hj;simp[hi]
 ·rw[getD_set_ne true hj];exact⟨.inr,λh=>h.elim (λh=>absurd h.symm hj) id⟩
theorem Pv {listed:Array Bool}{i fuel:Nat}(hi:i<listed.size)(hun:listed.getD i true=false)(hc:listed.toList.count false=fuel+1):(listed.setIfInBounds i true).toList.count false=fuel:=by
 have hfi:listed.toList[i]? =some false:=by
  rw[Array.getD_eq_getD_getElem?,Array.getElem?_eq_getElem hi] at hun;simp at hun;simp[hi,hun]
 rw[Array.toList_setIfInBounds];have h1:=List.count_set (a:=true) (b:=false) (l:=listed.toList) (i:=i) (by simpa using hi);have h2:listed.toList[i]'(by simpa using hi)=false:=by
  have:=List.getElem?_eq_some_iff.1 hfi;exact this.2
 rw[h1,h2,hc];rfl
theorem JE {ops:List Oper}{N:Nat}(hlt:∀i,i<ops.length→∀e∈DQ (ops.getD i default),e<i)
  (hch:∀i,N≤i→i<ops.length→∀j,j<i→((Lm ops []).getD i 0).testBit j=true):∀(k m:Nat) (listed:Array Bool) (a:Act) (w:World),m+k=ops.length→N≤m→listed.size=ops.length→
   (∀j,j<ops.length→(listed.getD j true=true↔j<m))→(∀j o,ops[j]? =some o→listed.getD j true=true→∀e∈DQ o,listed.getD e true=true)→wpList P ops.toArray Q (ops.drop m) a w→wpAny P .any ops.toArray Q k listed a w
 | 0,m,listed,a,w,hk,hN,hsz,hl,hcl,h=>by
  refine⟨?_,?_⟩
  ·cases hr:Region.ready .any ops.toArray listed with
   | nil=>rfl
   | cons i r=>
    obtain⟨h1,h2,_⟩:=If hsz hlt (i:=i) (by rw[hr];simp);rw[(hl i h2).2 (by omega)] at h1;cases h1
  ·rw[List.drop_of_length_le (by omega)] at h;exact h
 | k+1,m,listed,a,w,hk,hN,hsz,hl,hcl,h=>by
  refine⟨λhr=>?_,λi hi=>?_⟩
  ·have:=(hl m (by omega)).1 (HY hsz hlt hr m (by omega));omega
  ·obtain⟨h1,h2,o,ho,hb⟩:=If hsz hlt hi;have him:i=m:=by
    have hmi : ¬ i<m:=λh'=>by rw[(hl i h2).2 h'] at h1;cases h1
    by_cases e:i=m
    ·exact e
    ·rcases Lp ho hb hcl m (hch i (by omega) h2 m (by omega)) with h3 | h3
     ·exact h3.symm
     ·have:=(hl m (by omega)).1 h3;omega
   subst him;have hd:ops.drop i=o::ops.drop (i+1):=by
    rw[List.drop_eq_getElem_cons h2]
    congr 1
    exact(List.getElem?_eq_some_iff.1 ho).2
   rw[hd] at h;have ih:∀a' w',wpList P ops.toArray Q (ops.drop (i+1)) a' w'→wpAny P .any ops.toArray Q k (listed.setIfInBounds i true) a' w':=λa' w' h'=>by
    refine JE hlt hch k (i+1) _ a' w' (by omega) (by omega) (by simpa using hsz) (λj hj=>?_) (λj o' hj hlj e he=>?_) h'
    ·rw[Kg (by omega),hl j hj];omega
    ·rw[Kg (by omega)] at hlj ⊢;rcases hlj with rfl | hlj
     ·rw[ho] at hj;simp at hj;subst hj;exact .inr (hb e he)
     ·exact .inr (hcl j o' hj hlj e he)
   unfold wpOp;have hoA:ops.toArray[i]? =some o:=by simpa using ho
   simp only[hoA];simp only[wpList] at h
   split
   ·rename_i hw'
    rw[if_pos hw'] at h;exact h.imp (λh=>Oper.wp_mono ih h) (λh=>h)
   ·rename_i hw'
    rw[Wa hw'] at h;exact ih _ _ h
theorem Td {id:Nat}{ops:List Oper}{N:Nat}(hm:P.follows .mixedOrders=true)(hB:Or ops N=true)(hN:N≤ops.length)(I:(Nat→Bool)→Act→World→Prop)
  (hext:∀S S' a w,(∀j,j<N→S j=S' j)→I S a w→I S' a w) {a:Act} {w:World} (h0:I (λ_=>false) a { w with drawn:=w.drawn+1 })
  (step:∀S i o a w,i<N→S i=false→ops[i]? =some o→(∀e∈DQ o,e<i∧S e=true)→I S a w→∀K:Act→World→Prop,(∀a' w',I (λj=>j ==i||S j) a' w'→K a' w')→
   (Region.wanted o (yielded ops.toArray a.tmps)=true→o.wp P a w K Q)∧(Region.wanted o (yielded ops.toArray a.tmps)=false→K (a.put o.dst undef) w))
  (fin:∀a w,I (λ_=>true) a w→wpList P ops.toArray Q (ops.drop N) a w):(Code.region id ops.toArray true).wp P Q a w:=by
 simp only[Or,Vs,VL,List.mem_range,Vq,VV] at hB;obtain⟨hlt,hch0⟩:=hB;have hch:∀i,N≤i→i<ops.length→∀j,j<i→((Lm ops []).getD i 0).testBit j=true:=λi h1 h2 j hj=>by
  rcases hch0 i h2 with h3 | h3
  ·omega
  ·exact h3 j hj
 refine wp_region_any hm ?_;have main:∀(fuel:Nat) (listed:Array Bool) (a:Act) (w:World),listed.size=ops.length→listed.toList.count false=fuel→I (λj=>listed.getD j true) a w→
   (∀j o,ops[j]? =some o→listed.getD j true=true→∀e∈DQ o,listed.getD e true=true)→(∀j,N≤j→j<ops.length→listed.getD j true=false)→wpAny P .any ops.toArray Q fuel listed a w:=by
  intro fuel;have allin:∀(fuel:Nat) (listed:Array Bool) (a:Act) (w:World),listed.size=ops.length→listed.toList.count false=fuel→I (λj=>listed.getD j true) a w→
   (∀j o,ops[j]? =some o→listed.getD j true=true→∀e∈DQ o,listed.getD e true=true)→(∀j,N≤j→j<ops.length→listed.getD j true=false)→(∀j,j<N→listed.getD j true=true)→wpAny P .any ops.toArray Q fuel listed a w:=by
   intro fuel listed a w hsz hc hI hcl hlast hall;have hl:∀j,j<ops.length→(listed.getD j true=true↔j<N):=λj hj=>by
    constructor
    ·intro h
     by_cases hjN:j<N
     ·exact hjN
     ·rw[hlast j (by omega) hj] at h;cases h
    ·exact hall j
   have:=NB hsz hN hl;refine JE hlt hch fuel N listed a w (by omega) (V8 _) hsz hl hcl (fin a w (hext _ _ a w (λj hj=>hall j hj) hI))
  induction fuel with
  | zero=>
   intro listed a w hsz hc hI hcl hlast;refine allin 0 listed a w hsz hc hI hcl hlast (λj hj=>?_)
   cases hb:listed.getD j true with
   | true=>rfl
   | false=>
    have:false∈listed.toList:=by
     rw[Array.getD_eq_getD_getElem?,Array.getElem?_eq_getElem (by omega)] at hb;simp at hb;rw[← hb];simp
    have:=List.count_pos_iff.2 this;omega
  | succ fuel ih=>
   intro listed a w hsz hc hI hcl hlast
   by_cases hall:∀j,j<N→listed.getD j true=true
   ·exact allin (fuel+1) listed a w hsz hc hI hcl hlast hall
   ·refine⟨λhr=>absurd (λj hj=>HY hsz hlt hr j (by omega)) hall,λi hi=>?_⟩;obtain⟨h1,h2,o,ho,hb⟩:=If hsz hlt hi;have hiN:i<N:=by
     by_cases h:i<N
     ·exact h
     ·refine absurd (λj hj=>?_) hall;rcases Lp ho hb hcl j (hch i (by omega) h2 j (by omega)) with h3 | h3
      ·omega
      ·exact h3
    have K':∀a' w',I (λj=>j ==i||listed.getD j true) a' w'→wpAny P .any ops.toArray Q fuel (listed.setIfInBounds i true) a' w':=λa' w' hI'=>by
     refine ih _ a' w' (by simpa using hsz) (Pv (by omega) h1 hc) (hext _ _ a' w' (λj hj=>?_) hI') (λj o' hj hlj e he=>?_) (λj h3 h4=>?_)
     ·have:=Kg (listed:=listed) (i:=i) (j:=j) (by omega)
      cases hq:(listed.setIfInBounds i true).getD j true with
      | true=>
       rw[hq] at this;rcases this.1 rfl with h | h
       ·simp[h]
       ·simp[h]
      | false=>
       rw[hq] at this;have h5 : ¬ (j=i∨listed.getD j true=true):=λh=>by have:=this.2 h;cases this
       cases hz:listed.getD j true with
       | true=>exact absurd (.inr hz) h5
       | false=>
        have:j≠i:=λh=>h5 (.inl h);simp[this]
     ·rw[Kg (by omega)] at hlj ⊢;rcases hlj with rfl | hlj
      ·rw[ho] at hj;simp at hj;subst hj;exact .inr (hb e he)
      ·exact .inr (hcl j o' hj hlj e he)
     ·rw[getD_set_ne true (by omega)];exact hlast j h3 h4
    obtain⟨k1,k2⟩:=step _ i o a w hiN h1 ho (λe he=>⟨hlt i h2 e (by rw[Vx,ho];exact he),hb e he⟩) hI _ K';unfold wpOp;have hoA:ops.toArray[i]? =some o:=by simpa using ho
    simp only[hoA]
    split
    ·rename_i hw';exact .inl (k1 hw')
    ·rename_i hw';exact k2 (by simpa using hw')
 have e0:∀j,j<ops.length→(Array.replicate ops.length false).getD j true=false:=λj hj=>by simp[hj]
 have hsz0:ops.toArray.size=ops.length:=by simp
 rw[hsz0];refine main ops.length (Array.replicate ops.length false) a _ (by simp) (by simp) (hext _ _ _ _ (λj hj=>(e0 j (by omega)).symm) h0) (λj o hj hl=>?_) (λj _ h2=>e0 j h2);rw[e0 j (List.getElem?_eq_some_iff.1 hj).1] at hl;cases hl
end
structure Sa where
 deps:List Nat
 r:Rp
 al:Option (List Rp×TypeId):=none
 late:Option (Nat×List Rp):=none
 sto:Option Nat:=none
def Er (sp:List Sa)(i:Nat):Sa:=sp.getD i { deps:=[],r:=rv undef }
def Sb (sp:List Sa):List Sp:=sp.map λs=>⟨s.deps,s.r,0⟩
def Jh (β:Nat→Nat)(s:Sa)(i:Nat):Rp:=match s.al with
 | none=>s.r
 | some _=>rv (.pointer (some ⟨β i,0,none⟩))
def Jz (S:Nat→Bool)(late:Option (Nat×List Rp))(cs:List Rp):List Rp:=match late with
 | none=>cs
 | some q=>if S q.1 then q.2 else cs
def En (S:Nat→Bool)(β:Nat→Nat):List Sa→Nat→List Ent
 | [],_=>[]
 | s::r,t=>match s.al with
  | some p=>if S t then .blk (β t) (Jz S s.late p.1) p.2::En S β r (t+1) else En S β r (t+1)
  | none=>En S β r (t+1)
def PO (β:Nat→Nat):List Sa→Nat→List Ent
 | [],_=>[]
 | s::r,t=>match s.al with
  | some p=>.blk (β t) (match s.late with | none=>p.1 | some q=>q.2) p.2::PO β r (t+1)
  | none=>PO β r (t+1)
def Ls (β:Nat→Nat):List Oper→List Sa→Nat→Fr→Fr
 | o::os,s::sp,i,l=>match o.dst with
  | some d=>(d,Jh β s i)::Ls β os sp (i+1) l
  | none=>Ls β os sp (i+1) l
 | _,_,_,l=>l
theorem Ik {S S':Nat→Bool}{late:Option (Nat×List Rp)}{cs:List Rp}(h:∀q,late=some q→S q.1=S' q.1):Jz S late cs=Jz S' late cs:=by
 unfold Jz
 cases late with
 | none=>rfl
 | some q=>simp only[];rw[h q rfl]
theorem D8 (S:Nat→Bool)(β:Nat→Nat)(s:Sa)(r:List Sa)(t:Nat):En S β (s::r) t=match s.al with
  | some p=>if S t then .blk (β t) (Jz S s.late p.1) p.2::En S β r (t+1) else En S β r (t+1)
  | none=>En S β r (t+1):=rfl
theorem E6 {S S':Nat→Bool}{β β':Nat→Nat}:∀(r:List Sa) (t0:Nat),(∀(t:Nat) (s:Sa),r[t]? =some s→s.al≠none→S (t0+t)=S' (t0+t)∧(S (t0+t)=true→β (t0+t)=β' (t0+t)∧∀q,s.late=some q→S q.1=S' q.1))→En S β r t0=En S' β' r t0
 | [],_,_=>rfl
 | s::r,t0,h=>by
  have ih:=E6 r (t0+1) (λt s hs hn=>by
   have:=h (t+1) s (by simpa using hs) hn;rw[show t0+1+t=t0+(t+1) from by omega];exact this)
  unfold En;rw[ih]
  cases ha:s.al with
  | none=>rfl
  | some p=>
   obtain⟨h1,h2⟩:=h 0 s rfl (by rw[ha];exact nofun);simp only[Nat.add_zero] at h1 h2;simp only[];rw[← h1]
   split
   ·rename_i hS;rw[(h2 hS).1,Ik (h2 hS).2]
   ·rfl
theorem NA (β:Nat→Nat):∀(r:List Sa) (t0:Nat),En (λ_=>true) β r t0=PO β r t0
 | [],_=>rfl
 | s::r,t0=>by
  unfold En PO;rw[NA β r (t0+1)]
  cases s.al with
  | none=>rfl
  | some p=>cases hl:s.late<;>simp[Jz,hl]
theorem LR (β:Nat→Nat):∀(r:List Sa) (t0:Nat),En (λ_=>false) β r t0=[]
 | [],_=>rfl
 | s::r,t0=>by
  unfold En;rw[LR β r (t0+1)]
  cases s.al<;>simp
theorem N9 {S:Nat→Bool}{β:Nat→Nat}{i b:Nat}{p:List Rp×TypeId}:∀(r:List Sa) (t0 k:Nat) (s:Sa),i=t0+k→r[k]? =some s→s.al=some p→S i=false→(∀(t:Nat) (s:Sa) (q:Nat×List Rp),r[t]? =some s→s.al≠none→s.late=some q→q.1≠i)→(∀q,s.late=some q→S q.1=false∧q.1≠i)→
  (En (λj=>j ==i||S j) (λj=>if j=i then b else β j) r t0).Perm (.blk b p.1 p.2::En S β r t0)
 | [],_,_,_,_,h,_,_,_,_=>by simp at h
 | s'::r,t0,0,s,hi,h,ha,hS,hne,hl=>by
  simp at h hi;subst h;subst hi;have e:=E6 (S:=λj=>j ==i||S j) (S':=S) (β:=λj=>if j=i then b else β j) (β':=β) r (i+1) (λt s hs hn=>by
   have:i+1+t≠i:=by omega
   refine⟨by simp[this],λ_=>⟨by simp[this],λq hq=>?_⟩⟩;have:=hne (t+1) s q (by simpa using hs) hn hq;simp[this])
  have ec:Jz (λj=>j ==i||S j) s'.late p.1=p.1:=by
   unfold Jz
   cases hq:s'.late with
   | none=>rfl
   | some q=>
    obtain⟨h1,h2⟩:=hl q hq;simp[h1,h2]
  unfold En;rw[e,ha];simp only[hS,BEq.rfl,VE,if_true,ec];simp
 | s'::r,t0,k+1,s,hi,h,ha,hS,hne,hl=>by
  have ih:=N9 (S:=S) (β:=β) (i:=i) (b:=b) (p:=p) r (t0+1) k s (by omega) (by simpa using h) ha hS (λt s q hs=>hne (t+1) s q (by simpa using hs)) hl;have hne0:t0≠i:=by omega
  have hne':(t0 ==i)=false:=by simpa using hne0
  unfold En
  cases ha':s'.al with
  | none=>exact ih
  | some q=>
   simp only[hne',V6,Wa hne0];rw[Ik (S:=λj=>j ==i||S j) (S':=S) (λq hq=>by
    have:=hne 0 s' q rfl (by rw[ha'];exact nofun) hq;simp[this])]
   cases hS':S t0 with
   | true=>simpa using(Vp _ ih).trans (List.Perm.swap _ _ _)
   | false=>simpa using ih
theorem N8 {S:Nat→Bool}{β:Nat→Nat}{i j:Nat}{p:List Rp×TypeId}{ncs:List Rp}:∀(r:List Sa) (t0 k:Nat) (s:Sa),j=t0+k→r[k]? =some s→s.al=some p→s.late=some (i,ncs)→S j=true→S i=false→(∀(t:Nat) (s:Sa) (q:Nat×List Rp),r[t]? =some s→s.al≠none→s.late=some q→t0+t≠j→q.1≠i)→(∀(t:Nat) (s:Sa),r[t]? =some s→s.al≠none→t0+t≠i)→
  ∃H',(En S β r t0).Perm (.blk (β j) p.1 p.2::H')∧(En (λj=>j ==i||S j) β r t0).Perm (.blk (β j) ncs p.2::H')
 | [],_,_,_,_,h,_,_,_,_,_,_=>by simp at h
 | s'::r,t0,0,s,hj,h,ha,hl,hSj,hSi,hne,hni=>by
  simp at h hj;subst h;subst hj;have e:=E6 (S:=λx=>x ==i||S x) (S':=S) (β:=β) (β':=β) r (j+1) (λt s hs hn=>by
   have h1:=hni (t+1) s (by simpa using hs) hn;have h1':j+1+t≠i:=by omega
   refine⟨by simp[h1'],λ_=>⟨rfl,λq hq=>?_⟩⟩;have:=hne (t+1) s q (by simpa using hs) hn hq (by omega);simp[this])
  refine⟨En S β r (j+1),?_,?_⟩
  ·rw[D8];rw[ha];simp[hSj,Jz,hl,hSi]
  ·rw[D8];rw[ha,e];simp[hSj,Jz,hl]
 | s'::r,t0,k+1,s,hj,h,ha,hl,hSj,hSi,hne,hni=>by
  obtain⟨H',h1,h2⟩:=N8 (S:=S) (β:=β) (i:=i) (j:=j) (p:=p) (ncs:=ncs) r (t0+1) k s (by omega) (by simpa using h) ha hl hSj hSi (λt s q hs hn hq hx=>hne (t+1) s q (by simpa using hs) hn hq (by omega)) (λt s hs hn=>by
   have:=hni (t+1) s (by simpa using hs) hn;omega)
  cases ha':s'.al with
  | none=>exact⟨H',by rw[D8,ha'];exact h1,by rw[D8,ha'];exact h2⟩
  | some q=>
   have hi0:=hni 0 s' rfl (by rw[ha'];exact nofun);have hi0':(t0 ==i)=false:=by simpa using hi0
   have ec:Jz (λx=>x ==i||S x) s'.late q.1=Jz S s'.late q.1:=Ik (λq hq=>by
    have:=hne 0 s' q rfl (by rw[ha'];exact nofun) hq (by omega);simp[this])
   cases hS':S t0 with
   | true=>
    refine⟨.blk (β t0) (Jz S s'.late q.1) q.2::H',?_,?_⟩
    ·rw[D8];rw[ha'];simpa[hS'] using(Vp _ h1).trans (List.Perm.swap _ _ _)
    ·rw[D8];rw[ha'];simp only[hi0',V6,hS',if_true,ec];exact(Vp _ h2).trans (List.Perm.swap _ _ _)
   | false=>
    refine⟨H',?_,?_⟩
    ·rw[D8];rw[ha'];simpa[hS'] using h1
    ·rw[D8];rw[ha'];simp only[hi0',V6,hS'];simpa using h2
def Va (n:Nat)(ops:List Oper)(N:Nat)(keys:List Nat)(deps:List (List Nat))(als:List Bool)(lates stos:List (Option Nat)):Bool:=
 Or ops N&&decide (N≤ops.length)&&
 (List.range N).all (λi=>match Di ops i with
  | some d=>decide (d<n)&&!keys.contains d&&(List.range N).all (λj=>j ==i||Di ops j !=some d)
  | none=>true)&&
 (List.range N).all (λi=>(deps.getD i []).all (λj=>decide (j<N)&&(DQ (ops.getD i default)).contains j&&!als.getD j true))&&
 (List.range N).all (λi=>match stos.getD i none with
  | some j=>decide (j<N)&&(DQ (ops.getD i default)).contains j&&als.getD j false&&!als.getD i true
  | none=>true)&&
 (List.range N).all (λj=>match lates.getD j none with
  | some k=>decide (k<N)&&als.getD j false&&stos.getD k none ==some j
  | none=>true)
def Vg (P:Program)(n:Nat)(c:Cx)(opsA:Array Oper)(Q:Exit→Act→World→Prop)(o:Oper)(p:List Rp×TypeId):Prop:=
 ∀H a w Z (K:Act→World→Prop),St c H Z w→(∀b w',St c (.blk b p.1 p.2::H) Z w'→K (a.put o.dst (.pointer (some ⟨b,0,none⟩))) w')→
  Region.wanted o (yielded opsA a.tmps)=true∧o.wp P a w K Q
def Uo (P:Program)(n:Nat)(c:Cx)(opsA:Array Oper)(Q:Exit→Act→World→Prop)(ops:List Oper)(sp:List Sa)(l0:Fr)(H:List Ent)(i:Nat)(o:Oper):Prop:=
 match (Er sp i).sto with
 | some j=>o.dst=none∧∃d p ncs,Di ops j=some d∧(Er sp j).al=some p∧(Er sp j).late=some (i,ncs)∧
   ∀b H,DF P n c opsA Q ((d,rv (.pointer (some ⟨b,0,none⟩)))::BP ops (Sb sp) (Er sp i).deps l0) (.blk b p.1 p.2::H) o (rv undef) (.blk b ncs p.2::H)
 | none=>match (Er sp i).al with
  | none=>∀E,DF P n c opsA Q (BP ops (Sb sp) (Er sp i).deps l0) (H++E) o (Er sp i).r (H++E)
  | some p=>Vg P n c opsA Q o p
def J5 (P:Program)(n:Nat)(c:Cx)(opsA:Array Oper)(Q:Exit→Act→World→Prop)(ops:List Oper)(sp:List Sa)(l0:Fr)(H:List Ent):Nat→List Oper→Prop
 | i,o::rest=>Uo P n c opsA Q ops sp l0 H i o∧J5 P n c opsA Q ops sp l0 H (i+1) rest
 | _,[]=>True
section
variable {P : Program} {n : Nat} {c : Cx} {opsA : Array Oper} {Q : Exit → Act → World → Prop} {l l0 : Fr} {H : List Ent} {sp : List Sa}
theorem J5.at {ops:List Oper}:∀{k:Nat} {rest:List Oper},J5 P n c opsA Q ops sp l0 H k rest→∀(t:Nat) o,rest[t]? =some o→Uo P n c opsA Q ops sp l0 H (k+t) o
 | k,o::rest,⟨h1,h2⟩,t,o',ht=>by
  cases t with
  | zero=>simp at ht;subst ht;exact h1
  | succ t=>
   have:=J5.at h2 t o' (by simpa using ht);rw[show k+(t+1)=k+1+t from by omega];exact this
 | _,[],_,t,o,h=>by simp at h
theorem OZ {β:Nat→Nat}{a:Act}{Z:Fz}(h0:C8 n l0 a Z):∀(os:List Oper) (ss:List Sa) (k:Nat),(∀(t:Nat) o s d,os[t]? =some o→ss[t]? =some s→o.dst=some d→∃v,a.tmps[d]? =some v∧(Jh β s (k+t)).p Z v)→C8 n (Ls β os ss k l0) a Z
 | [],_,_,_=>by unfold Ls;exact h0
 | _::_,[],_,_=>by unfold Ls;exact h0
 | o::os,s::ss,k,h=>by
  have ih:=OZ h0 os ss (k+1) (λt o' s' d h1 h2 h3=>by
   have:=h (t+1) o' s' d (by simpa using h1) (by simpa using h2) h3;rw[show k+1+t=k+(t+1) from by omega];exact this)
  unfold Ls
  cases hd:o.dst with
  | none=>exact ih
  | some d=>
   refine⟨ih.size,ih.defers,λi r hi=>?_⟩;rw[Cl] at hi
   split at hi
   ·rename_i e;subst e;simp at hi;subst hi;exact h 0 o s d rfl rfl hd
   ·exact ih.tm i r hi
theorem Tf {id:Nat}{ops:List Oper}(N:Nat)(sp:List Sa)(hm:P.follows .mixedOrders=true)(hB:Va n ops N (E4 l0) (sp.map (·.deps)) (sp.map (·.al.isSome)) (sp.map (·.late.map (·.1))) (sp.map (·.sto))=true)(hl0:SS l0 l)(hsp:sp.length=N)
  (hob:J5 P n c ops.toArray Q ops sp l0 H 0 (ops.take N)) (h:∀β,WL P n c ops.toArray Q (ops.drop N) (Ls β (ops.take N) sp 0 l0) (H++PO β sp 0)):WC P n c (.region id ops.toArray true) Q l H:=by
 intro a w Z ha hw;simp only[Va,Vs,VL,List.mem_range,Vq] at hB;obtain⟨⟨⟨⟨⟨b1,bN⟩,b2⟩,b3⟩,b4⟩,b5⟩:=hB;have hget:∀i,i<N→(ops.take N)[i]? =ops[i]?:=λi hi=>by rw[VN,if_pos hi]
 have hsa:∀i,i<N→sp[i]? =some (Er sp i):=λi hi=>by
  simp[Er,Vx,Vw (show i<sp.length by omega)]
 have hspq:∀i,i<N→(CY (Sb sp) i)=⟨(Er sp i).deps,(Er sp i).r,0⟩:=λi hi=>by
  simp[CY,Sb,Vx,VR,hsa i hi]
 have hals:∀j b,j<N→(sp.map (·.al.isSome)).getD j b=(Er sp j).al.isSome:=λj b hj=>by simp[Vx,VR,hsa j hj]
 have hstos:∀j,j<N→(sp.map (·.sto)).getD j none=(Er sp j).sto:=λj hj=>by simp[Vx,VR,hsa j hj]
 have hlates:∀j,j<N→(sp.map (·.late.map (·.1))).getD j none=(Er sp j).late.map (·.1):=λj hj=>by simp[Vx,VR,hsa j hj]
 have S1:∀i o j,i<N→ops[i]? =some o→(Er sp i).sto=some j→j<N∧j∈DQ o∧(Er sp j).al≠none∧(Er sp i).al=none:=λi o j hi ho hs=>by
  have h1:=b4 i hi;rw[hstos i hi,hs] at h1;simp only[Vs,V4,Vq] at h1;obtain⟨⟨⟨h2,h3⟩,h4⟩,h5⟩:=h1;rw[hals j _ h2] at h4;rw[hals i _ hi] at h5;rw[Vx,ho,VD,List.contains_iff_mem] at h3;exact⟨h2,h3,λe=>(by rw[e] at h4;cases h4),(by simpa using h5)⟩
 have L1:∀t q,t<N→(Er sp t).late=some q→q.1<N∧(Er sp q.1).sto=some t:=λt q ht hq=>by
  have h1:=b5 t ht;rw[hlates t ht,hq] at h1;simp only[Option.map_some,Vs,Vq,beq_iff_eq] at h1;obtain⟨⟨h2,h3⟩,h4⟩:=h1;rw[hstos _ h2] at h4;exact⟨h2,h4⟩
 have hops:∀j,j<N→∃o,ops[j]? =some o:=λj hj=>⟨ops[j]'(by omega),Vw (by omega)⟩
 have lt_of:∀(t:Nat) (s:Sa),sp[t]? =some s→t<N∧s=Er sp t:=λt s hs=>by
  have h1:t<N:=by have:=(List.getElem?_eq_some_iff.1 hs).1;omega
  refine⟨h1,?_⟩;rw[hsa t h1] at hs;simpa using hs.symm
 have hdst:∀i o d,i<N→ops[i]? =some o→o.dst=some d→(d<n∧d ∉ E4 l0)∧∀j,j<N→j≠i→Di ops j≠some d:=λi o d hi ho hd=>by
  have h3:=b2 i hi;have:Di ops i=some d:=by simp[Di,ho,hd]
  rw[this] at h3;simp only[Vs,V4,VL,List.mem_range,Vq] at h3;refine⟨⟨h3.1.1,λhmem=>by rw[← List.contains_iff_mem] at hmem;rw[hmem] at h3;cases h3.1.2⟩,λj hj hne he=>?_⟩;have:=h3.2 j hj;simp[hne,he] at this
 refine Td (N:=N) hm b1 bN (λS a w=>∃ (β:Nat→Nat) (Z:Fz),St c (H++En S β sp 0) Z w∧C8 n l0 a Z∧(∀j o d,j<N→S j=true→ops[j]? =some o→o.dst=some d→∃v,a.tmps[d]? =some v∧(Jh β (Er sp j) j).p Z v)∧
   ∀k j,k<N→(Er sp k).sto=some j→S k=true→S j=true)
  (λS S' a w hS hI=>?_) ⟨λ_=>0,Z,?_,ha.subL hl0,λj o d _ hS=>(by cases hS),λk j _ _ hS=>(by cases hS)⟩ (λS i o a w hi hun ho hb hI K hK=>?_) (λa w hI=>?_)
 ·obtain⟨β,Z,h1,h2,h3,h4⟩:=hI;refine⟨β,Z,?_,h2,λj o d hj hS'=>h3 j o d hj (by rw[hS j hj];exact hS'),λk j hk hs hSk=>?_⟩
  ·rw[← E6 (S:=S) (β:=β) (β':=β) sp 0 (λt s hs _=>by
    obtain⟨ht,rfl⟩:=lt_of t s hs;exact⟨hS _ (by omega),λ_=>⟨rfl,λq hq=>hS _ (L1 t q ht hq).1⟩⟩)]
   exact h1
  ·obtain⟨o,ho⟩:=hops k hk;rw[← hS j (S1 k o j hk ho hs).1];exact h4 k j hk hs (by rw[hS k hk];exact hSk)
 ·rw[LR,VY];exact hw.drawn _
 ·obtain⟨β,Z,h1,h2,h3,hx⟩:=hI;have hput:∀k u v,a.tmps[k]? =some u→o.dst≠some k→(a.put o.dst v).tmps[k]? =some u:=λk u v hk hne=>by
   cases hd:o.dst with
   | none=>simpa[Act.put] using hk
   | some d=>
    simp only[Act.put,Array.getElem?_setIfInBounds];rw[Wa (λe=>hne (by rw[hd,e]))];exact hk
  have hagr:∀v Z',Fz.le Z Z'→C8 n l0 (a.put o.dst v) Z':=λv Z' hz=>by
   refine⟨?_,?_,λk r hk=>?_⟩
   ·cases o.dst<;>simp[Act.put,h2.size]
   ·cases o.dst<;>simp[Act.put,h2.defers]
   ·obtain⟨u,hu,hpu⟩:=h2.tm k r hk;exact⟨u,hput k u v hu (λe=>((hdst i o k hi ho e).1).2 (KV hk)),r.mono hz hpu⟩
  have hvals:∀(v:Value) (Z':Fz) (β':Nat→Nat),Fz.le Z Z'→(∀j,j≠i→β' j=β j)→(o.dst≠none→(Jh β' (Er sp i) i).p Z' v)→∀j o' d,j<N→(j ==i||S j)=true→ops[j]? =some o'→o'.dst=some d→∃u,(a.put o.dst v).tmps[d]? =some u∧(Jh β' (Er sp j) j).p Z' u:=by
   intro v Z' β' hz hβ hp j o' d hj hS' ho' hd
   by_cases hji:j=i
   ·subst hji;rw[ho] at ho';simp at ho';subst ho';refine⟨v,?_,hp (by simp[hd])⟩;have hdn:d<a.tmps.size:=by rw[h2.size];exact(hdst j o d hi ho hd).1.1
    simp[Act.put,hd,hdn]
   ·have hSj:S j=true:=by simpa[hji] using hS'
    obtain⟨u,hu,hpu⟩:=h3 j o' d hj hSj ho' hd;refine⟨u,hput d u v hu (λe=>(hdst i o d hi ho e).2 j hj hji (by simp[Di,ho',hd])),?_⟩;have:Jh β' (Er sp j) j=Jh β (Er sp j) j:=by unfold Jh;rw[hβ j hji]
    rw[this];exact(Jh β (Er sp j) j).mono hz hpu
  have hx':∀k j,k<N→(Er sp k).sto=some j→(k ==i||S k)=true→(j ==i||S j)=true:=λk j hk hs hSk=>by
   by_cases hki:k=i
   ·subst hki;have:=(hb j (S1 k o j hk ho hs).2.1).2;simp[this]
   ·have:S j=true:=hx k j hk hs (by simpa[hki] using hSk);simp[this]
  have hat:=hob.at i o (by rw[hget i hi];exact ho);rw[VM] at hat;unfold Uo at hat;have hag':C8 n (BP ops (Sb sp) (Er sp i).deps l0) a Z:=Ks h2 (λj hj d hd=>by
    have h4:=b3 i hi j (by simpa[Vx,VR,hsa i hi] using hj);simp only[Vs,V4,Vq] at h4;obtain⟨⟨h5,h6⟩,h7⟩:=h4;rw[Vx,ho,VD,List.contains_iff_mem] at h6;have hjal:(Er sp j).al=none:=by
     rw[hals j _ h5] at h7;simpa using h7
    obtain⟨o2,ho2⟩:=hops j h5;obtain⟨v,hv1,hv2⟩:=h3 j o2 d h5 (hb j h6).2 ho2 (by simpa[Di,ho2] using hd);refine⟨v,hv1,?_⟩;rw[hspq j h5];simpa[Jh,hjal] using hv2)
  cases hst:(Er sp i).sto with
  | some j=>
   rw[hst] at hat;obtain⟨hod,d,p,ncs,hd,hal,hlate,hok⟩:=hat;obtain⟨hjN,hjb,_,hial⟩:=S1 i o j hi ho hst;have hSj:=(hb j hjb).2;obtain⟨H',p1,p2⟩:=N8 (S:=S) (β:=β) (i:=i) (j:=j) (p:=p) (ncs:=ncs) sp 0 j (Er sp j) (by omega) (hsa j hjN) hal hlate hSj hun (λt s q hs _ hq hne he=>by
     obtain⟨ht,rfl⟩:=lt_of t s hs;have:=(L1 t q ht hq).2;rw[he,hst] at this;simp at this;omega) (λt s hs hn he=>by
     obtain⟨ht,rfl⟩:=lt_of t s hs;rw[VM] at he;subst he;exact hn hial)
   obtain⟨o2,ho2⟩:=hops j hjN;obtain⟨v,hv1,hv2⟩:=h3 j o2 d hjN hSj ho2 (by simpa[Di,ho2] using hd);have hag2:C8 n ((d,rv (.pointer (some ⟨β j,0,none⟩)))::BP ops (Sb sp) (Er sp i).deps l0) a Z:=⟨hag'.size,hag'.defers,λk r hk=>by
    rw[Cl] at hk
    split at hk
    ·rename_i e;subst e;simp at hk;subst hk
     exact⟨v,hv1,by simpa[Jh,hal] using hv2⟩
    ·exact hag'.tm k r hk⟩
   refine hok (β j) (H++H') a w Z K hag2 (h1.perm ((List.Perm.append_left H p1).trans List.perm_middle)) (λv w' Z' hz _ hs'=>hK _ _ ⟨β,Z',?_,hagr v Z' hz,hvals v Z' β hz (λ_ _=>rfl) (λhne=>absurd hod hne),hx'⟩);exact hs'.perm (List.perm_middle.symm.trans (List.Perm.append_left H p2.symm))
  | none=>
   rw[hst] at hat;have latene:∀t q,t<N→(Er sp t).late=some q→q.1≠i:=λt q ht hq he=>by
    have:=(L1 t q ht hq).2;rw[he,hst] at this;cases this
   cases hal:(Er sp i).al with
   | none=>
    rw[hal] at hat;refine hat _ a w Z K hag' h1 (λv w' Z' hz hp hst'=>hK _ _ ⟨β,Z',?_,hagr v Z' hz,hvals v Z' β hz (λ_ _=>rfl) (λ_=>by unfold Jh;rw[hal];exact hp),hx'⟩);rw[E6 (S':=S) (β':=β) sp 0 (λt s hs hn=>by
     obtain⟨ht,rfl⟩:=lt_of t s hs;have:t≠i:=λe=>by subst e;exact hn hal
     refine⟨by simp[this],λ_=>⟨rfl,λq hq=>?_⟩⟩;have:=latene t q ht hq;simp[this])]
    exact hst'
   | some p=>
    rw[hal] at hat;have key:=λK' hK'=>hat (H++En S β sp 0) a w Z K' h1 hK';have h5:∀b w',St c (.blk b p.1 p.2::(H++En S β sp 0)) Z w'→K (a.put o.dst (.pointer (some ⟨b,0,none⟩))) w':=λb w' hst'=>by
     refine hK _ _ ⟨λj=>if j=i then b else β j,Z,?_,hagr _ Z (Fz.le.refl _),hvals _ Z _ (Fz.le.refl _) (λj hj=>by simp[hj]) (λ_=>by simp[Jh,hal,rv]),hx'⟩;have hp:=N9 (S:=S) (β:=β) (i:=i) (b:=b) (p:=p) sp 0 i (Er sp i) (by omega) (hsa i hi) hal hun (λt s q hs _ hq=>by
      obtain⟨ht,rfl⟩:=lt_of t s hs;exact latene t q ht hq) (λq hq=>by
       refine⟨?_,latene i q hi hq⟩
       cases hS:S q.1 with
       | false=>rfl
       | true=>
        obtain⟨h6,h7⟩:=L1 i q hi hq;have:=hx q.1 i h6 h7 hS;rw[this] at hun;cases hun)
     exact hst'.perm ((List.perm_middle.symm).trans (List.Perm.append_left H hp.symm))
    refine⟨λ_=>(key K h5).2,λhw'=>?_⟩;rw[(key K h5).1] at hw';cases hw'
 ·obtain⟨β,Z,h1,h2,h3,_⟩:=hI;refine h β a w Z (OZ h2 _ _ 0 (λt o s d ht hs hd=>?_)) (by rw[← NA];exact h1);obtain⟨htN,rfl⟩:=lt_of t s hs;rw[VM];exact h3 t o d htN rfl (by rw[← hget t htN];exact ht) hd
end
section
variable {P : Program} {n : Nat} {c : Cx} {opsA : Array Oper} {Q : Exit → Act → World → Prop} {l l0 : Fr} {H : List Ent} {sp : List Sa}
theorem JZ {id:Nat}{ops:List Oper}(N:Nat)(ks0:List Nat)(sp:List Sa)(hob:J5 P n c ops.toArray Q ops sp l0 H 0 (ops.take N))(h:∀β,WL P n c ops.toArray Q (ops.drop N) (Ls β (ops.take N) sp 0 l0) (H++PO β sp 0))
  (h0:Kp ks0 l l0:=by repeat (first | exact Nt | (apply KZ;rfl) | (apply L3;rfl))) (hm:P.follows .mixedOrders=true:=by kernel_rfl) (hB:Va n ops N (E4 l0) (sp.map (·.deps)) (sp.map (·.al.isSome)) (sp.map (·.late.map (·.1))) (sp.map (·.sto))=true:=by kernel_rfl)
  (hsp:sp.length=N:=by rfl):WC P n c (.region id ops.toArray true) Q l H:=Tf N sp hm hB h0.one hsp hob h
theorem LH {all rest:List Oper}{d:Nat}{op:Op}{ty:TypeId}{pos:String}{af:Array Edge}{i:Nat}
  (hr:∀{H},Bm P n c (BP all (Sb sp) (Er sp i).deps l0) H { dst:=some d,op:=op,type:=ty,pos:=pos,after:=af,guard:=none } (Er sp i).r) (h:J5 P n c opsA Q all sp l0 H (i+1) rest) (ha:(Er sp i).al=none:=by rfl) (hs:(Er sp i).sto=none:=by rfl) :
  J5 P n c opsA Q all sp l0 H i ({ dst:=some d,op:=op,type:=ty,pos:=pos,after:=af,guard:=none }::rest):=by
 refine⟨?_,h⟩;unfold Uo;rw[hs,ha];exact λ_=>Sn hr
theorem UP {all rest:List Oper}{d:Nat}{op:Op}{ty:TypeId}{pos:String}{af:Array Edge}{i:Nat}
  (hr:∀{E},Bm P n c (BP all (Sb sp) (Er sp i).deps l0) (H++E) { dst:=some d,op:=op,type:=ty,pos:=pos,after:=af,guard:=none } (Er sp i).r) (h:J5 P n c opsA Q all sp l0 H (i+1) rest) (ha:(Er sp i).al=none:=by rfl) (hs:(Er sp i).sto=none:=by rfl) :
  J5 P n c opsA Q all sp l0 H i ({ dst:=some d,op:=op,type:=ty,pos:=pos,after:=af,guard:=none }::rest):=by
 refine⟨?_,h⟩;unfold Uo;rw[hs,ha];exact λ_=>Sn hr
theorem UQ {all:List Oper}{i:Nat}:J5 P n c opsA Q all sp l0 H i []:=trivial
end
structure RL (ks:List Nat) (β:Nat→Nat) (os:List Oper) (sp:List Sa) (i:Nat) (l0 l1:Fr):Prop where
 go:Kp ks (Ls β os sp i l0) l1
section
variable {ks : List Nat} {β : Nat → Nat} {os : List Oper} {sp : List Sa} {i d : Nat} {l0 l1 : Fr} {ds : List Nat} {r : Rp} {p : List Rp × TypeId} {lt : Option (Nat × List Rp)} {so : Option Nat} {op : Op} {ty : TypeId} {pos : String} {af : Array Edge} {g : Option (Nat × Bool)}
theorem U5 (h:ks.contains d=true)(t:RL ks β os sp (i+1) l0 l1):RL ks β ({ dst:=some d,op:=op,type:=ty,pos:=pos,after:=af,guard:=g }::os) ({ deps:=ds,r:=r,sto:=so }::sp) i l0 ((d,r)::l1):=⟨KZ h t.go⟩
theorem U8 (h:ks.contains d=true)(t:RL ks β os sp (i+1) l0 l1):RL ks β ({ dst:=some d,op:=op,type:=ty,pos:=pos,after:=af,guard:=g }::os) ({ deps:=ds,r:=r,al:=some p,late:=lt,sto:=so }::sp) i l0 ((d,rv (.pointer (some ⟨β i,0,none⟩)))::l1):=⟨KZ h t.go⟩
theorem U7 {s:Sa}(h:ks.contains d=false)(t:RL ks β os sp (i+1) l0 l1):RL ks β ({ dst:=some d,op:=op,type:=ty,pos:=pos,after:=af,guard:=g }::os) (s::sp) i l0 l1:=⟨L3 h t.go⟩
theorem U6 {s:Sa}(t:RL ks β os sp (i+1) l0 l1):RL ks β ({ dst:=none,op:=op,type:=ty,pos:=pos,after:=af,guard:=g }::os) (s::sp) i l0 l1:=⟨t.go⟩
theorem U9 (t:Kp ks l0 l1):RL ks β [] [] i l0 l1:=⟨t⟩
theorem LY {P:Program}{n:Nat}{c:Cx}{opsA:Array Oper}{Q:Exit→Act→World→Prop}{rest:List Oper}{H H1:List Ent}(ks:List Nat)(h:WL P n c opsA Q rest l1 H1)
  (hz:RL ks β os sp i l0 l1:=by repeat (first | (apply U5;rfl) | (apply U8;rfl) | (apply U7;rfl) | apply U6 | apply U9 | exact Nt | (apply KZ;rfl) | (apply L3;rfl))) (hH:H=H1:=by rfl) :
  WL P n c opsA Q rest (Ls β os sp i l0) H:=λa w Z ha hw=>h a w Z (ha.subL hz.go.one) (hH▸hw)
end
section
variable {P : Program} {n : Nat} {c : Cx} {opsA : Array Oper} {Q : Exit → Act → World → Prop} {l l0 : Fr} {H : List Ent} {sp : List Sa}
theorem UR {all rest:List Oper}{o:Oper}{i:Nat}(hr:∀{E},DF P n c opsA Q (BP all (Sb sp) (Er sp i).deps l0) (H++E) o (Er sp i).r (H++E))(h:J5 P n c opsA Q all sp l0 H (i+1) rest)(ha:(Er sp i).al=none:=by rfl)(hs:(Er sp i).sto=none:=by rfl):J5 P n c opsA Q all sp l0 H i (o::rest):=by
 refine⟨?_,h⟩;unfold Uo;rw[hs,ha];exact λ_=>hr
end
def Vh (p:Bool→Prop):Rp:=⟨λ_ v=>∃b,v = .bool b∧p b,λ_ h=>h,true,λ_ Z v ⟨b,e,_⟩=>by rw[e];rfl⟩
section
variable {P : Program} {n : Nat} {c : Cx} {ops : Array Oper} {Q : Exit → Act → World → Prop} {rest : List Oper} {l : Fr} {H : List Ent} {d : Option Nat} {ty rty t e : TypeId} {pos : String} {af : Array Edge} {g : Option (Nat × Bool)} {r : Rp} {x : Operand} {cx cy : Code} {sz : Nat} {xs : List (List Rp)}
theorem Qt {o:Operand}{p:Bool→Prop}(ho:ev l o=some (Vh p))(h1:p true→WC P n c cx Q l H)(h2:p false→WC P n c cy Q l H):WC P n c (.cond o cx cy) Q l H:=λa w Z ha hw=>by
 obtain⟨b,e,hp⟩:=ha.ev ho;exact wp_cond_split e (λe=>h1 (e▸hp) a w Z ha hw) (λe=>h2 (e▸hp) a w Z ha hw)
theorem P4 (ht:P.underlying t=some (.slice e))(h:ev l x=some (AE sz xs)):Bm P n c l H { dst:=d,op:=.binOp .eql t x (.const (.slice none 0 0)) rty,type:=ty,pos:=pos,after:=af,guard:=g } (Vh (λb=>b=true→xs=[])):=λa w Z ha hw=>by
 obtain⟨A,cap,e1,h1,h2,h3,h4⟩:=ha.ev h;refine⟨.bool A.isNone,⟨_,rfl,λhb=>?_⟩,?_⟩
 ·cases A with
  | some a=>cases hb
  | none=>
   have:=h3 rfl;exact List.length_eq_zero_iff.1 (by omega)
 ·have:=run_equal_slice_nil (P:=P) w t e A xs.length cap ht;have e2:a.eval (.const (.slice none 0 0)) = .slice none 0 0:=rfl;simp[execOp,e1,e2,binOp,this,eqGuard]
end
set_option maxRecDepth 100000
set_option maxHeartbeats 4000000
theorem Ob:∃inf,Tryz.prog.info? 28=some inf∧inf.zero=some (.slice none 0 0)∧inf.size=1∧inf.bytes=24:=by
  have key:(Tryz.prog.info? 28).map (λi=>(i.zero,i.size,i.bytes))=some (some (.slice none 0 0),1,24):=by kernel_rfl
  obtain⟨inf,h1,h2⟩:=Option.map_eq_some_iff.1 key;simp only[Prod.mk.injEq] at h2;exact⟨inf,h1,h2.1,h2.2.1,h2.2.2⟩
theorem Ll (ys:(List Aa))(r:(List Aa))(h:Il ys=some r):Fn Tryz.prog GE 92 [AE 4 (A3 Ab ys)] [] (λR H=>R=AE 4 (A3 Ab r)∧H=[]):=by
 refine enter (n:=8) Tryz.func92 rfl Tryz.ntmps92 rfl (λw Z=>?_);unfold Il at h;refine Ah (wa rfl (Al (An (Ah (wm rfl (wv (P4 B0 rfl) (Al (Qt rfl (λc1=>?_) (λc1=>?_)))))))))
 ·have e2:ys=[]:=List.map_eq_nil_iff.1 (c1 rfl);have h3:some ([]:List Aa)=some r:=by rw[e2] at h;exact(Rz h).2
  refine Ah (wa rfl (Al (Aq (Ac (WK.up (d:=2) (r:=AE 4 (A3 Ab ([]:List Aa))) rfl (Up.le (DA.nil _)) ?_)))));obtain rfl:=Am h3;exact Ap (Bw Tryz.results92 (A9 rfl)) sN ⟨rfl,rfl⟩
 ·refine Av (AG (Ah (AO (ys:=([]:List Aa)) (enc:=Ab) (css:=[]) (xs:=[]) B0 BI HO rfl rfl rfl trivial rfl AX rfl rfl rfl (λb4=>?_))));refine wm rfl (ck h λg6 h7=>Exists.elim EX λinf hinf=>BJ (xs:=([]:List Aa)) (ys:=ys) (enc:=Ab) (i:=0) B0 hinf.1 hinf.2.1 hinf.2.2.1 hinf.2.2.2 rfl rfl rfl rfl rfl (Jc.z rfl rfl) AX Cg g6 rfl (λv5=>?_));refine wa rfl (Al (Aq (WK.freeze (i:=0) rfl (WK.up (d:=2) (r:=AE 4 (A3 Ab (([]:List Aa)++ys))) rfl (Up.fact (i:=0) rfl) ?_))));obtain rfl:=Am h7;exact Ap (Bw Tryz.results92 (A9 rfl)) (sS sN) ⟨rfl,rfl⟩
theorem LB (ha:Nat)(hb:Value)(key:Ar)(x:(List Aa))(out:(List (List Aa)))(r:Bool×(List (List Aa)))(h:Kc key x out=some r):Fn Tryz.prog GE 91 [rS key,AE 4 (A3 Ab x),rP ha 0] [.blk ha [rv hb] 24,.row hb 28 1 (A3 Ae out)] (λR H=>∃w2_0:Value,R=rB r.1∧H=[.blk ha [rv w2_0] 24,.row w2_0 28 1 (A3 Ae r.2)]):=by
 refine enter (n:=11) Tryz.func91 rfl Tryz.ntmps91 rfl (λw Z=>?_);unfold Kc at h;refine Ah (wa rfl (Al (An (ob h λr1 e3 h2=>JZ 4 [1,2] [⟨[],rv hb,none,none,none⟩,⟨[],AE 4 (A3 Ab x),none,none,none⟩,⟨[1],AE 4 (A3 Ab r1),none,none,none⟩,⟨[2],AE 1 (A3 Ae ([r1]:List (List Aa))),none,none,none⟩] ?_ (λβ=>?_)))))
 ·refine UP (Bc (i:=0) CR rfl rfl rfl) (LH (A5 rfl) (UR (Ea Tryz.call92 (Ll x r1 e3) rfl) (UR (EV (ys:=([r1]:List (List Aa))) (enc:=Ae) (css:=[[AE 4 (A3 Ab r1)]]) (xs:=[.tmp 8]) BN BY LW rfl rfl rfl ⟨DW.one rfl (Up.refl _),trivial⟩ rfl B6 rfl rfl) ?_)));exact UQ
 refine LY (H1:=[.blk ha [rv hb] 24,.row hb 28 1 (A3 Ae out)]) [6,7,8,9,1,2] ?_;refine ck h2 λg5 h6=>Exists.elim Ob λinf hinf=>BJ (xs:=out) (ys:=([r1]:List (List Aa))) (enc:=Ae) (i:=1) BN hinf.1 hinf.2.1 hinf.2.2.1 hinf.2.2.2 rfl rfl rfl rfl rfl (Jc.z rfl rfl) B6 Ef g5 rfl (λv4=>?_);refine Bs (i:=1) CD rfl rfl (C3 (i:=0) rfl) rfl rfl (cs':=[rv v4]) rfl (H':=[.row v4 28 1 (A3 Ae (out++([r1]:List (List Aa)))),.blk ha [rv v4] 24]) rfl (AW (wa rfl (Al (Aq (Cm (H2:=[.blk ha [rv v4] 24,.row v4 28 1 (A3 Ae (out++([r1]:List (List Aa))))]) ((A0 (i:=1) rfl).trans (Vp _ (Vo _))) ?_)))));obtain rfl:=Am h6;exact Ap (Bw Tryz.results91 (A9 rfl)) (sC (sC sN)) ⟨v4,rfl,rfl⟩
theorem Po (F:Nat)(hb:Nat)(hm:Value)(v:(List Aa))(out:(List (List Aa)))(r:(List (List Aa)))(h:Md F v out=some r):Fn Tryz.prog GE 90 [AE 4 (A3 Ab v),rv (.func (.func 91) #[] #[(.pointer (some ⟨hb,0,none⟩))])] [.blk hb [rv hm] 24,.row hm 28 1 (A3 Ae out)] (λR H=>∃w1_0_0:Value,R=rv (.tuple #[])∧H=[.blk hb [rv w1_0_0] 24,.row w1_0_0 28 1 (A3 Ae r)]):=by
 refine enter (n:=52) Tryz.func90 rfl Tryz.ntmps90 rfl (λw Z=>?_);unfold Md at h;refine Ah (wa rfl (AW (wm rfl (ck h λg1 h2=>wv (AT (enc:=Ab) (ys:=v) B0 BI rfl rfl g1) (wv (AR BA rfl BH rfl rfl) (wv (AL Cd rfl rfl) (wv (r:=Ai 0) (A5 rfl) (Al (AA (ob h2 λh0 h1 hn=>Bg (S:=Nat×(Int×Int×(List (List Aa)))×(Value)) (V:=((List (List Aa)))×(Value)) 0 (λσ=>BW (λσ=>GB F v σ.1 σ.2.1 σ.2.2) σ.1 σ.2.1=some h0) (λσ=>[(0,AE 4 (A3 Ab v)),(1,rv (.func (.func 91) #[] #[(.pointer (some ⟨hb,0,none⟩))])),(4,Ai σ.2.1.1),(12,Ai ((Ax v 0).fN)),(13,Ai σ.2.1.2.1)]) (λσ=>[.blk hb [rv σ.2.2] 24,.row σ.2.2 28 1 (A3 Ae σ.2.1.2.2)]) (λσ=>σ.1) (F,(1,0,out),hm) h1 (A4.c5 rfl rfl rfl rfl rfl A4.nil) (sC (sC sN)) (λσ=>GA σ.1=some r) (λσ=>[]) (λσ=>[.blk hb [rv σ.2] 24,.row σ.2 28 1 (A3 Ae σ.1)]) ?_ ?_))))))))))
 ·rintro⟨n171,⟨ha,hj,hh⟩,he⟩ h3;refine B2 (l':=[(0,AE 4 (A3 Ab v)),(1,rv (.func (.func 91) #[] #[(.pointer (some ⟨hb,0,none⟩))])),(4,Ai ha),(12,Ai ((Ax v 0).fN)),(13,Ai hj)]) (H':=[.blk hb [rv he] 24,.row he 28 1 (A3 Ae hh)]) rfl rfl ?_;obtain⟨hr,rfl,h4,hk,hi⟩:=Cf h3;replace hk:GB F v ha hj hh=some h4:=hk;unfold GB at hk;refine Ah (wv (Cr rfl rfl) (Al (An (cz hk rfl (λh5 h6=>?_) (λh5 h7=>?_)))))
  ·refine Av (AG (An (AA (Ah (wv (r:=rS ([]:Ar)) (AD rfl) (Al (An (Ah (wm rfl (wv (AT (enc:=Ab) (ys:=v) B0 BI rfl rfl g1) (wv (AR BA rfl Dw rfl rfl) (wv (AL DJ rfl rfl) (wv (Bz rfl rfl) (Al (cz h6 rfl (λh8 h9=>?_) (λh8 hA=>?_))))))))))))))))
   ·refine Ah (wm rfl (wm rfl (ck h9 λhB hC=>wv (AT (enc:=Ab) (ys:=v) B0 BI rfl rfl hB) (wv (AR BA rfl CB rfl rfl) (wv (AL CO rfl rfl) (wa rfl (Al (Ak (wm rfl (ck hC λhD hE=>wv (Bj rfl rfl hD) (wa rfl (AW (wm rfl (wm rfl (ck hE λhG hH=>wv (r:=AE 4 (A3 Ab (List.drop (Bl (ha+1)) v))) (Dz B0 BI rfl rfl hG) (ob hH λhf hI hJ=>Cs NJ (G9 F (List.drop (Bl (ha+1)) v) hf hI) rfl (wm rfl (wv (A7 rfl rfl) (wv (A7 rfl rfl) ?_)))))))))))))))))));refine wv (A7 rfl rfl) (Ca (cs:=[Ai 0,Ai 0,rB false,rB false]) LV rfl rfl (λhs=>?_));refine wa rfl (Ba (i:=0) E9 rfl rfl rfl (BC.c rfl) rfl rfl (cs':=[Ai hf.2.1.fDepth,Ai hf.2.1.fBytes,rB hf.2.1.fOutside,rB hf.2.1.fLong]) rfl (H':=[.blk hs (AF hf.2.1) 86,.blk hb [rv he] 24,.row he 28 1 (A3 Ae hh)]) rfl (wa rfl (Al (An (Ah (wm rfl (wm rfl (wm rfl (wm rfl (wm rfl (wm rfl (ck hJ λho hK=>wv (Bj rfl rfl ho) (wm rfl (wm rfl (wv (Bj rfl rfl ho) (ck hK λhL hN=>ck hN λhO hP=>wv (r:=AE 4 (A3 Ab (List.take (Bl ((ha+1)+hf.1)-Bl (ha+1)) (List.drop (Bl (ha+1)) v)))) (DL B0 BI rfl rfl rfl rfl hL hO) (ob hP λht hQ hR=>C2 (rs:=[rS ((Ax v ha).fStr),AE 4 (A3 Ab (List.take (Bl ((ha+1)+hf.1)-Bl (ha+1)) (List.drop (Bl (ha+1)) v)))]) (Hin:=[.blk hb [rv he] 24,.row he 28 1 (A3 Ae hh)]) (Hr:=[.blk hs (AF hf.2.1) 86]) Tryz.call91 rfl rfl ((A0 (i:=1) rfl).trans (Vp _ ((A0 (i:=1) rfl).trans (Vp _ (Vo _))))) (LB hb he ((Ax v ha).fStr) (List.take (Bl ((ha+1)+hf.1)-Bl (ha+1)) (List.drop (Bl (ha+1)) v)) hh ht hQ) rfl ?_)))))))))))))))));rintro _ _ ⟨hu,rfl,rfl⟩;refine wv (B1 rfl) (Al (cz hR rfl (λhS hT=>?_) (λhS hU=>?_)))
    ·refine Aq (Ac (Ao (Ac (Ac (AN ?_)))));have hV:=Be hT hi hn;refine Ao ?_;obtain rfl:=Am hV;exact Ap (Mj LX) (sC (sC (sS sN))) ⟨hu,rfl,rfl⟩
    ·refine Av (AG (Ak (wm rfl (wm rfl (wv (Bj rfl rfl ho) (wa rfl (Aj (A8 (AG (Ak (ck hU λhW hX=>wv (Bj rfl rfl hW) (wm rfl (Aj ?_)))))))))))));have hY:=Bb hX hi;exact As (At (hr,((ha+1)+hf.1,hj+1,ht.2),hu) ⟨hY,Vv _⟩ (A4.c5 rfl rfl rfl rfl rfl A4.nil) (sC (sC (sS sN))))
   ·refine Av (AG (Ah (wm rfl (wm rfl (ck hA λhZ ga=>wv (r:=AE 4 (A3 Ab (List.drop (Bl ha) v))) (Dz B0 BI rfl rfl hZ) (ob ga λhg gb gc=>Cs NJ (G9 F (List.drop (Bl ha) v) hg gb) rfl (wm rfl (wv (A7 rfl rfl) (wv (A7 rfl rfl) (wv (A7 rfl rfl) (Ca (cs:=[Ai 0,Ai 0,rB false,rB false]) LV rfl rfl (λhw=>?_))))))))))));refine wa rfl (Ba (i:=0) E9 rfl rfl rfl (BC.c rfl) rfl rfl (cs':=[Ai hg.2.1.fDepth,Ai hg.2.1.fBytes,rB hg.2.1.fOutside,rB hg.2.1.fLong]) rfl (H':=[.blk hw (AF hg.2.1) 86,.blk hb [rv he] 24,.row he 28 1 (A3 Ae hh)]) rfl (wa rfl (Al (An (Ah (wm rfl (wm rfl (wm rfl (wm rfl (wm rfl (wm rfl (ck gc λhp gd=>wv (Bj rfl rfl hp) (wm rfl (wm rfl (wv (Bj rfl rfl hp) (ck gd λge gf=>ck gf λgg gh=>wv (r:=AE 4 (A3 Ab (List.take (Bl (ha+hg.1)-Bl ha) (List.drop (Bl ha) v)))) (DL B0 BI rfl rfl rfl rfl ge gg) (ob gh λhx gi gj=>C2 (rs:=[rS ([]:Ar),AE 4 (A3 Ab (List.take (Bl (ha+hg.1)-Bl ha) (List.drop (Bl ha) v)))]) (Hin:=[.blk hb [rv he] 24,.row he 28 1 (A3 Ae hh)]) (Hr:=[.blk hw (AF hg.2.1) 86]) Tryz.call91 rfl rfl ((A0 (i:=1) rfl).trans (Vp _ ((A0 (i:=1) rfl).trans (Vp _ (Vo _))))) (LB hb he ([]:Ar) (List.take (Bl (ha+hg.1)-Bl ha) (List.drop (Bl ha) v)) hh hx gi) rfl ?_)))))))))))))))));rintro _ _ ⟨hy,rfl,rfl⟩;refine wv (B1 rfl) (Al (cz gj rfl (λgl gm=>?_) (λgl gp=>?_)))
    ·refine Aq (Ac (Ao (Ac (Ac (AN ?_)))));have gq:=Be gm hi hn;refine Ao ?_;obtain rfl:=Am gq;exact Ap (Mj LX) (sC (sC (sS sN))) ⟨hy,rfl,rfl⟩
    ·refine Av (AG (Ak (wm rfl (wm rfl (wv (Bj rfl rfl hp) (wa rfl (Aj (A8 (AG (Ak (ck gp λgr gs=>wv (Bj rfl rfl gr) (wm rfl (Aj ?_)))))))))))));have gt:=Bb gs hi;exact As (At (hr,(ha+hg.1,hj+1,hx.2),hy) ⟨gt,Vv _⟩ (A4.c5 rfl rfl rfl rfl rfl A4.nil) (sC (sC (sS sN))))
  ·refine Bq (Ay ?_);have gu:=BD h7 hi hn;exact Ay (AS (At (hh,he) gu A4.nil (sC (sC sN))))
 ·rintro⟨hz,hq⟩ hl;refine Cj (l':=[]) (H':=[.blk hb [rv hq] 24,.row hq 28 1 (A3 Ae hz)]) rfl rfl ?_;replace hl:GA hz=some r:=hl;unfold GA at hl;refine AV ?_;obtain rfl:=Am hl;exact DK (Mj LX) (sC (sC sN)) ⟨hq,rfl,rfl⟩
theorem Iz (F:Nat)(v:(List Aa))(r:(List (List Aa))×Int)(h:Jg F v=some r):Fn Tryz.prog GE 56 [AE 4 (A3 Ab v)] [] (λR H=>R=CV [AE 1 (A3 Ae r.1),Ai r.2]∧H=[]):=by
 refine enter (n:=27) Tryz.func56 rfl Tryz.ntmps56 rfl (λw Z=>?_);unfold Jg at h;refine Ah (wa rfl (wa rfl (Al (An (Ah (wm rfl (ob h λr1 e3 h2=>Cs Lu (Dm F v r1 e3) rfl (wa rfl (AW (wm rfl (wv (Bf rfl rfl) (Al (cz h2 rfl (λc4 h5=>?_) (λc4 h6=>?_))))))))))))))
 ·refine Ah (wm rfl (wa rfl (wa rfl (Al (Aq (Ac (WK.up (d:=2) (r:=AE 1 (A3 Ae ([]:List (List Aa)))) rfl (Up.le (DA.nil _)) ?_)))))));obtain rfl:=Am h5;exact Ap (D9 Tryz.results56 (A9 rfl) (A9 rfl)) sN ⟨rfl,rfl⟩
 ·refine Av (AG (An (ck h6 λg7 h8=>AK [(0,AE 4 (A3 Ab v)),(22,rB ((!decide (((Ax v 0).fKind)=5))&&(!decide (((Ax v 0).fKind)=6))))] [] ?_ ?_)))
  ·refine Ak (wm rfl (wv (AT (enc:=Ab) (ys:=v) B0 BI rfl rfl g7) (wv (AR BA rfl Dw rfl rfl) (wv (AL DJ rfl rfl) (wv (Bf rfl rfl) (wm rfl (AU (!decide (((Ax v 0).fKind)=5)) (λc9=>?_) (λc9=>?_))))))))
   ·refine wo c9 (wm rfl (wo c9 (wv (AT (enc:=Ab) (ys:=v) B0 BI rfl rfl g7) (wo c9 (wv (AR BA rfl Dw rfl rfl) (wo c9 (wv (AL DJ rfl rfl) (wo c9 (wv (Bf rfl rfl) (C5 rfl c9 rfl (Aj ?_)))))))))));exact Cp c9
   ·refine wf c9 (wf c9 (wf c9 (wf c9 (wf c9 (wv (r:=rB false) (Au rfl c9 rfl) (Aj ?_))))));exact Cp c9
  refine cz h8 rfl (λhe hf=>?_) (λhe hg=>?_)
  ·refine Ah (wa rfl (wa rfl (Al (Aq (Ac (WK.up (d:=2) (r:=AE 1 (A3 Ae ([]:List (List Aa)))) rfl (Up.le (DA.nil _)) ?_))))));obtain rfl:=Am hf;exact Ap (D9 Tryz.results56 (A9 rfl) (A9 rfl)) sN ⟨rfl,rfl⟩
  ·refine Av (AG (Ah (Ca (cs:=[rv (.slice none 0 0)]) Tryz.zeroValue24 rfl rfl (λha=>?_))));refine AW (wm rfl (wv (r:=rv (.func (.func 91) #[] #[(.pointer (some ⟨ha,0,none⟩))])) (BB rfl) (WL.nilrow (e:=28) (sz:=1) (ob hg λhb hh hi=>Dk (Hr:=[]) Tryz.call90 (Po F ha (.slice none 0 0                            ) v ([]:List (List Aa)) hb hh) rfl ((A0 (i:=1) rfl).trans (Vp _ (Vo _))) rfl ?_))));rintro _ _ ⟨hj,rfl,rfl⟩;refine AW (vL 0 CR rfl (wa rfl (wa rfl (Al (Aq (WK.freeze (i:=1) rfl (WK.up (d:=2) (r:=AE 1 (A3 Ae hb)) rfl (Up.fact (i:=0) rfl) ?_)))))));obtain rfl:=Am hi;exact Ap (D9 Tryz.results56 (A9 rfl) (A9 rfl)) (sS (sS sN)) ⟨rfl,rfl⟩
end Go.Proofs.YtghdglcmblpbeaaGreatDoor.Q
namespace Go.Proofs.YtghdglcmblpbeaaGreatDoor
open Go
set_option linter.unusedVariables false
def Hq (k:Ar)(x:(List Aa))(key:Ar)(out:(List Aa)):Option (Bool×(List Aa)):=
 AP (decide (k=key)) (Bd (Il x) λr3=>AQ (decide (0<r3.length))<|some (!decide (k=key),r3)) (some (!decide (k=key),out))
def Hp (F:Nat)(v:(List Aa))(key:Ar)(ha:Int)(hb:Int)(hg:(List Aa)):Option (Stp (Int×Int×(List Aa)) (Out ((List Aa)) ((List Aa)))):=
 AP (decide (hb<((Ax v 0).fN))) (AP (decide (((Ax v 0).fKind)=6)) (AQ (Co ha (v.length:Int))<|AQ (BM .i64 (ha+1))<|AQ (E8 (ha+1) (v.length:Int))<|Bd (DI F (List.drop (Int.toNat (ha+1)) v)) λhe=>AQ (BM .i64 ((ha+1)+he.1))<|AQ (E8 (ha+1) ((ha+1)+he.1))<|AQ (E8 ((ha+1)+he.1) (v.length:Int))<|Bd (Hq ((Ax v ha).fStr) (List.take (Int.toNat ((ha+1)+he.1)-Int.toNat (ha+1)) (List.drop (Int.toNat (ha+1)) v)) key hg) λhh=>AP (!hh.1) (some (.out (.ret hh.2))) (AQ (BM .i64 (hb+1))<|some (.next ((ha+1)+he.1,hb+1,hh.2)))) (AQ (E8 ha (v.length:Int))<|Bd (DI F (List.drop (Int.toNat ha) v)) λhf=>AQ (BM .i64 (ha+hf.1))<|AQ (E8 ha (ha+hf.1))<|AQ (E8 (ha+hf.1) (v.length:Int))<|Bd (Hq ([]:Ar) (List.take (Int.toNat (ha+hf.1)-Int.toNat ha) (List.drop (Int.toNat ha) v)) key hg) λhi=>AP (!hi.1) (some (.out (.ret hi.2))) (AQ (BM .i64 (hb+1))<|some (.next (ha+hf.1,hb+1,hi.2))))) (some (.out (.go hg)))
def I0 (ha:(List Aa)):Option ((List Aa)):=
 some ha
def MU (F:Nat)(v:(List Aa))(key:Ar)(out:(List Aa)):Option ((List Aa)):=
 AQ (Co 0 (v.length:Int))<|Bd (BW (λσ=>Hp F v key σ.1 σ.2.1 σ.2.2) F (1,0,out)) (BV λν=>I0 ν)
def Qz (F:Nat)(v:(List Aa))(key:Ar):Option ((List Aa)×Int):=
 Bd (CL F v) λr2=>AP (!decide (r2=0)) (some (([]:List Aa),r2)) (AQ (Co 0 (v.length:Int))<|AP (!decide (((Ax v 0).fKind)=6)) (some (([]:List Aa),7)) (Bd (MU F v key ([]:List Aa)) λha=>AP (List.isEmpty ha) (some (([]:List Aa),5)) (some (ha,0))))
def DB (F:Nat)(path:(List Ar))(he:(List Aa))(ha:Int):Option (Stp ((List Aa)×Int) (Out ((List Aa)×Int) ((List Aa)))):=
 AP (decide (ha<(path.length:Int))) (AQ (Co ha (path.length:Int))<|Bd (Qz F he (Ax path ha)) λhb=>AP (!decide (hb.2=0)) (some (.out (.ret (([]:List Aa),hb.2)))) (AQ (BM .i64 (ha+1))<|some (.next (hb.1,ha+1)))) (some (.out (.go he)))
def Hn (ha:(List Aa)):Option ((List Aa)×Int):=
 some (ha,0)
def MS (F:Nat)(v:(List Aa))(path:(List Ar)):Option ((List Aa)×Int):=
 Bd (CL F v) λr1=>AP (!decide (r1=0)) (some (([]:List Aa),r1)) (Bd (Il v) λr7=>Bd (BW (λσ=>DB F path σ.1 σ.2) F (r7,0)) (BV λν=>Hn ν))
end Go.Proofs.YtghdglcmblpbeaaGreatDoor
namespace Go.Proofs.YtghdglcmblpbeaaGreatDoor.Q
open Go Go.RowKit
set_option linter.unusedVariables false
def LE (sz:Nat)(xs:List (List Rp)):Rp:=⟨λZ v=>MC sz xs Z v∧(xs=[]→v = .slice none 0 0),λh ⟨a,b⟩=>⟨MC.mono h a,b⟩,true,λ_ Z v ⟨⟨A,cap,e,_⟩,_⟩=>by rw[e];rfl⟩
theorem DA.sn {sz:Nat}{xs:List (List Rp)}:DA (LE sz xs) (AE sz xs):=λ_ _ h=>h.1
theorem DA.niln (sz:Nat):DA (rv (.slice none 0 0)) (LE sz []):=λZ v h=>by rw[show v=_ from h];exact⟨MC.nil sz Z,λ_=>rfl⟩
theorem DA.upn {T:Type}{sz:Nat}{enc:T→List Rp}{ys:List T}(h:decide (0<ys.length)=true):DA (AE sz (List.map enc ys)) (LE sz (List.map enc ys)):=λZ v hv=>⟨hv,λe=>by
 have:=VZ h;rw[List.map_eq_nil_iff.1 e] at this;exact absurd this (by simp)⟩
section
variable {P : Program} {n : Nat} {c : Cx} {l : Fr} {H : List Ent} {d : Option Nat} {ty rty t e : TypeId} {pos : String} {af : Array Edge} {g : Option (Nat × Bool)} {x : Operand} {sz : Nat}
theorem NV {T:Type}{enc:T→List Rp}{ys:List T}(ht:P.underlying t=some (.slice e))(h:ev l x=some (LE sz (List.map enc ys))):Bm P n c l H { dst:=d,op:=.binOp .eql t x (.const (.slice none 0 0)) rty,type:=ty,pos:=pos,after:=af,guard:=g } (rB (List.isEmpty ys)):=λa w Z ha hw=>by
 obtain⟨⟨A,cap,e1,h1,h2,h3,h4⟩,h5⟩:=ha.ev h;have e2:a.eval (.const (.slice none 0 0)) = .slice none 0 0:=rfl;refine⟨.bool A.isNone,?_,?_⟩
 ·show Value.bool A.isNone = .bool ys.isEmpty
  cases ys with
  | nil=>
   have:=h5 rfl;rw[e1] at this
   cases this;rfl
  | cons y r=>
   cases A with
   | some a=>rfl
   | none=>
    have:=h3 rfl;simp only[V0,Vt] at h1;omega
 ·have:=run_equal_slice_nil (P:=P) w t e A (List.map enc ys).length cap ht;simp only[V0] at this;simp[execOp,e1,e2,binOp,this,eqGuard]
end
set_option linter.unusedSimpArgs false
set_option maxRecDepth 100000
set_option maxHeartbeats 4000000
theorem UB:∃inf,Tryz.prog.info? 9=some inf∧inf.zero=some (.string ⟨#[]⟩)∧inf.size=1∧inf.bytes=16:=by
  have key:(Tryz.prog.info? 9).map (λi=>(i.zero,i.size,i.bytes))=some (some (.string ⟨#[]⟩),1,16):=by kernel_rfl
  obtain⟨inf,h1,h2⟩:=Option.map_eq_some_iff.1 key;simp only[Prod.mk.injEq] at h2;exact⟨inf,h1,h2.1,h2.2.1,h2.2.2⟩
theorem OA (ha:Nat)(hb:Nat)(k:Ar)(x:(List Aa))(key:Ar)(out:(List Aa))(r:Bool×(List Aa))(h:Hq k x key out=some r):Fn Tryz.prog GE 140 [rS k,AE 4 (A3 Ab x),rP ha 0,rP hb 0] [.blk ha [rS key] 9,.blk hb [LE 4 (A3 Ab out)] 28] (λR H=>R=rB r.1∧H=[.blk ha [rS key] 9,.blk hb [LE 4 (A3 Ab r.2)] 28]):=by
 refine enter (n:=15) Tryz.func140 rfl Tryz.ntmps140 rfl (λw Z=>?_);unfold Hq at h;refine Ah (wa rfl (Al (An (Ah (wm rfl (vL 0 CO rfl (wv (GZ rfl rfl) (Al (cz h rfl (λc1 h2=>?_) (λc1 h8=>?_))))))))))
 ·refine Ak (wm rfl (ob h2 λr3 e5 h4=>Cs Tryz.call92 (Ll x r3 e5) rfl (ck h4 λg6 h7=>WL.up (d:=11) (r:=LE 4 (A3 Ab r3)) rfl (Up.le (DA.upn g6)) (Bs (i:=1) BY rfl rfl (B3 rfl) rfl rfl (cs':=[LE 4 (A3 Ab r3)]) rfl (H':=[.blk ha [rS key] 9,.blk hb [LE 4 (A3 Ab r3)] 28]) rfl (AW (wm rfl (vL 0 CO rfl (wv (Eb rfl rfl) (wa rfl (Al (Aq ?_)))))))))));obtain rfl:=Am h7;exact Ap (Bw Tryz.results140 (A9 rfl)) (sC (sC sN)) ⟨rfl,rfl⟩
 ·refine Av (AG (Ah (wm rfl (vL 0 CO rfl (wv (Eb rfl rfl) (wa rfl (Al (Aq ?_))))))));obtain rfl:=Am h8;exact Ap (Bw Tryz.results140 (A9 rfl)) (sC (sC sN)) ⟨rfl,rfl⟩
theorem RZ (F:Nat)(hb:Nat)(he:Nat)(v:(List Aa))(key:Ar)(out:(List Aa))(r:(List Aa))(h:MU F v key out=some r):Fn Tryz.prog GE 90 [AE 4 (A3 Ab v),rv (.func (.func 140) #[] #[(.pointer (some ⟨hb,0,none⟩)),(.pointer (some ⟨he,0,none⟩))])] [.blk hb [rS key] 9,.blk he [LE 4 (A3 Ab out)] 28] (λR H=>R=rv (.tuple #[])∧H=[.blk hb [rS key] 9,.blk he [LE 4 (A3 Ab r)] 28]):=by
 refine enter (n:=52) Tryz.func90 rfl Tryz.ntmps90 rfl (λw Z=>?_);unfold MU at h;refine Ah (wa rfl (AW (wm rfl (ck h λg1 h2=>wv (AT (enc:=Ab) (ys:=v) B0 BI rfl rfl g1) (wv (AR BA rfl BH rfl rfl) (wv (AL Cd rfl rfl) (wv (r:=Ai 0) (A5 rfl) (Al (AA (ob h2 λhw hx hm=>Bg (S:=Nat×(Int×Int×(List Aa))×(Unit)) (V:=((List Aa))×(Unit)) 0 (λσ=>BW (λσ=>Hp F v key σ.1 σ.2.1 σ.2.2) σ.1 σ.2.1=some hw) (λσ=>[(0,AE 4 (A3 Ab v)),(1,rv (.func (.func 140) #[] #[(.pointer (some ⟨hb,0,none⟩)),(.pointer (some ⟨he,0,none⟩))])),(4,Ai σ.2.1.1),(12,Ai ((Ax v 0).fN)),(13,Ai σ.2.1.2.1)]) (λσ=>[.blk hb [rS key] 9,.blk he [LE 4 (A3 Ab σ.2.1.2.2)] 28]) (λσ=>σ.1) (F,(1,0,out),()) hx (A4.c5 rfl rfl rfl rfl rfl A4.nil) (sC (sC sN)) (λσ=>I0 σ.1=some r) (λσ=>[]) (λσ=>[.blk hb [rS key] 9,.blk he [LE 4 (A3 Ab σ.1)] 28]) ?_ ?_))))))))))
 ·rintro⟨gr,⟨ha,hj,hh⟩,⟨⟩⟩ hy;refine B2 (l':=[(0,AE 4 (A3 Ab v)),(1,rv (.func (.func 140) #[] #[(.pointer (some ⟨hb,0,none⟩)),(.pointer (some ⟨he,0,none⟩))])),(4,Ai ha),(12,Ai ((Ax v 0).fN)),(13,Ai hj)]) (H':=[.blk hb [rS key] 9,.blk he [LE 4 (A3 Ab hh)] 28]) rfl rfl ?_;obtain⟨hp,rfl,hz,hk,hi⟩:=Cf hy;replace hk:Hp F v key ha hj hh=some hz:=hk;unfold Hp at hk;refine Ah (wv (Cr rfl rfl) (Al (An (cz hk rfl (λh0 h1=>?_) (λh0 h3=>?_)))))
  ·refine Av (AG (An (AA (Ah (wv (r:=rS ([]:Ar)) (AD rfl) (Al (An (Ah (wm rfl (wv (AT (enc:=Ab) (ys:=v) B0 BI rfl rfl g1) (wv (AR BA rfl Dw rfl rfl) (wv (AL DJ rfl rfl) (wv (Bz rfl rfl) (Al (cz h1 rfl (λh4 h5=>?_) (λh4 h6=>?_))))))))))))))))
   ·refine Ah (wm rfl (wm rfl (ck h5 λh7 h8=>wv (AT (enc:=Ab) (ys:=v) B0 BI rfl rfl h7) (wv (AR BA rfl CB rfl rfl) (wv (AL CO rfl rfl) (wa rfl (Al (Ak (wm rfl (ck h8 λh9 hA=>wv (Bj rfl rfl h9) (wa rfl (AW (wm rfl (wm rfl (ck hA λhB hC=>wv (r:=AE 4 (A3 Ab (List.drop (Bl (ha+1)) v))) (Dz B0 BI rfl rfl hB) (ob hC λhf hD hE=>Cs NJ (G9 F (List.drop (Bl (ha+1)) v) hf hD) rfl (wm rfl (wv (A7 rfl rfl) (wv (A7 rfl rfl) ?_)))))))))))))))))));refine wv (A7 rfl rfl) (Ca (cs:=[Ai 0,Ai 0,rB false,rB false]) LV rfl rfl (λhq=>?_));refine wa rfl (Ba (i:=0) E9 rfl rfl rfl (BC.c rfl) rfl rfl (cs':=[Ai hf.2.1.fDepth,Ai hf.2.1.fBytes,rB hf.2.1.fOutside,rB hf.2.1.fLong]) rfl (H':=[.blk hq (AF hf.2.1) 86,.blk hb [rS key] 9,.blk he [LE 4 (A3 Ab hh)] 28]) rfl (wa rfl (Al (An (Ah (wm rfl (wm rfl (wm rfl (wm rfl (wm rfl (wm rfl (ck hE λhn hG=>wv (Bj rfl rfl hn) (wm rfl (wm rfl (wv (Bj rfl rfl hn) (ck hG λhH hI=>ck hI λhJ hK=>wv (r:=AE 4 (A3 Ab (List.take (Bl ((ha+1)+hf.1)-Bl (ha+1)) (List.drop (Bl (ha+1)) v)))) (DL B0 BI rfl rfl rfl rfl hH hJ) (ob hK λhr hL hN=>C2 (rs:=[rS ((Ax v ha).fStr),AE 4 (A3 Ab (List.take (Bl ((ha+1)+hf.1)-Bl (ha+1)) (List.drop (Bl (ha+1)) v)))]) (Hin:=[.blk hb [rS key] 9,.blk he [LE 4 (A3 Ab hh)] 28]) (Hr:=[.blk hq (AF hf.2.1) 86]) Tryz.call140 rfl rfl ((A0 (i:=1) rfl).trans (Vp _ ((A0 (i:=1) rfl).trans (Vp _ (Vo _))))) (OA hb he ((Ax v ha).fStr) (List.take (Bl ((ha+1)+hf.1)-Bl (ha+1)) (List.drop (Bl (ha+1)) v)) key hh hr hL) rfl ?_)))))))))))))))));rintro _ _ ⟨rfl,rfl⟩;refine wv (B1 rfl) (Al (cz hN rfl (λhO hP=>?_) (λhO hQ=>?_)))
    ·refine Aq (Ac (Ao (Ac (Ac (AN ?_)))));have hR:=Be hP hi hm;refine Ao ?_;obtain rfl:=Am hR;exact Ap (Mj LX) (sC (sC (sS sN))) ⟨rfl,rfl⟩
    ·refine Av (AG (Ak (wm rfl (wm rfl (wv (Bj rfl rfl hn) (wa rfl (Aj (A8 (AG (Ak (ck hQ λhS hT=>wv (Bj rfl rfl hS) (wm rfl (Aj ?_)))))))))))));have hU:=Bb hT hi;exact As (At (hp,((ha+1)+hf.1,hj+1,hr.2),()) ⟨hU,Vv _⟩ (A4.c5 rfl rfl rfl rfl rfl A4.nil) (sC (sC (sS sN))))
   ·refine Av (AG (Ah (wm rfl (wm rfl (ck h6 λhV hW=>wv (r:=AE 4 (A3 Ab (List.drop (Bl ha) v))) (Dz B0 BI rfl rfl hV) (ob hW λhg hX hY=>Cs NJ (G9 F (List.drop (Bl ha) v) hg hX) rfl (wm rfl (wv (A7 rfl rfl) (wv (A7 rfl rfl) (wv (A7 rfl rfl) (Ca (cs:=[Ai 0,Ai 0,rB false,rB false]) LV rfl rfl (λhs=>?_))))))))))));refine wa rfl (Ba (i:=0) E9 rfl rfl rfl (BC.c rfl) rfl rfl (cs':=[Ai hg.2.1.fDepth,Ai hg.2.1.fBytes,rB hg.2.1.fOutside,rB hg.2.1.fLong]) rfl (H':=[.blk hs (AF hg.2.1) 86,.blk hb [rS key] 9,.blk he [LE 4 (A3 Ab hh)] 28]) rfl (wa rfl (Al (An (Ah (wm rfl (wm rfl (wm rfl (wm rfl (wm rfl (wm rfl (ck hY λho hZ=>wv (Bj rfl rfl ho) (wm rfl (wm rfl (wv (Bj rfl rfl ho) (ck hZ λga gb=>ck gb λgc gd=>wv (r:=AE 4 (A3 Ab (List.take (Bl (ha+hg.1)-Bl ha) (List.drop (Bl ha) v)))) (DL B0 BI rfl rfl rfl rfl ga gc) (ob gd λht ge gf=>C2 (rs:=[rS ([]:Ar),AE 4 (A3 Ab (List.take (Bl (ha+hg.1)-Bl ha) (List.drop (Bl ha) v)))]) (Hin:=[.blk hb [rS key] 9,.blk he [LE 4 (A3 Ab hh)] 28]) (Hr:=[.blk hs (AF hg.2.1) 86]) Tryz.call140 rfl rfl ((A0 (i:=1) rfl).trans (Vp _ ((A0 (i:=1) rfl).trans (Vp _ (Vo _))))) (OA hb he ([]:Ar) (List.take (Bl (ha+hg.1)-Bl ha) (List.drop (Bl ha) v)) key hh ht ge) rfl ?_)))))))))))))))));rintro _ _ ⟨rfl,rfl⟩;refine wv (B1 rfl) (Al (cz gf rfl (λgg gh=>?_) (λgg gi=>?_)))
    ·refine Aq (Ac (Ao (Ac (Ac (AN ?_)))));have gj:=Be gh hi hm;refine Ao ?_;obtain rfl:=Am gj;exact Ap (Mj LX) (sC (sC (sS sN))) ⟨rfl,rfl⟩
    ·refine Av (AG (Ak (wm rfl (wm rfl (wv (Bj rfl rfl ho) (wa rfl (Aj (A8 (AG (Ak (ck gi λgl gm=>wv (Bj rfl rfl gl) (wm rfl (Aj ?_)))))))))))));have gp:=Bb gm hi;exact As (At (hp,(ha+hg.1,hj+1,ht.2),()) ⟨gp,Vv _⟩ (A4.c5 rfl rfl rfl rfl rfl A4.nil) (sC (sC (sS sN))))
  ·refine Bq (Ay ?_);have gq:=BD h3 hi hm;exact Ay (AS (At (hh,()) gq A4.nil (sC (sC sN))))
 ·rintro⟨hu,⟨⟩⟩ hl;refine Cj (l':=[]) (H':=[.blk hb [rS key] 9,.blk he [LE 4 (A3 Ab hu)] 28]) rfl rfl ?_;replace hl:I0 hu=some r:=hl;unfold I0 at hl;refine AV ?_;obtain rfl:=Am hl;exact DK (Mj LX) (sC (sC sN)) ⟨rfl,rfl⟩
theorem Tg (F:Nat)(v:(List Aa))(key:Ar)(r:(List Aa)×Int)(h:Qz F v key=some r):Fn Tryz.prog GE 107 [AE 4 (A3 Ab v),rS key] [] (λR H=>R=CV [AE 4 (A3 Ab r.1),Ai r.2]∧H=[]):=by
 refine enter (n:=24) Tryz.func107 rfl Tryz.ntmps107 rfl (λw Z=>?_);unfold Qz at h;refine Ah (JG rfl (B3 rfl) rfl (λb1=>?_));refine wa rfl (wa rfl (Al (An (Ah (wm rfl (ob h λr2 e4 h3=>Cs Lu (Dm F v r2 e4) rfl (wa rfl (AW (wm rfl (wv (Bf rfl rfl) (Al (cz h3 rfl (λc5 h6=>?_) (λc5 h7=>?_)))))))))))))
 ·refine Ah (wm rfl (wa rfl (wa rfl (Al (Aq (Ac (WK.up (d:=4) (r:=AE 4 (A3 Ab ([]:List Aa))) rfl (Up.le (DA.nil _)) ?_)))))));obtain rfl:=Am h6;exact Ap (D9 O3 (A9 rfl) (A9 rfl)) (sS sN) ⟨rfl,rfl⟩
 ·refine Av (AG (An (Ah (wm rfl (ck h7 λg8 h9=>wv (AT (enc:=Ab) (ys:=v) B0 BI rfl rfl g8) (wv (AR BA rfl Dw rfl rfl) (wv (AL DJ rfl rfl) (wv (Bf rfl rfl) (Al (cz h9 rfl (λhe hf=>?_) (λhe hg=>?_)))))))))))
  ·refine Ah (wa rfl (wa rfl (Al (Aq (Ac (WK.up (d:=4) (r:=AE 4 (A3 Ab ([]:List Aa))) rfl (Up.le (DA.nil _)) ?_))))));obtain rfl:=Am hf;exact Ap (D9 O3 (A9 rfl) (A9 rfl)) (sS sN) ⟨rfl,rfl⟩
  ·refine Av (AG (Ah (Ca (cs:=[rv (.slice none 0 0)]) LW rfl rfl (λhb=>?_))));refine AW (wm rfl (wv (r:=rv (.func (.func 140) #[] #[(.pointer (some ⟨b1,0,none⟩)),(.pointer (some ⟨hb,0,none⟩))])) (BB rfl) (WL.upBlk (i:=0) (cs':=[LE 4 (A3 Ab ([]:List Aa))]) rfl ⟨Up.le (DA.niln _),trivial⟩ (ob hg λha hh hi=>Dk (Hr:=[]) Tryz.call90 (RZ F b1 hb v key ([]:List Aa) ha hh) rfl ((A0 (i:=1) rfl).trans (Vp _ (Vo _))) rfl ?_))));rintro _ _ ⟨rfl,rfl⟩;refine Al (An (Ah (vL 1 C9 rfl (wv (r:=rB (List.isEmpty ha)) (NV B0 rfl) (Al (cz hi rfl (λhj hk=>?_) (λhj hl=>?_)))))))
   ·refine Ah (wa rfl (wa rfl (Al (Aq (Ac (WK.up (d:=4) (r:=AE 4 (A3 Ab ([]:List Aa))) rfl (Up.le (DA.nil _)) ?_))))));obtain rfl:=Am hk;exact Ap (D9 O3 (A9 rfl) (A9 rfl)) (sS (sS sN)) ⟨rfl,rfl⟩
   ·refine Av (AG (Ah (vL 1 C9 rfl (wa rfl (wa rfl (Al (Aq (WK.up (d:=4) (r:=AE 4 (A3 Ab ha)) rfl (Up.le DA.sn) ?_))))))));obtain rfl:=Am hl;exact Ap (D9 O3 (A9 rfl) (A9 rfl)) (sS (sS sN)) ⟨rfl,rfl⟩
theorem RW (F:Nat)(v:(List Aa))(path:(List Ar))(r:(List Aa)×Int)(h:MS F v path=some r):Fn Tryz.prog GE 77 [AE 4 (A3 Ab v),AE 1 (A3 eS path)] [] (λR H=>R=CV [AE 4 (A3 Ab r.1),Ai r.2]∧H=[]):=by
 refine enter (n:=37) Tryz.func77 rfl Tryz.ntmps77 rfl (λw Z=>?_);unfold MS at h;refine Ah (wa rfl (wa rfl (Al (An (Ah (wm rfl (ob h λr1 e3 h2=>Cs Lu (Dm F v r1 e3) rfl (wa rfl (AW (wm rfl (wv (Bf rfl rfl) (Al (cz h2 rfl (λc4 h5=>?_) (λc4 h6=>?_))))))))))))))
 ·refine Ah (wm rfl (wa rfl (wa rfl (Al (Aq (Ac (WK.up (d:=4) (r:=AE 4 (A3 Ab ([]:List Aa))) rfl (Up.le (DA.nil _)) ?_)))))));obtain rfl:=Am h5;exact Ap (D9 Tryz.results77 (A9 rfl) (A9 rfl)) sN ⟨rfl,rfl⟩
 ·refine Av (AG (Ah (wm rfl (ob h6 λr7 e9 h8=>Cs Tryz.call92 (Ll v r7 e9) rfl (wa rfl (Al (An (Ah (wm rfl (wv (AI (ys:=path) (enc:=eS) CQ rfl) (wv (r:=Ai 0) (A5 rfl) (Al (AA (ob h8 λhk hl hh=>Bg (S:=Nat×((List Aa)×Int)×(Unit)) (V:=((List Aa))×(Unit)) 0 (λσ=>BW (λσ=>DB F path σ.1 σ.2) σ.1 σ.2.1=some hk) (λσ=>[(4,rv (.slice none 0 0)),(5,Ai 0),(7,AE 4 (A3 Ab σ.2.1.1)),(19,AE 1 (A3 eS path)),(20,Ai (path.length:Int)),(21,Ai σ.2.1.2)]) (λσ=>[]) (λσ=>σ.1) (F,(r7,0),()) hl (A4.c rfl (A4.c5 rfl rfl rfl rfl rfl A4.nil)) sN (λσ=>Hn σ.1=some r) (λσ=>[(4,rv (.slice none 0 0)),(5,Ai 0),(7,AE 4 (A3 Ab σ.1))]) (λσ=>[]) ?_ ?_))))))))))))))
  ·rintro⟨h9,⟨ha,hb⟩,⟨⟩⟩ hm;refine B2 (l':=[(4,rv (.slice none 0 0)),(5,Ai 0),(7,AE 4 (A3 Ab ha)),(19,AE 1 (A3 eS path)),(20,Ai (path.length:Int)),(21,Ai hb)]) (H':=[]) rfl rfl ?_;obtain⟨hn,rfl,ho,he,hg⟩:=Cf hm;replace he:DB F path ha hb=some ho:=he;unfold DB at he;refine Ah (wv (Cr rfl rfl) (Al (An (cz he rfl (λhp hq=>?_) (λhp hr=>?_)))))
   ·refine Av (AG (An (AA (Ah (ck hq λhs ht=>wv (AT (enc:=eS) (ys:=path) CQ CB rfl rfl hs) (wv (AL CO rfl rfl) (wa rfl (AW (wm rfl (wm rfl (ob ht λhi hu hw=>Cs Tryz.call107 (Tg F ha (Ax path hb) hi hu) rfl (wm rfl (wv (A7 rfl rfl) (wv (A7 rfl rfl) (wa rfl (wa rfl (Al (An (Ah (wm rfl (wv (Bf rfl rfl) ?_)))))))))))))))))))));refine Al (cz hw rfl (λhx hy=>?_) (λhx hz=>?_))
    ·refine Ah (wm rfl (wa rfl (wa rfl (Al (Aq (Ac (Ao (Ac (Ac (AN ?_))))))))));have h0:=Be hy hg hh;refine Ao (Ac (WK.up (d:=4) (r:=AE 4 (A3 Ab ([]:List Aa))) rfl (Up.le (DA.nil _)) ?_));obtain rfl:=Am h0;exact Ap (D9 Tryz.results77 (A9 rfl) (A9 rfl)) sN ⟨rfl,rfl⟩
    ·refine Av (AG (Ak (wm rfl (wa rfl (Aj (A8 (AG (Ak (ck hz λh1 h3=>wv (Bj rfl rfl h1) (wm rfl (Aj ?_)))))))))));have h4:=Bb h3 hg;exact As (At (hn,(hi.1,hb+1),()) ⟨h4,Vv _⟩ (A4.c rfl (A4.c5 rfl rfl rfl rfl rfl A4.nil)) sN)
   ·refine Bq (Ay ?_);have h7:=BD hr hg hh;exact Ay (AS (At (ha,()) h7 (A4.c rfl (A4.c rfl (A4.c rfl A4.nil))) sN))
  ·rintro⟨hj,⟨⟩⟩ hf;refine Cj (l':=[(4,rv (.slice none 0 0)),(5,Ai 0),(7,AE 4 (A3 Ab hj))]) (H':=[]) rfl rfl ?_;replace hf:Hn hj=some r:=hf;unfold Hn at hf;refine AV (AG (Ah (wm rfl (wa rfl (wa rfl (Al (Aq ?_)))))));obtain rfl:=Am hf;exact Ap (D9 Tryz.results77 (A9 rfl) (A9 rfl)) sN ⟨rfl,rfl⟩
end Go.Proofs.YtghdglcmblpbeaaGreatDoor.Q
namespace Go.Proofs.YtghdglcmblpbeaaGreatDoor
open Go
set_option linter.unusedVariables false
structure Af where
 fPath:(List Ar)
 fOp:Int
 fValues:(List (List Aa))
 fText:Ar
 fLow:Int
 fHigh:Int
 deriving DecidableEq,Inhabited
structure Un where
 fID:Ar
 fTenant:Ar
 fSource:Ar
 fKey:Ar
 fAt:Int
 fCause:Ar
 fBody:(List Aa)
 deriving DecidableEq,Inhabited
def EC (ys:(List Ar))(x:Ar)(ha:Int):Option (Stp (Int) (Out (Int) (Unit))):=
 AP (decide (ha<(ys.length:Int))) (AQ (Co ha (ys.length:Int))<|AP (decide (x=(Ax ys ha))) (some (.out (.ret ha))) (AQ (BM .i64 (ha+1))<|some (.next (ha+1)))) (some (.out (.go ())))
def EB :Option (Int):=
 some (-1)
def KE (F:Nat)(ys:(List Ar))(x:Ar):Option (Int):=
 Bd (BW (λσ=>EC ys x σ) F 0) (BV λν=>EB )
def EF (a:(List Ar))(b:(List Ar))(ha:Int):Option (Stp (Int) (Out (Bool) (Unit))):=
 AP (decide (ha<(a.length:Int))) (AQ (Co ha (a.length:Int))<|AQ (Co ha (b.length:Int))<|AP (!decide ((Ax a ha)=(Ax b ha))) (some (.out (.ret false))) (AQ (BM .i64 (ha+1))<|some (.next (ha+1)))) (some (.out (.go ())))
def EE :Option (Bool):=
 some true
def E1 (F:Nat)(a:(List Ar))(b:(List Ar)):Option (Bool):=
 AP (!decide ((a.length:Int)=(b.length:Int))) (some false) (Bd (BW (λσ=>EF a b σ) F 0) (BV λν=>EE ))
def Mv :Option ((List Ar)):=
 some ([([]:Ar),([101,120,105,115,116,115]:Ar),([109,105,115,115,105,110,103]:Ar),([101,113,117,97,108,115]:Ar),([111,116,104,101,114]:Ar),([112,114,101,102,105,120]:Ar),([114,97,110,103,101]:Ar)]:List Ar)
def Ek (op:Int):Option (Bool):=
 some ((decide (op=3))||(decide (op=4)))
def BU (ha:Bool):Option (Int):=
 AP (ha) (some 1) (some 0)
def DN (F:Nat)(f:Af)(ha:Int):Option (Stp (Int) (Out (Int) (Unit))):=
 AP (decide (ha<(f.fValues.length:Int))) (AQ (Co ha (f.fValues.length:Int))<|Bd (CL F (Ax f.fValues ha)) λhb=>AP (!decide (hb=0)) (some (.out (.ret hb))) (AQ (BM .i64 (ha+1))<|some (.next (ha+1)))) (some (.out (.go ())))
def Gu (f:Af):Option (Int):=
 Bd (Ek f.fOp) λha=>AP (!ha) (AP (decide (0<(f.fValues.length:Int))) (BU true) (AP (!decide (f.fOp=5)) (AP (!decide (f.fText=([]:Ar))) (BU true) (AP (!decide (f.fOp=6)) (AP (!decide (f.fLow=0)) (BU true) (BU (!decide (f.fHigh=0)))) (BU false))) (AP (!decide (f.fOp=6)) (AP (!decide (f.fLow=0)) (BU true) (BU (!decide (f.fHigh=0)))) (BU false)))) (AP (!decide (f.fOp=5)) (AP (!decide (f.fText=([]:Ar))) (BU true) (AP (!decide (f.fOp=6)) (AP (!decide (f.fLow=0)) (BU true) (BU (!decide (f.fHigh=0)))) (BU false))) (AP (!decide (f.fOp=6)) (AP (!decide (f.fLow=0)) (BU true) (BU (!decide (f.fHigh=0)))) (BU false)))
def BT (ha:Bool):Option (Int):=
 AP (ha) (some 1) (some 0)
def Gw (F:Nat)(f:Af)(ha:Int):Option (Stp (Int) (Out (Int) (Unit))):=
 AP (decide (ha<(f.fValues.length:Int))) (AQ (Co ha (f.fValues.length:Int))<|Bd (CL F (Ax f.fValues ha)) λhb=>AP (!decide (hb=0)) (some (.out (.ret hb))) (AQ (BM .i64 (ha+1))<|some (.next (ha+1)))) (some (.out (.go ())))
def Gt (f:Af):Option (Int):=
 Bd (Ek f.fOp) λha=>AP (!ha) (AP (decide (0<(f.fValues.length:Int))) (BT true) (AP (!decide (f.fOp=5)) (AP (!decide (f.fText=([]:Ar))) (BT true) (AP (!decide (f.fOp=6)) (AP (!decide (f.fLow=0)) (BT true) (BT (!decide (f.fHigh=0)))) (BT false))) (AP (!decide (f.fOp=6)) (AP (!decide (f.fLow=0)) (BT true) (BT (!decide (f.fHigh=0)))) (BT false)))) (AP (!decide (f.fOp=5)) (AP (!decide (f.fText=([]:Ar))) (BT true) (AP (!decide (f.fOp=6)) (AP (!decide (f.fLow=0)) (BT true) (BT (!decide (f.fHigh=0)))) (BT false))) (AP (!decide (f.fOp=6)) (AP (!decide (f.fLow=0)) (BT true) (BT (!decide (f.fHigh=0)))) (BT false)))
def BS (ha:Bool):Option (Int):=
 AP (ha) (some 1) (some 0)
def BR (ha:Bool):Option (Int):=
 AP (ha) (some 1) (some 0)
def BQ (ha:Bool):Option (Int):=
 AP (ha) (some 1) (some 0)
def DO (F:Nat)(f:Af)(ha:Int):Option (Stp (Int) (Out (Int) (Unit))):=
 AP (decide (ha<(f.fPath.length:Int))) (AQ (Co ha (f.fPath.length:Int))<|Bd (Mc F (Ax f.fPath ha)) λhb=>AP (!decide (hb.2=0)) (some (.out (.ret hb.2))) (AQ (BM .i64 (ha+1))<|some (.next (ha+1)))) (some (.out (.go ())))
def Gv (F:Nat)(f:Af):Option (Int):=
 AP (((decide (f.fOp<1))||(decide (6<f.fOp)))) (some 7) (AP (decide (f.fOp=3)) (AP (((decide ((f.fValues.length:Int)<1))||(decide (8<(f.fValues.length:Int))))) (some 3) (Bd (BW (λσ=>DN F f σ) F 0) (BV λν=>Gu f ))) (AP (decide (f.fOp=4)) (AP (((decide ((f.fValues.length:Int)<1))||(decide (8<(f.fValues.length:Int))))) (some 3) (Bd (BW (λσ=>Gw F f σ) F 0) (BV λν=>Gt f ))) (AP (decide (f.fOp=5)) (Bd (Mc F f.fText) λha=>AP (!decide (ha.2=0)) (some ha.2) (Bd (Ek f.fOp) λhb=>AP (!hb) (AP (decide (0<(f.fValues.length:Int))) (BS true) (AP (!decide (f.fOp=5)) (AP (!decide (f.fText=([]:Ar))) (BS true) (AP (!decide (f.fOp=6)) (AP (!decide (f.fLow=0)) (BS true) (BS (!decide (f.fHigh=0)))) (BS false))) (AP (!decide (f.fOp=6)) (AP (!decide (f.fLow=0)) (BS true) (BS (!decide (f.fHigh=0)))) (BS false)))) (AP (!decide (f.fOp=5)) (AP (!decide (f.fText=([]:Ar))) (BS true) (AP (!decide (f.fOp=6)) (AP (!decide (f.fLow=0)) (BS true) (BS (!decide (f.fHigh=0)))) (BS false))) (AP (!decide (f.fOp=6)) (AP (!decide (f.fLow=0)) (BS true) (BS (!decide (f.fHigh=0)))) (BS false))))) (AP (decide (f.fOp=6)) (AQ ((Bi f.fLow).isSome)<|AQ (imp (!(!(ov (Bi f.fLow)))) ((Bi f.fHigh).isSome))<|AP (((!(ov (Bi f.fLow)))||((!(ov (Bi f.fHigh)))||(decide (f.fHigh<f.fLow))))) (some 2) (Bd (Ek f.fOp) λhe=>AP (!he) (AP (decide (0<(f.fValues.length:Int))) (BR true) (AP (!decide (f.fOp=5)) (AP (!decide (f.fText=([]:Ar))) (BR true) (AP (!decide (f.fOp=6)) (AP (!decide (f.fLow=0)) (BR true) (BR (!decide (f.fHigh=0)))) (BR false))) (AP (!decide (f.fOp=6)) (AP (!decide (f.fLow=0)) (BR true) (BR (!decide (f.fHigh=0)))) (BR false)))) (AP (!decide (f.fOp=5)) (AP (!decide (f.fText=([]:Ar))) (BR true) (AP (!decide (f.fOp=6)) (AP (!decide (f.fLow=0)) (BR true) (BR (!decide (f.fHigh=0)))) (BR false))) (AP (!decide (f.fOp=6)) (AP (!decide (f.fLow=0)) (BR true) (BR (!decide (f.fHigh=0)))) (BR false))))) (Bd (Ek f.fOp) λhf=>AP (!hf) (AP (decide (0<(f.fValues.length:Int))) (BQ true) (AP (!decide (f.fOp=5)) (AP (!decide (f.fText=([]:Ar))) (BQ true) (AP (!decide (f.fOp=6)) (AP (!decide (f.fLow=0)) (BQ true) (BQ (!decide (f.fHigh=0)))) (BQ false))) (AP (!decide (f.fOp=6)) (AP (!decide (f.fLow=0)) (BQ true) (BQ (!decide (f.fHigh=0)))) (BQ false)))) (AP (!decide (f.fOp=5)) (AP (!decide (f.fText=([]:Ar))) (BQ true) (AP (!decide (f.fOp=6)) (AP (!decide (f.fLow=0)) (BQ true) (BQ (!decide (f.fHigh=0)))) (BQ false))) (AP (!decide (f.fOp=6)) (AP (!decide (f.fLow=0)) (BQ true) (BQ (!decide (f.fHigh=0)))) (BQ false))))))))
def C1 (F:Nat)(f:Af):Option (Int):=
 AP (decide (4<(f.fPath.length:Int))) (some 3) (Bd (BW (λσ=>DO F f σ) F 0) (BV λν=>Gv F f ))
def Kn (F:Nat)(x:(List Aa))(v:(List Aa)):Option (Bool):=
 Bd (L8 F x v) λr1=>some r1
def HI (F:Nat)(ys:(List (List Aa)))(v:(List Aa))(ha:Int):Option (Stp (Int) (Out (Int) (Unit))):=
 AP (decide (ha<(ys.length:Int))) (AQ (Co ha (ys.length:Int))<|Bd (Kn F (Ax ys ha) v) λhb=>AP (hb) (some (.out (.ret ha))) (AQ (BM .i64 (ha+1))<|some (.next (ha+1)))) (some (.out (.go ())))
def Kl :Option (Int):=
 some (-1)
def S5 (F:Nat)(ys:(List (List Aa)))(v:(List Aa)):Option (Int):=
 Bd (BW (λσ=>HI F ys v σ) F 0) (BV λν=>Kl )
def R6 (F:Nat)(ys:(List (List Aa)))(v:(List Aa)):Option (Bool):=
 Bd (S5 F ys v) λr1=>some (decide (0≤r1))
def GP (F:Nat)(l:(List (List Aa)))(v:(List Aa)):Option (Bool):=
 Bd (R6 F l v) λr2=>some r2
def GO (v:(List Aa))(pre:Ar):Option (Bool):=
 AQ (Co 0 (v.length:Int))<|AQ (imp (decide (((Ax v 0).fKind)=4)) ((CG ((Ax v 0).fStr) pre).isSome))<|some ((decide (((Ax v 0).fKind)=4))&&(ov (CG ((Ax v 0).fStr) pre)))
def GL (v:(List Aa))(low:Int)(high:Int):Option (Bool):=
 AQ (Co 0 (v.length:Int))<|some ((decide (((Ax v 0).fKind)=3))&&((decide (low≤((Ax v 0).fInt)))&&(decide (((Ax v 0).fInt)≤high))))
def JP (F:Nat)(f:Af)(v:(List Aa)):Option (Bool):=
 Bd (MS F v f.fPath) λr2=>AP (!decide (r2.2=0)) (some (decide (f.fOp=2))) (AP (decide (f.fOp=1)) (some true) (AP (decide (f.fOp=3)) (Bd (GP F f.fValues r2.1) λha=>some (ha ==(decide (f.fOp=3)))) (AP (decide (f.fOp=4)) (Bd (GP F f.fValues r2.1) λhb=>some (hb ==(decide (f.fOp=3)))) (AP (decide (f.fOp=5)) (Bd (GO r2.1 f.fText) λhe=>some he) (AP (decide (f.fOp=6)) (Bd (GL r2.1 f.fLow f.fHigh) λhf=>some hf) (some false))))))
def Og (F:Nat)(f:Af)(v:(List Aa)):Option (Bool):=
 AQ ((C1 F f).isSome)<|AQ (imp (decide ((ov (C1 F f))=0)) ((CL F v).isSome))<|AQ (imp (decide ((ov (C1 F f))=0)) (imp (decide ((ov (CL F v))=0)) ((JP F f v).isSome)))<|some ((decide ((ov (C1 F f))=0))&&((decide ((ov (CL F v))=0))&&(ov (JP F f v))))
def Km (F:Nat)(f:Af)(v:(List Aa)):Option (Bool):=
 Bd (Og F f v) λr2=>some (!r2)
def Jr (F:Nat)(ys:(List Af))(v:(List Aa))(ha:Int):Option (Stp (Int) (Out (Int) (Unit))):=
 AP (decide (ha<(ys.length:Int))) (AQ (Co ha (ys.length:Int))<|Bd (Km F (Ax ys ha) v) λhb=>AP (hb) (some (.out (.ret ha))) (AQ (BM .i64 (ha+1))<|some (.next (ha+1)))) (some (.out (.go ())))
def Ms :Option (Int):=
 some (-1)
def US (F:Nat)(ys:(List Af))(v:(List Aa)):Option (Int):=
 Bd (BW (λσ=>Jr F ys v σ) F 0) (BV λν=>Ms )
def UH (F:Nat)(ys:(List Af))(v:(List Aa)):Option (Bool):=
 Bd (US F ys v) λr1=>some (decide (0≤r1))
def DM (ha:Bool):Option (Bool):=
 some ha
def Br (F:Nat)(l:(List Af))(v:(List Aa)):Option (Bool):=
 AP (decide ((l.length:Int)≤32)) (Bd (CL F v) λha=>AP (decide (ha=0)) (Bd (UH F l v) λhb=>DM (!hb)) (DM false)) (DM false)
def TL (F:Nat)(v:(List Aa))(a:Af):Option (Bool):=
 Bd (GP F a.fValues v) λr1=>some (!r1)
def IM (F:Nat)(ys:(List (List Aa)))(a:Af)(ha:Int):Option (Stp (Int) (Out (Int) (Unit))):=
 AP (decide (ha<(ys.length:Int))) (AQ (Co ha (ys.length:Int))<|Bd (TL F (Ax ys ha) a) λhb=>AP (hb) (some (.out (.ret ha))) (AQ (BM .i64 (ha+1))<|some (.next (ha+1)))) (some (.out (.go ())))
def IL :Option (Int):=
 some (-1)
def Ra (F:Nat)(ys:(List (List Aa)))(a:Af):Option (Int):=
 Bd (BW (λσ=>IM F ys a σ) F 0) (BV λν=>IL )
def R5 (F:Nat)(ys:(List (List Aa)))(a:Af):Option (Bool):=
 Bd (Ra F ys a) λr1=>some (decide (0≤r1))
def Ok (F:Nat)(f:Af)(a:Af):Option (Bool):=
 Bd (R5 F f.fValues a) λr2=>some (!r2)
def TJ (F:Nat)(v:(List Aa))(b:Af):Option (Bool):=
 Bd (GP F b.fValues v) λr1=>some r1
def IK (F:Nat)(ys:(List (List Aa)))(b:Af)(ha:Int):Option (Stp (Int) (Out (Int) (Unit))):=
 AP (decide (ha<(ys.length:Int))) (AQ (Co ha (ys.length:Int))<|Bd (TJ F (Ax ys ha) b) λhb=>AP (hb) (some (.out (.ret ha))) (AQ (BM .i64 (ha+1))<|some (.next (ha+1)))) (some (.out (.go ())))
def IJ :Option (Int):=
 some (-1)
def QZ (F:Nat)(ys:(List (List Aa)))(b:Af):Option (Int):=
 Bd (BW (λσ=>IK F ys b σ) F 0) (BV λν=>IJ )
def R4 (F:Nat)(ys:(List (List Aa)))(b:Af):Option (Bool):=
 Bd (QZ F ys b) λr1=>some (decide (0≤r1))
def Oj (F:Nat)(f:Af)(b:Af):Option (Bool):=
 Bd (R4 F f.fValues b) λr2=>some (!r2)
def TH (v:(List Aa))(a:Af):Option (Bool):=
 Bd (GO v a.fText) λr1=>some r1
def II (ys:(List (List Aa)))(a:Af)(ha:Int):Option (Stp (Int) (Out (Int) (Unit))):=
 AP (decide (ha<(ys.length:Int))) (AQ (Co ha (ys.length:Int))<|Bd (TH (Ax ys ha) a) λhb=>AP (hb) (some (.out (.ret ha))) (AQ (BM .i64 (ha+1))<|some (.next (ha+1)))) (some (.out (.go ())))
def IH :Option (Int):=
 some (-1)
def QY (F:Nat)(ys:(List (List Aa)))(a:Af):Option (Int):=
 Bd (BW (λσ=>II ys a σ) F 0) (BV λν=>IH )
def R3 (F:Nat)(ys:(List (List Aa)))(a:Af):Option (Bool):=
 Bd (QY F ys a) λr1=>some (decide (0≤r1))
def Oi (F:Nat)(f:Af)(a:Af):Option (Bool):=
 Bd (R3 F f.fValues a) λr2=>some (!r2)
def TF (v:(List Aa))(a:Af):Option (Bool):=
 Bd (GL v a.fLow a.fHigh) λr1=>some r1
def IG (ys:(List (List Aa)))(a:Af)(ha:Int):Option (Stp (Int) (Out (Int) (Unit))):=
 AP (decide (ha<(ys.length:Int))) (AQ (Co ha (ys.length:Int))<|Bd (TF (Ax ys ha) a) λhb=>AP (hb) (some (.out (.ret ha))) (AQ (BM .i64 (ha+1))<|some (.next (ha+1)))) (some (.out (.go ())))
def IF :Option (Int):=
 some (-1)
def QX (F:Nat)(ys:(List (List Aa)))(a:Af):Option (Int):=
 Bd (BW (λσ=>IG ys a σ) F 0) (BV λν=>IF )
def R2 (F:Nat)(ys:(List (List Aa)))(a:Af):Option (Bool):=
 Bd (QX F ys a) λr1=>some (decide (0≤r1))
def Oh (F:Nat)(f:Af)(a:Af):Option (Bool):=
 Bd (R2 F f.fValues a) λr2=>some (!r2)
def Jw (F:Nat)(a:Af)(b:Af):Option (Bool):=
 AP (decide (a.fOp=4)) (Bd (Ok F b a) λr5=>some r5) (AP (decide (a.fOp=3)) (Bd (Oj F a b) λha=>some ha) (AP (decide (a.fOp=5)) (Bd (Oi F b a) λhb=>some hb) (AP (decide (a.fOp=6)) (Bd (Oh F b a) λhe=>some he) (some false))))
def TD (F:Nat)(v:(List Aa))(b:Af):Option (Bool):=
 Bd (GP F b.fValues v) λr1=>some r1
def TR (F:Nat)(v:(List Aa))(b:Af):Option (Bool):=
 Bd (TD F v b) λr1=>some (!r1)
def IS (F:Nat)(ys:(List (List Aa)))(b:Af)(ha:Int):Option (Stp (Int) (Out (Int) (Unit))):=
 AP (decide (ha<(ys.length:Int))) (AQ (Co ha (ys.length:Int))<|Bd (TR F (Ax ys ha) b) λhb=>AP (hb) (some (.out (.ret ha))) (AQ (BM .i64 (ha+1))<|some (.next (ha+1)))) (some (.out (.go ())))
def IR :Option (Int):=
 some (-1)
def Rd (F:Nat)(ys:(List (List Aa)))(b:Af):Option (Int):=
 Bd (BW (λσ=>IS F ys b σ) F 0) (BV λν=>IR )
def R9 (F:Nat)(ys:(List (List Aa)))(b:Af):Option (Bool):=
 Bd (Rd F ys b) λr1=>some (decide (0≤r1))
def H5 (ha:Bool):Option (Bool):=
 some ha
def Rs (F:Nat)(f:Af)(b:Af):Option (Bool):=
 AP (decide (f.fOp=3)) (Bd (R9 F f.fValues b) λha=>H5 (!ha)) (H5 false)
def TB (v:(List Aa))(b:Af):Option (Bool):=
 Bd (GO v b.fText) λr1=>some r1
def TP (v:(List Aa))(b:Af):Option (Bool):=
 Bd (TB v b) λr1=>some (!r1)
def IQ (ys:(List (List Aa)))(b:Af)(ha:Int):Option (Stp (Int) (Out (Int) (Unit))):=
 AP (decide (ha<(ys.length:Int))) (AQ (Co ha (ys.length:Int))<|Bd (TP (Ax ys ha) b) λhb=>AP (hb) (some (.out (.ret ha))) (AQ (BM .i64 (ha+1))<|some (.next (ha+1)))) (some (.out (.go ())))
def IP :Option (Int):=
 some (-1)
def Rc (F:Nat)(ys:(List (List Aa)))(b:Af):Option (Int):=
 Bd (BW (λσ=>IQ ys b σ) F 0) (BV λν=>IP )
def R8 (F:Nat)(ys:(List (List Aa)))(b:Af):Option (Bool):=
 Bd (Rc F ys b) λr1=>some (decide (0≤r1))
def H4 (ha:Bool):Option (Bool):=
 some ha
def OR (F:Nat)(f:Af)(b:Af):Option (Bool):=
 AP (decide (f.fOp=3)) (Bd (R8 F f.fValues b) λha=>H4 (!ha)) (H4 false)
def T9 (v:(List Aa))(b:Af):Option (Bool):=
 Bd (GL v b.fLow b.fHigh) λr1=>some r1
def TN (v:(List Aa))(b:Af):Option (Bool):=
 Bd (T9 v b) λr1=>some (!r1)
def IO (ys:(List (List Aa)))(b:Af)(ha:Int):Option (Stp (Int) (Out (Int) (Unit))):=
 AP (decide (ha<(ys.length:Int))) (AQ (Co ha (ys.length:Int))<|Bd (TN (Ax ys ha) b) λhb=>AP (hb) (some (.out (.ret ha))) (AQ (BM .i64 (ha+1))<|some (.next (ha+1)))) (some (.out (.go ())))
def IN :Option (Int):=
 some (-1)
def Rb (F:Nat)(ys:(List (List Aa)))(b:Af):Option (Int):=
 Bd (BW (λσ=>IO ys b σ) F 0) (BV λν=>IN )
def R7 (F:Nat)(ys:(List (List Aa)))(b:Af):Option (Bool):=
 Bd (Rb F ys b) λr1=>some (decide (0≤r1))
def H3 (ha:Bool):Option (Bool):=
 some ha
def N3 (F:Nat)(f:Af)(b:Af):Option (Bool):=
 AP (decide (f.fOp=3)) (Bd (R7 F f.fValues b) λha=>H3 (!ha)) (H3 false)
def D3 (ha:Bool):Option (Bool):=
 some ha
def Dd (ha:Bool):Option (Bool):=
 some ha
def Le (F:Nat)(a:Af)(b:Af):Option (Bool):=
 AP (decide (b.fOp=1)) (some (!decide (a.fOp=2))) (AP (decide (b.fOp=2)) (some (decide (a.fOp=2))) (AP (decide (b.fOp=3)) (Bd (Rs F a b) λha=>some ha) (AP (decide (b.fOp=4)) (Bd (Jw F a b) λhb=>some hb) (AP (decide (b.fOp=5)) (AP (decide (a.fOp=5)) (Bd (CG a.fText b.fText) λhe=>AP (he) (D3 true) (Bd (OR F a b) λhf=>D3 hf)) (Bd (OR F a b) λhg=>D3 hg)) (AP (decide (a.fOp=6)) (AP (decide (b.fLow≤a.fLow)) (AP (decide (a.fHigh≤b.fHigh)) (Dd true) (Bd (N3 F a b) λhh=>Dd hh)) (Bd (N3 F a b) λhi=>Dd hi)) (Bd (N3 F a b) λhj=>Dd hj))))))
def Ja (F:Nat)(long:(List Ar))(short:(List Ar)):Option (Bool):=
 AQ (imp (decide ((short.length:Int)<(long.length:Int))) (E8 (short.length:Int) (long.length:Int)))<|AQ (imp (decide ((short.length:Int)<(long.length:Int))) ((E1 F (List.take (Int.toNat (short.length:Int)) long) short).isSome))<|some ((decide ((short.length:Int)<(long.length:Int)))&&(ov (E1 F (List.take (Int.toNat (short.length:Int)) long) short)))
def IZ (F:Nat)(a:Af)(b:Af):Option (Bool):=
 AQ ((C1 F a).isSome)<|AQ (imp (!(!decide ((ov (C1 F a))=0))) ((C1 F b).isSome))<|AP (((!decide ((ov (C1 F a))=0))||(!decide ((ov (C1 F b))=0)))) (some false) (Bd (E1 F a.fPath b.fPath) λha=>AP (ha) (Bd (Le F a b) λhb=>some hb) (Bd (Ja F a.fPath b.fPath) λhe=>AP (he) (some ((decide (b.fOp=1))&&(!decide (a.fOp=2)))) (Bd (Ja F b.fPath a.fPath) λhf=>AP (hf) (some ((decide (a.fOp=2))&&(decide (b.fOp=2)))) (some false))))
end Go.Proofs.YtghdglcmblpbeaaGreatDoor
namespace Go.Proofs.YtghdglcmblpbeaaGreatDoor.Q
open Go Go.RowKit
set_option linter.unusedVariables false
set_option linter.unusedSimpArgs false
section
variable {P : Program} {n : Nat} {c : Cx} {opsA : Array Oper} {Q : Exit → Act → World → Prop} {l : Fr} {H : List Ent} {d : Nat} {ty : TypeId} {pos : String} {af : Array Edge}
end
section
variable {P : Program} {n : Nat} {c : Cx} {ops : Array Oper} {Q : Exit → Act → World → Prop} {rest : List Oper} {l : Fr} {H H' : List Ent} {d : Nat} {d' : Option Nat} {x y z3 : Operand} {ty t t' e : TypeId} {pos : String} {af : Array Edge} {g : Option (Nat × Bool)} {v u : Value} {r : Rp} {sz : Nat}
theorem NW {α:Type}{ys:List α}{enc:α→List Rp}{k':IntKind}{j:Int}(ht:P.underlying t=some (.slice e))(hz:∀w,(sizeOf e).run P w = .ok sz w)(h:ev l x=some (AE sz (ys.map enc)))(hj:ev l z3=some (rI k' j))(hg2:E8 j (ys.length:Int)=true) :
  Bm P n c l H { dst:=d',op:=.slice t x none (some z3) none,type:=ty,pos:=pos,after:=af,guard:=g } (AE sz ((ys.take j.toNat).map enc)):=λa w Z ha hw=>by
 obtain⟨A,cap,e1,hc1,hc2,hA,hc⟩:=ha.ev h;have h2:=(CC hg2).2;have hj0:0≤j:=(CC hg2).1;simp only[V0] at e1 hc1;have h3:j≤(cap:Int):=by omega
 refine⟨.slice (if cap=0 then A else A.map (·.add (0*sz))) j.toNat cap,⟨if cap=0 then A else A.map (·.add (0*sz)),cap,?_,?_,by omega,?_,λq cl hq=>?_⟩,by simp[execOp,e1,ha.eval hj,Instr.sliceAt,Instr.slice,run_underlying ht,Instr.sliceBounds,Bu (m:=cap) _ _ hj0 h3,hz]⟩
 ·congr 1
  simp;omega
 ·simp;omega
 ·intro hn
  split at hn
  ·have:=hA hn;omega
  ·have:=hA (by simpa using hn);omega
 ·rw[VR] at hq
  cases hq':(List.take j.toNat ys)[q]? with
  | none=>rw[hq'] at hq;cases hq
  | some yy=>
   rw[hq'] at hq;simp only[Option.map_some,Option.some.injEq] at hq;subst hq;rw[VN] at hq'
   split at hq'
   ·rename_i hlt
    obtain⟨hl,ad,rfl,hs,hcs⟩:=hc q (enc yy) (by simp[hq']);obtain⟨b,off,spot⟩:=ad;simp only at hs;subst hs;have hne : ¬ cap=0:=by omega
    refine⟨hl,⟨b,off+0*sz,none⟩,by simp[hne,Hk],rfl,λq' r' hr'=>?_⟩;obtain⟨u,hu,hp⟩:=hcs q' r' hr';refine⟨u,?_,hp⟩;have:off+0*sz+(q*sz+q')=off+(q*sz+q'):=by omega
    simp only;rw[this];exact hu
   ·cases hq'
end
end Go.Proofs.YtghdglcmblpbeaaGreatDoor.Q
namespace Go.Proofs.YtghdglcmblpbeaaGreatDoor
open Go
set_option linter.unusedVariables false
set_option linter.unusedSimpArgs false
section
variable {T S : Type}
def Su:List (Ar×T)→Ar→Option T
 | [],_=>none
 | p::r,k=>bif decide (p.1=k) then some p.2 else Su r k
def Tt (xs:List (Ar×T))(k:Ar):Bool:=(Su xs k).isSome
def U4 (k:Ar)(v:T):List (Ar×T)→List (Ar×T)
 | []=>[(k,v)]
 | p::r=>bif CE k p.1 then(k,v)::p::r else p::U4 k v r
def L2 (xs:List (Ar×T))(k:Ar)(v:T):List (Ar×T):=xs.map λp=>bif decide (p.1=k) then(k,v) else p
def U3 (xs:List (Ar×T))(k:Ar)(v:T):List (Ar×T):=bif Tt xs k then L2 xs k v else U4 k v xs
end
end Go.Proofs.YtghdglcmblpbeaaGreatDoor
namespace Go.Proofs.YtghdglcmblpbeaaGreatDoor.Q
open Go Go.RowKit
set_option linter.unusedVariables false
set_option linter.unusedSimpArgs false
theorem PD (s:ByteArray):MapKept.IsKey .string (.string s):=by simp[MapKept.IsKey]
theorem L7.keys {Z:Fz}:∀{f:List (List UInt8×Rp)} {es:List MapEntry},L7 Z f es→∀x∈es,MapKept.IsKey .string x.key
 | [],[],_,x,hx=>by cases hx
 | p::f,e::es,⟨⟨h1,h2⟩,h3⟩,x,hx=>by
  rcases List.mem_cons.1 hx with rfl | hx
  ·rw[h1];exact PD _
  ·exact L7.keys h3 x hx
theorem L7.at {Z:Fz}:∀{f:List (List UInt8×Rp)} {es:List MapEntry},L7 Z f es→f.length=es.length∧∀(j:Nat) (e:MapEntry),es[j]? =some e→∃k r,f[j]? =some (k,r)∧e.key = .string (B k)∧r.p Z e.val
 | [],[],_=>⟨rfl,λj e h=>by simp at h⟩
 | p::f,e::es,⟨⟨h1,h2⟩,h3⟩=>by
  obtain⟨hl,ha⟩:=L7.at h3;refine⟨by simp[hl],λj e' hj=>?_⟩
  cases j with
  | zero=>simp at hj;subst hj;exact⟨p.1,p.2,rfl,h1,h2⟩
  | succ j=>simp at hj;simpa using ha j e' hj
theorem L7.of {Z:Fz}:∀{f:List (List UInt8×Rp)} {es:List MapEntry},f.length=es.length→(∀(j:Nat) (e:MapEntry),es[j]? =some e→∃k r,f[j]? =some (k,r)∧e.key = .string (B k)∧r.p Z e.val)→L7 Z f es
 | [],[],_,_=>trivial
 | p::f,e::es,hl,h=>by
  obtain⟨k,r,h1,h2,h3⟩:=h 0 e rfl;simp at h1;subst h1;exact⟨⟨h2,h3⟩,L7.of (by simpa using hl) λj e' hj=>by simpa using h (j+1) e' (by simpa using hj)⟩
 | [],_::_,hl,_=>by simp at hl
 | _::_,[],hl,_=>by simp at hl
theorem L7.filter {Z:Fz}(q:MapEntry→Bool):∀{f:List (List UInt8×Rp)} {es:List MapEntry},L7 Z f es→∃g,L7 Z g (es.filter q)∧g.Sublist f
 | [],[],_=>⟨[],trivial,List.Sublist.refl _⟩
 | p::f,e::es,⟨h,h3⟩=>by
  obtain⟨g,hg,hs⟩:=L7.filter q h3
  cases hq:q e with
  | true=>exact⟨p::g,by rw[List.filter_cons_of_pos hq];exact⟨h,hg⟩,hs.cons_cons p⟩
  | false=>exact⟨g,by rw[List.filter_cons_of_neg (by simp[hq])];exact hg,hs.cons p⟩
theorem UK {a b:List UInt8}(h:B a=B b):a=b:=by
 have:=congrArg ByteArray.toList h
 rwa [DG,DG] at this
theorem Q2 {a b:List UInt8}(h:Value.string (B a) = .string (B b)):a=b:=UK (by cases h;rfl)
section
variable {P : Program} {n : Nat} {c : Cx} {ops : Array Oper} {Q : Exit → Act → World → Prop} {rest : List Oper} {l : Fr} {H : List Ent} {d : Nat} {d' : Option Nat} {ty t kt et rty : TypeId} {pos : String} {af : Array Edge} {g : Option (Nat × Bool)} {x y u : Operand} {K : Act → World → Prop} {cx : Code}
variable {T : Type} {enc : T → Rp} {xs : List (Ar × T)} {z : T} {k : Ar} {zv : Value} {i b : Nat}
theorem Ia.length {Z:Fz}{m:List (List UInt8×Rp)}{es:List MapEntry}{ck:Nat}(h:Ia Z m es ck):es.length=m.length:=by
 obtain⟨_,_,_,f,h4,h5⟩:=h;rw[← h5.at.1,h4.length_eq]
theorem QG {m f:List (Ar×Rp)}(h:f.Perm m)(k:Ar)(r:Rp):(L2 f k r).Perm (L2 m k r):=h.map _
theorem OI {T:Type}:∀{f:List (Ar×T)} {j:Nat} {k:Ar} {r0:T} (r:T),(f.map (·.1)).Nodup→f[j]? =some (k,r0)→L2 f k r=f.set j (k,r)
 | p::f,0,k,r0,r,hn,h=>by
  simp at h;subst h;rw[Wb,List.nodup_cons] at hn;have:L2 f k r=f:=by
   unfold L2;rw[List.map_congr_left (g:=id) (λq hq=>?_),List.map_id];have hne : ¬ q.1=k:=λe=>hn.1 (by rw[← e];exact List.mem_map.2 ⟨q,hq,rfl⟩);rw[Vy hne];rfl
  show(bif decide (k=k) then(k,r) else(k,r0))::L2 f k r=_;rw[V2 rfl,this];rfl
 | p::f,j+1,k,r0,r,hn,h=>by
  rw[Wb,List.nodup_cons] at hn;simp at h;have hne : ¬ p.1=k:=λe=>hn.1 (by rw[e];exact List.mem_map.2 ⟨(k,r0),V5 h,rfl⟩);show(bif decide (p.1=k) then(k,r) else p)::L2 f k r=_;rw[Vy hne,OI r hn.2 h];rfl
theorem P8 {T:Type}(m:List (Ar×T))(k:Ar)(r:T):(L2 m k r).map (·.1)=m.map (·.1):=by
 unfold L2;rw[List.map_map];refine List.map_congr_left λp _=>?_;simp only[Function.comp]
 by_cases h:p.1=k
 ·rw[V2 h];exact h.symm
 ·rw[Vy h];rfl
theorem P9 {T:Type}{m:List (Ar×T)}{k:Ar}{r:T}(h:Su m k=some r):Tt m k=true:=by unfold Tt;rw[h];rfl
theorem Ia.put {Z:Fz}{m:List (Ar×Rp)}{es:List MapEntry}{ck j:Nat}{e:MapEntry}{k:Ar}{r0 r:Rp}{v:Value}(h:Ia Z m es ck)(he:es[j]? =some e)(hk:e.key = .string (B k))(hm:Su m k=some r0)(hr:r.p Z v) :
  Ia Z (U3 m k r) (es.set j { e with key:=.string (B k),val:=v }) ck:=by
 obtain⟨h1,h2,h3,f,h4,h5⟩:=h;obtain⟨hl,ha⟩:=h5.at;have hjl:=(List.getElem?_eq_some_iff.1 he).1;unfold U3;rw[P9 hm,Vz];obtain⟨k',r',e1,e2,_⟩:=ha j e he;rw[hk] at e2;obtain rfl:=Q2 e2;have hfn:(f.map (·.1)).Nodup:=(h4.map (·.1)).nodup_iff.2 h1;refine⟨by rw[P8];exact h1,?_,?_,f.set j (k,r),?_,L7.of (by simp[hl]) λi x hx=>?_⟩
 ·rw[List.map_set];have:(es.map (·.born)).set j e.born=es.map (·.born):=by
   apply List.ext_getElem?;intro i;rw[List.getElem?_set]
   split
   ·rename_i hij;subst hij
    simp[hjl,List.getElem?_eq_some_iff.1 he |>.2]
   ·rfl
  show((es.map (·.born)).set j e.born).Nodup;rw[this];exact h2
 ·intro x hx;rcases List.mem_or_eq_of_mem_set hx with hx | rfl
  ·exact h3 x hx
  ·exact h3 e (V5 he)
 ·have:=QG h4 k r
  rwa [OI r hfn e1] at this
 ·rw[List.getElem?_set] at hx ⊢
  split at hx
  ·rename_i hij;subst hij
   cases hx
   exact⟨k,r,by rw[if_pos rfl,if_pos (by rw[hl];exact hjl)],rfl,hr⟩
  ·rename_i hij
   rw[Wa hij];exact ha i x hx
end
theorem AY.d1 {Z:Fz}{r0:Rp}{us:List Value}(h:AY Z [r0] us):∃y0,us=[y0]∧AY Z [r0] [y0]:=by
 match us,h.length with
 | [y0],_=>exact⟨_,rfl,h⟩
theorem AY.d2 {Z:Fz}{r0 r1:Rp}{us:List Value}(h:AY Z [r0,r1] us):∃y0 y1,us=[y0,y1]∧AY Z [r0,r1] [y0,y1]:=by
 match us,h.length with
 | [y0,y1],_=>exact⟨_,_,rfl,h⟩
section
variable {P : Program} {n : Nat} {c : Cx} {ops : Array Oper} {Q : Exit → Act → World → Prop} {rest : List Oper} {l : Fr} {H H' : List Ent} {d : Nat} {d' : Option Nat} {ty t e rty : TypeId} {pos : String} {af : Array Edge} {g : Option (Nat × Bool)} {x y u : Operand} {v : Value} {sz m : Nat}
end
end Go.Proofs.YtghdglcmblpbeaaGreatDoor.Q
namespace Go.Proofs.YtghdglcmblpbeaaGreatDoor
open Go
end Go.Proofs.YtghdglcmblpbeaaGreatDoor
namespace Go.Proofs.YtghdglcmblpbeaaGreatDoor.Q
open Go Go.RowKit
set_option linter.unusedVariables false
set_option linter.unusedSimpArgs false
section
variable {P : Program} {n : Nat} {c : Cx} {Q : Exit → Act → World → Prop} {l : Fr} {H : List Ent} {x rest' : Code} {K : Act → World → Prop}
end
section
variable {P : Program} {n : Nat} {c : Cx} {ops : Array Oper} {Q : Exit → Act → World → Prop} {rest : List Oper} {l : Fr} {H H' : List Ent} {d : Nat} {d' : Option Nat} {x y z3 z4 : Operand} {ty t t' e : TypeId} {pos : String} {af : Array Edge} {g : Option (Nat × Bool)} {v u : Value} {r : Rp} {sz : Nat}
end
structure Sx (U:Type) where
 deps:List Nat
 r:U→Rp
 dyn:Bool:=false
 old:List Nat:=[]
def Qa {U:Type}(sp:List (Sx U))(i:Nat):Sx U:=sp.getD i { deps:=[],r:=λ_=>rv undef }
def UN {U:Type}(sp:List (Sx U))(u:U):List Sp:=sp.map λs=>⟨s.deps,s.r u,0⟩
def ST {U:Type}:List (Sx U)→Prop
 | []=>True
 | s::r=>(s.dyn=false→∀u u',s.r u=s.r u')∧ST r
theorem ST.at {U:Type}:∀{sp:List (Sx U)},ST sp→∀{i:Nat} {s:Sx U},sp[i]? =some s→s.dyn=false→∀u u',s.r u=s.r u'
 | [],_,i,s,h=>by simp at h
 | x::sp,⟨h1,h2⟩,0,s,h=>by simp at h;subst h;exact h1
 | x::sp,⟨h1,h2⟩,i+1,s,h=>ST.at h2 (by simpa using h)
def I9 (lw:Fr):List Nat→Fr→Fr
 | [],l=>l
 | d::r,l=>match look lw d with
  | some q=>(d,q)::I9 lw r l
  | none=>I9 lw r l
section
variable (P : Program) (n : Nat) (c : Cx) (opsA : Array Oper) (Q : Exit → Act → World → Prop)
def Vj {U:Type}(l:Fr)(H:List Ent)(o:Oper)(r:U→Rp)(H1:U→List Ent):Prop:=
 ∀a w Z (K:Act→World→Prop),C8 n l a Z→St c H Z w→(∀u v w' Z',Fz.le Z Z'→(r u).p Z' v→St c (H1 u) Z' w'→K (a.put o.dst v) w')→
  Region.wanted o (yielded opsA a.tmps)=true∧o.wp P a w K Q
def SW {U:Type}(ops:List Oper)(sp:List (Sx U))(l0 lw:Fr)(i0:Nat)(H:List Ent)(H1:U→List Ent):Nat→List Oper→Prop
 | i,o::rest=>(if i=i0 then(∀u,Vj P n c opsA Q (I9 lw (Qa sp i).old (BP ops (UN sp u) (Qa sp i).deps l0)) H o (Qa sp i).r H1) else ∀u H,DF P n c opsA Q (I9 lw (Qa sp i).old (BP ops (UN sp u) (Qa sp i).deps l0)) H o ((Qa sp i).r u) H)∧SW ops sp l0 lw i0 H H1 (i+1) rest
 | _,[]=>True
end
section
variable {P : Program} {n : Nat} {c : Cx} {opsA : Array Oper} {Q : Exit → Act → World → Prop} {l l0 lw : Fr} {U : Type} {H : List Ent} {H1 : U → List Ent} {sp : List (Sx U)} {i0 : Nat}
theorem SW.at {ops:List Oper}:∀{k:Nat} {rest:List Oper},SW P n c opsA Q ops sp l0 lw i0 H H1 k rest→∀(t:Nat) o,rest[t]? =some o→
  (if k+t=i0 then(∀u,Vj P n c opsA Q (I9 lw (Qa sp (k+t)).old (BP ops (UN sp u) (Qa sp (k+t)).deps l0)) H o (Qa sp (k+t)).r H1) else ∀u H,DF P n c opsA Q (I9 lw (Qa sp (k+t)).old (BP ops (UN sp u) (Qa sp (k+t)).deps l0)) H o ((Qa sp (k+t)).r u) H)
 | k,o::rest,⟨h1,h2⟩,t,o',ht=>by
  cases t with
  | zero=>simp at ht;subst ht;exact h1
  | succ t=>
   have:=SW.at h2 t o' (by simpa using ht);rw[show k+(t+1)=k+1+t from by omega];exact this
 | _,[],_,t,o,h=>by simp at h
end
section
variable {P : Program} {n : Nat} {c : Cx} {opsA : Array Oper} {Q : Exit → Act → World → Prop} {l : Fr} {H : List Ent} {d : Nat} {x y : Operand} {ty t e : TypeId} {pos : String} {af : Array Edge} {v : Value} {sz : Nat}
end
abbrev Ux:=Nat→Nat→Value×Nat
def Ag (k:Nat)(u u':Ux):Prop:=∀j,j<k→u j=u' j
structure Sy where
 deps:List Nat
 r:Ux→Rp
 lv:Nat:=0
 fx:Bool:=false
 old:List Nat:=[]
def PZ (sp:List Sy)(i:Nat):Sy:=sp.getD i { deps:=[],r:=λ_=>rv undef }
def UY (sp:List Sy)(u:Ux):List Sp:=sp.map λs=>⟨s.deps,s.r u,0⟩
def Pb:List Sy→Prop
 | []=>True
 | s::r=>(∀u u',Ag s.lv u u'→s.r u=s.r u')∧Pb r
theorem Pb.at:∀{sp:List Sy},Pb sp→∀{i:Nat} {s:Sy},sp[i]? =some s→∀u u',Ag s.lv u u'→s.r u=s.r u'
 | [],_,i,s,h=>by simp at h
 | x::sp,⟨h1,h2⟩,0,s,h=>by simp at h;subst h;exact h1
 | x::sp,⟨h1,h2⟩,i+1,s,h=>Pb.at h2 (by simpa using h)
def cnt (S:Nat→Bool)(is:List Nat):Nat:=(is.filter S).length
section
variable (P : Program) (n : Nat) (c : Cx) (opsA : Array Oper) (Q : Exit → Act → World → Prop)
def Vl (l:Fr)(H:List Ent)(o:Oper)(k:Nat)(u:Ux)(r:Ux→Rp)(H1:Ux→List Ent):Prop:=
 ∀a w Z (K:Act→World→Prop),C8 n l a Z→St c H Z w→(∀u' v w' Z',Ag k u u'→Fz.le Z Z'→(r u').p Z' v→St c (H1 u') Z' w'→K (a.put o.dst v) w')→
  Region.wanted o (yielded opsA a.tmps)=true∧o.wp P a w K Q
def Vk (ops:List Oper)(sp:List Sy)(l0 lw:Fr)(is:List Nat)(hs:List (Ux→List Ent))(i:Nat)(o:Oper):Prop:=
 match is.findIdx? (λx=>Nat.beq x i) with
 | some k=>∀u,Vl P n c opsA Q (I9 lw (PZ sp i).old (BP ops (UY sp u) (PZ sp i).deps l0)) (hs.getD k (λ_=>[]) u) o k u (PZ sp i).r (hs.getD (k+1) (λ_=>[]))
 | none=>if (PZ sp i).fx=true then ∀u,DF P n c opsA Q (I9 lw (PZ sp i).old (BP ops (UY sp u) (PZ sp i).deps l0)) (hs.getD (PZ sp i).lv (λ_=>[]) u) o ((PZ sp i).r u) (hs.getD (PZ sp i).lv (λ_=>[]) u)
  else ∀u H,DF P n c opsA Q (I9 lw (PZ sp i).old (BP ops (UY sp u) (PZ sp i).deps l0)) H o ((PZ sp i).r u) H
def SV (ops:List Oper)(sp:List Sy)(l0 lw:Fr)(is:List Nat)(hs:List (Ux→List Ent)):Nat→List Oper→Prop
 | i,o::rest=>Vk P n c opsA Q ops sp l0 lw is hs i o∧SV ops sp l0 lw is hs (i+1) rest
 | _,[]=>True
end
section
variable {P : Program} {n : Nat} {c : Cx} {opsA : Array Oper} {Q : Exit → Act → World → Prop} {l l0 lw : Fr} {H : List Ent} {hs : List (Ux → List Ent)} {sp : List Sy} {is : List Nat}
theorem SV.at {ops:List Oper}:∀{k:Nat} {rest:List Oper},SV P n c opsA Q ops sp l0 lw is hs k rest→∀(t:Nat) o,rest[t]? =some o→Vk P n c opsA Q ops sp l0 lw is hs (k+t) o
 | k,o::rest,⟨h1,h2⟩,t,o',ht=>by
  cases t with
  | zero=>simp at ht;subst ht;exact h1
  | succ t=>
   have:=SV.at h2 t o' (by simpa using ht);rw[show k+(t+1)=k+1+t from by omega];exact this
 | _,[],_,t,o,h=>by simp at h
end
section
variable {P : Program} {n : Nat} {c : Cx} {opsA : Array Oper} {Q : Exit → Act → World → Prop} {l : Fr} {H : List Ent} {d : Nat} {x y : Operand} {ty t e : TypeId} {pos : String} {af : Array Edge} {v : Value} {sz : Nat}
end
set_option maxRecDepth 100000
set_option maxHeartbeats 4000000
@[reducible] def Ad (x:Af):List Rp:=[AE 1 (A3 eS x.fPath),Ai x.fOp,AE 1 (A3 Ae x.fValues),rS x.fText,Ai x.fLow,Ai x.fHigh]
theorem CN (x:Af):(Ad x).length=6:=rfl
theorem Dv (x:Af):(Ad x).all (·.one)=true:=rfl
theorem NQ (F:Nat)(ys:(List Ar))(x:Ar)(r:Int)(h:KE F ys x=some r):Fn Tryz.prog GE 57 [AE 1 (A3 eS ys),rS x] [] (λR H=>R=Ai r∧H=[]):=by
 refine enter (n:=19) Tryz.func57 rfl Tryz.ntmps57 rfl (λw Z=>?_);unfold KE at h;refine Ah (wa rfl (Al (An (Ah (wm rfl (wv (AI (ys:=ys) (enc:=eS) CQ rfl) (wv (r:=Ai 0) (A5 rfl) (Al (AA (ob h λhh hi hg=>Bg (S:=Nat×(Int)×(Unit)) (V:=(Unit)×(Unit)) 0 (λσ=>BW (λσ=>EC ys x σ) σ.1 σ.2.1=some hh) (λσ=>[(0,AE 1 (A3 eS ys)),(1,rS x),(7,Ai (ys.length:Int)),(8,Ai σ.2.1)]) (λσ=>[]) (λσ=>σ.1) (F,0,()) hi (A4.c rfl (A4.c rfl (A4.c rfl (A4.c rfl A4.nil)))) sN (λσ=>EB =some r) (λσ=>[]) (λσ=>[]) ?_ ?_))))))))))
 ·rintro⟨h0,he,⟨⟩⟩ hj;refine B2 (l':=[(0,AE 1 (A3 eS ys)),(1,rS x),(7,Ai (ys.length:Int)),(8,Ai he)]) (H':=[]) rfl rfl ?_;obtain⟨hk,rfl,hl,ha,hf⟩:=Cf hj;replace ha:EC ys x he=some hl:=ha;unfold EC at ha;refine Ah (wv (Cr rfl rfl) (Al (An (cz ha rfl (λhm hn=>?_) (λhm ho=>?_)))))
  ·refine Av (AG (An (AA (Ah (wm rfl (wa rfl (AW (wm rfl (wm rfl (wm rfl (ck hn λhp hq=>wv (AT (enc:=eS) (ys:=ys) CQ CB rfl rfl hp) (wv (AL CO rfl rfl) (wv (GZ rfl rfl) (Al (cz hq rfl (λhr hs=>?_) (λhr ht=>?_))))))))))))))))
   ·refine Ah (wm rfl (wa rfl (Al (Aq (Ao (Ac (Ac (AN ?_))))))));have hu:=Be hs hf hg;refine Ao (Ac ?_);obtain rfl:=Am hu;exact Ap (Bw Tryz.results57 (A9 rfl)) sN ⟨rfl,rfl⟩
   ·refine Av (A8 (AG (Ak (ck ht λhw hx=>wv (Bj rfl rfl hw) (wm rfl (Aj ?_))))));have hy:=Bb hx hf;exact As (At (hk,he+1,()) ⟨hy,Vv _⟩ (A4.c rfl (A4.c rfl (A4.c rfl (A4.c rfl A4.nil)))) sN)
  ·refine Bq (Ay ?_);have hz:=BD ho hf hg;exact Ay (AS (At ((),()) hz A4.nil sN))
 ·rintro⟨⟨⟩,⟨⟩⟩ hb;refine Cj (l':=[]) (H':=[]) rfl rfl ?_;replace hb:EB =some r:=hb;unfold EB at hb;refine AV (AG (Ah (wv (r:=Ai (-1)) (AD rfl) (Al (Aq ?_)))));obtain rfl:=Am hb;exact Ap (Bw Tryz.results57 (A9 rfl)) sN ⟨rfl,rfl⟩
theorem KF (F:Nat)(a:(List Ar))(b:(List Ar))(r:Bool)(h:E1 F a b=some r):Fn Tryz.prog GE 65 [AE 1 (A3 eS a),AE 1 (A3 eS b)] [] (λR H=>R=rB r∧H=[]):=by
 refine enter (n:=26) Tryz.func65 rfl Tryz.ntmps65 rfl (λw Z=>?_);unfold E1 at h;refine Ah (wa rfl (Al (An (Ah (wm rfl (wv (AI (ys:=a) (enc:=eS) CQ rfl) (wm rfl (wv (AI (ys:=b) (enc:=eS) CQ rfl) (wv (Bf rfl rfl) (Al (cz h rfl (λc1 h2=>?_) (λc1 h3=>?_))))))))))))
 ·refine Ah (wa rfl (Al (Aq (Ac ?_))));obtain rfl:=Am h2;exact Ap (Bw Tryz.results65 (A9 rfl)) sN ⟨rfl,rfl⟩
 ·refine Av (AG (An (Ah (wm rfl (wv (AI (ys:=a) (enc:=eS) CQ rfl) (wv (r:=Ai 0) (A5 rfl) (Al (AA (ob h3 λhh hi hg=>Bg (S:=Nat×(Int)×(Unit)) (V:=(Unit)×(Unit)) 0 (λσ=>BW (λσ=>EF a b σ) σ.1 σ.2.1=some hh) (λσ=>[(0,AE 1 (A3 eS a)),(1,AE 1 (A3 eS b)),(12,Ai (a.length:Int)),(13,Ai σ.2.1)]) (λσ=>[]) (λσ=>σ.1) (F,0,()) hi (A4.c rfl (A4.c rfl (A4.c rfl (A4.c rfl A4.nil)))) sN (λσ=>EE =some r) (λσ=>[]) (λσ=>[]) ?_ ?_)))))))))
  ·rintro⟨h4,ha,⟨⟩⟩ hj;refine B2 (l':=[(0,AE 1 (A3 eS a)),(1,AE 1 (A3 eS b)),(12,Ai (a.length:Int)),(13,Ai ha)]) (H':=[]) rfl rfl ?_;obtain⟨hk,rfl,hl,hb,hf⟩:=Cf hj;replace hb:EF a b ha=some hl:=hb;unfold EF at hb;refine Ah (wv (Cr rfl rfl) (Al (An (cz hb rfl (λhm hn=>?_) (λhm ho=>?_)))))
   ·refine Av (AG (An (AA (Ah (wm rfl (wa rfl (Al (An (ck hn λhp hq=>ck hq λhr hs=>Cy [0,1,5,12,13] [⟨[],AE 1 (A3 eS a),0⟩,⟨[],Ai ha,0⟩,⟨[0,1],Jd [rS (Ax a ha)],0⟩,⟨[2],rS (Ax a ha),0⟩,⟨[],AE 1 (A3 eS b),0⟩,⟨[],Ai ha,0⟩,⟨[4,5],Jd [rS (Ax b ha)],0⟩,⟨[6],rS (Ax b ha),0⟩,⟨[3,7],rB (!decide ((Ax a ha)=(Ax b ha))),0⟩] [24,0,1,12,13] ?_ ?_)))))))))
    ·refine oq (A5 rfl) (oq (A5 rfl) (oq (AT (enc:=eS) (ys:=a) CQ CB rfl rfl hp) (oq (AL CO rfl rfl) (oq (A5 rfl) (oq (A5 rfl) (oq (AT (enc:=eS) (ys:=b) CQ CB rfl rfl hr) (oq (AL CO rfl rfl) (oq (Eb rfl rfl) ?_))))))));exact Ce
    refine AG (cz hs rfl (λht hu=>?_) (λht hw=>?_))
    ·refine Ah (wa rfl (Al (Aq (Ao (Ac (Ac (AN ?_)))))));have hx:=Be hu hf hg;refine Ao (Ac ?_);obtain rfl:=Am hx;exact Ap (Bw Tryz.results65 (A9 rfl)) sN ⟨rfl,rfl⟩
    ·refine Av (A8 (AG (Ak (ck hw λhy hz=>wv (Bj rfl rfl hy) (wm rfl (Aj ?_))))));have h0:=Bb hz hf;exact As (At (hk,ha+1,()) ⟨h0,Vv _⟩ (A4.c rfl (A4.c rfl (A4.c rfl (A4.c rfl A4.nil)))) sN)
   ·refine Bq (Ay ?_);have h1:=BD ho hf hg;exact Ay (AS (At ((),()) h1 A4.nil sN))
  ·rintro⟨⟨⟩,⟨⟩⟩ he;refine Cj (l':=[]) (H':=[]) rfl rfl ?_;replace he:EE =some r:=he;unfold EE at he;refine AV (AG (Ah (wa rfl (Al (Aq ?_)))));obtain rfl:=Am he;exact Ap (Bw Tryz.results65 (A9 rfl)) sN ⟨rfl,rfl⟩
theorem N1  (r:(List Ar))(h:Mv=some r):Fn Tryz.prog GE 45 [] [] (λR H=>R=AE 1 (A3 eS r)∧H=[]):=by
 refine enter (n:=2) Tryz.func45 rfl Tryz.ntmps45 rfl (λw Z=>?_);unfold Mv at h;refine Ah (wa rfl (AW (AO (ys:=([([]:Ar),([101,120,105,115,116,115]:Ar),([109,105,115,115,105,110,103]:Ar),([101,113,117,97,108,115]:Ar),([111,116,104,101,114]:Ar),([112,114,101,102,105,120]:Ar),([114,97,110,103,101]:Ar)]:List Ar)) (enc:=eS) (css:=[[rS ([]:Ar)],[rS ([101,120,105,115,116,115]:Ar)],[rS ([109,105,115,115,105,110,103]:Ar)],[rS ([101,113,117,97,108,115]:Ar)],[rS ([111,116,104,101,114]:Ar)],[rS ([112,114,101,102,105,120]:Ar)],[rS ([114,97,110,103,101]:Ar)]]) (xs:=[.const (.string ⟨#[]⟩),.const (.string ⟨#[101,120,105,115,116,115]⟩),.const (.string ⟨#[109,105,115,115,105,110,103]⟩),.const (.string ⟨#[101,113,117,97,108,115]⟩),.const (.string ⟨#[111,116,104,101,114]⟩),.const (.string ⟨#[112,114,101,102,105,120]⟩),.const (.string ⟨#[114,97,110,103,101]⟩)]) CQ CB Uh rfl rfl rfl ⟨DW.one rfl (Up.refl _),DW.one rfl (Up.refl _),DW.one rfl (Up.refl _),DW.one rfl (Up.refl _),DW.one rfl (Up.refl _),DW.one rfl (Up.refl _),DW.one rfl (Up.refl _),trivial⟩ rfl H7 rfl rfl rfl (λb1=>?_))));refine wa rfl (Al (Aq (WK.freeze (i:=0) rfl (WK.up (d:=0) (r:=AE 1 (A3 eS ([([]:Ar),([101,120,105,115,116,115]:Ar),([109,105,115,115,105,110,103]:Ar),([101,113,117,97,108,115]:Ar),([111,116,104,101,114]:Ar),([112,114,101,102,105,120]:Ar),([114,97,110,103,101]:Ar)]:List Ar))) rfl (Up.fact (i:=0) rfl) ?_))));obtain rfl:=Am h;exact Ap (Bw Tryz.results45 (A9 rfl)) (sS sN) ⟨rfl,rfl⟩
theorem Gs (op:Int)(r:Bool)(h:Ek op=some r):Fn Tryz.prog GE 32 [Ai op] [] (λR H=>R=rB r∧H=[]):=by
 refine enter (n:=9) Tryz.func32 rfl Tryz.ntmps32 rfl (λw Z=>?_);unfold Ek at h;refine Ah (wa rfl (Al (AK [(2,rB ((decide (op=3))||(decide (op=4))))] [] ?_ ?_)))
 ·refine Ak (wm rfl (wv (Bz rfl rfl) (wm rfl (AU (decide (op=3)) (λc1=>?_) (λc1=>?_)))))
  ·refine wf c1 (wf c1 (wv (r:=rB true) (Az rfl c1 rfl) (wa rfl (Aj ?_))));exact Cp c1
  ·refine wo c1 (wm rfl (wo c1 (wv (Bz rfl rfl) (Cq rfl c1 rfl (wa rfl (Aj ?_))))));exact Cp c1
 refine Aq ?_;obtain rfl:=Am h;exact Ap (Bw Tryz.results32 (A9 rfl)) sN ⟨rfl,rfl⟩
theorem Hz (F:Nat)(f:Af)(r:Int)(h:C1 F f=some r):Fn Tryz.prog GE 13 [Bt (Ad f)] [] (λR H=>R=Ai r∧H=[]):=by
 refine enter (n:=133) Tryz.func13 rfl Tryz.ntmps13 rfl (λw Z=>?_);unfold C1 at h;refine Ah (By rfl rfl (λb1=>?_));refine wa rfl (Al (An (Ah (vF AM rfl Gd (vL 0 Hg rfl (wv (AI (ys:=f.fPath) (enc:=eS) CQ rfl) (wv (CX rfl rfl) (Al (cz h rfl (λc2 h3=>?_) (λc2 h4=>?_))))))))))
 ·refine Ah (wa rfl (Al (Aq (Ac ?_))));obtain rfl:=Am h3;exact Ap (Bw G1 (A9 rfl)) (sS sN) ⟨rfl,rfl⟩
 ·refine Av (AG (An (Ah (vF AM rfl Gd (vL 0 Hg rfl (wv (AI (ys:=f.fPath) (enc:=eS) CQ rfl) (wv (r:=Ai 0) (A5 rfl) (Al (AA (ob h4 λgK gL gB=>Bg (S:=Nat×(Int)×(Unit)) (V:=(Unit)×(Unit)) 0 (λσ=>BW (λσ=>DO F f σ) σ.1 σ.2.1=some gK) (λσ=>[(1,rP b1 0),(17,AE 1 (A3 eS f.fPath)),(18,Ai (f.fPath.length:Int)),(19,Ai σ.2.1)]) (λσ=>[.blk b1 (Ad f) 26]) (λσ=>σ.1) (F,0,()) gL (A4.c rfl (A4.c rfl (A4.c rfl (A4.c rfl A4.nil)))) (sC sN) (λσ=>Gv F f =some r) (λσ=>[(1,rP b1 0)]) (λσ=>[.blk b1 (Ad f) 26]) ?_ ?_))))))))))
  ·rintro⟨rl,gu,⟨⟩⟩ gM;refine B2 (l':=[(1,rP b1 0),(17,AE 1 (A3 eS f.fPath)),(18,Ai (f.fPath.length:Int)),(19,Ai gu)]) (H':=[.blk b1 (Ad f) 26]) rfl rfl ?_;obtain⟨gN,rfl,gO,gv,g8⟩:=Cf gM;replace gv:DO F f gu=some gO:=gv;unfold DO at gv;refine Ah (wv (Cr rfl rfl) (Al (An (cz gv rfl (λc53 gP=>?_) (λc53 gQ=>?_)))))
   ·refine Av (AG (An (AA (Ah (ck gP λgR gS=>wv (AT (enc:=eS) (ys:=f.fPath) CQ CB rfl rfl gR) (wv (AL CO rfl rfl) (wa rfl (AW (wm rfl (ob gS λgT gU gV=>Cs Qm (K4 F (Ax f.fPath gu) gT gU) rfl (wm rfl (wv (A7 rfl rfl) (wv (A7 rfl rfl) (wa rfl (wa rfl (AW (wm rfl (wv (Bf rfl rfl) (Al (cz gV rfl (λgW gX=>?_) (λgW gY=>?_)))))))))))))))))))))
    ·refine Ah (wm rfl (wa rfl (Al (Aq (Ao (Ac (Ac (AN ?_))))))));have gZ:=Be gX g8 gB;refine Ao (Ac ?_);obtain rfl:=Am gZ;exact Ap (Bw G1 (A9 rfl)) (sS sN) ⟨rfl,rfl⟩
    ·refine Av (A8 (AG (Ak (ck gY λca cb=>wv (Bj rfl rfl ca) (wm rfl (Aj ?_))))));have cc:=Bb cb g8;exact As (At (gN,gu+1,()) ⟨cc,Vv _⟩ (A4.c rfl (A4.c rfl (A4.c rfl (A4.c rfl A4.nil)))) (sC sN))
   ·refine Bq (Ay ?_);have cd:=BD gQ g8 gB;exact Ay (AS (At ((),()) cd (A4.c rfl A4.nil) (sC sN)))
  ·rintro⟨⟨⟩,⟨⟩⟩ gw;refine Cj (l':=[(1,rP b1 0)]) (H':=[.blk b1 (Ad f) 26]) rfl rfl ?_;replace gw:Gv F f =some r:=gw;unfold Gv at gw;refine AV (AG (An (AK [(1,rP b1 0),(39,rB ((decide (f.fOp<1))||(decide (6<f.fOp))))] [.blk b1 (Ad f) 26] ?_ ?_)))
   ·refine Ak (vF AM rfl BZ (vL 0 Cc rfl (wv (Cr rfl rfl) (wm rfl (AU (decide (f.fOp<1)) (λhI=>?_) (λhI=>?_))))))
    ·refine wf hI (wf hI (wf hI (wv (r:=rB true) (Az rfl hI rfl) (Aj ?_))));exact Cp hI
    ·refine wo hI (vF AM rfl BZ (wo hI (vL 0 Cc rfl (wo hI (wv (CX rfl rfl) (Cq rfl hI rfl (Aj ?_)))))));exact Cp hI
   refine cz gw rfl (λce cf=>?_) (λce cg=>?_)
   ·refine Ah (wa rfl (Al (Aq (Ac ?_))));obtain rfl:=Am cf;exact Ap (Bw G1 (A9 rfl)) (sS sN) ⟨rfl,rfl⟩
   ·refine Av (AG (An (Ah (vF AM rfl BZ (vL 0 Cc rfl (Al (AA (An (Ah (wv (Bz rfl rfl) (wa rfl (Al (cz cg rfl (λgC ch=>?_) (λgC ci=>?_))))))))))))))
    ·refine Av (AG (De rfl gC (An (AK [(1,rP b1 0),(54,rB ((decide ((f.fValues.length:Int)<1))||(decide (8<(f.fValues.length:Int)))))] [.blk b1 (Ad f) 26] ?_ ?_))))
     ·refine Ak (vF AM rfl CD (vL 0 CR rfl (wv (AI (ys:=f.fValues) (enc:=Ae) BN rfl) (wv (Cr rfl rfl) (wm rfl (AU (decide ((f.fValues.length:Int)<1)) (λc76=>?_) (λc76=>?_)))))))
      ·refine wf c76 (wf c76 (wf c76 (wf c76 (wv (r:=rB true) (Az rfl c76 rfl) (Aj ?_)))));exact Cp c76
      ·refine wo c76 (vF AM rfl CD (wo c76 (vL 0 CR rfl (wo c76 (wv (AI (ys:=f.fValues) (enc:=Ae) BN rfl) (wo c76 (wv (CX rfl rfl) (Cq rfl c76 rfl (Aj ?_)))))))));exact Cp c76
     refine cz ch rfl (λcj cl=>?_) (λcj cm=>?_)
     ·refine Ah (wa rfl (Al (Aq (Ac (Ao (Ac ?_))))));obtain rfl:=Am cl;exact Ap (Bw G1 (A9 rfl)) (sS sN) ⟨rfl,rfl⟩
     ·refine Av (AG (Ah (vF AM rfl CD (vL 0 CR rfl (wv (AI (ys:=f.fValues) (enc:=Ae) BN rfl) (wv (r:=Ai 0) (A5 rfl) (Al (AA (ob cm λcn co gD=>Bg (S:=Nat×(Int)×(Unit)) (V:=(Unit)×(Unit)) 3 (λσ=>BW (λσ=>DN F f σ) σ.1 σ.2.1=some cn) (λσ=>[(1,rP b1 0),(56,AE 1 (A3 Ae f.fValues)),(57,Ai (f.fValues.length:Int)),(58,Ai σ.2.1)]) (λσ=>[.blk b1 (Ad f) 26]) (λσ=>σ.1) (F,0,()) co (A4.c rfl (A4.c rfl (A4.c rfl (A4.c rfl A4.nil)))) (sC sN) (λσ=>Gu f =some r) (λσ=>[(1,rP b1 0)]) (λσ=>[.blk b1 (Ad f) 26]) ?_ ?_)))))))))
      ·rintro⟨rm,gx,⟨⟩⟩ cp;refine B2 (l':=[(1,rP b1 0),(56,AE 1 (A3 Ae f.fValues)),(57,Ai (f.fValues.length:Int)),(58,Ai gx)]) (H':=[.blk b1 (Ad f) 26]) rfl rfl ?_;obtain⟨cq,rfl,cr,gy,g9⟩:=Cf cp;replace gy:DN F f gx=some cr:=gy;unfold DN at gy;refine Ah (wv (Cr rfl rfl) (Al (An (cz gy rfl (λcs ct=>?_) (λcs cu=>?_)))))
       ·refine Av (AG (An (AA (Ah (ck ct λcv cw=>wv (AT (enc:=Ae) (ys:=f.fValues) BN BY rfl rfl cv) (wv (AL C9 rfl rfl) (wa rfl (AW (wm rfl (ob cw λcx cy c0=>Cs Lu (Dm F (Ax f.fValues gx) cx cy) rfl (wa rfl (AW (wm rfl (wv (Bf rfl rfl) (Al (cz c0 rfl (λc1 c3=>?_) (λc1 c4=>?_)))))))))))))))))
        ·refine Ah (wm rfl (wa rfl (Al (Aq (Ao (Ac (Ac (AN ?_))))))));have c6:=Be c3 g9 gD;refine Ao (Ao (Ac ?_));obtain rfl:=Am c6;exact Ap (Bw G1 (A9 rfl)) (sS sN) ⟨rfl,rfl⟩
        ·refine Av (A8 (AG (Ak (ck c4 λc7 c8=>wv (Bj rfl rfl c7) (wm rfl (Aj ?_))))));have c9:=Bb c8 g9;exact As (At (cq,gx+1,()) ⟨c9,Vv _⟩ (A4.c rfl (A4.c rfl (A4.c rfl (A4.c rfl A4.nil)))) (sC sN))
       ·refine Bq (Ay ?_);have cA:=BD cu g9 gD;exact Ay (AS (At ((),()) cA (A4.c rfl A4.nil) (sC sN)))
      ·rintro⟨⟨⟩,⟨⟩⟩ gz;refine Cj (l':=[(1,rP b1 0)]) (H':=[.blk b1 (Ad f) 26]) rfl rfl ?_;replace gz:Gu f =some r:=gz;unfold Gu at gz;refine AV (A8 (AG (An (BG (S:=(Bool)×(Unit)) (λσ=>BU σ.1=some r) (λσ=>[(132,rB σ.1)]) (λσ=>[]) ?_ ?_))))
       ·refine Ak (vF AM rfl BZ (vL 0 Cc rfl (ob gz λcB cC cD=>Cs Ql (Gs f.fOp cB cC) rfl (wv (B1 rfl) (wm rfl (bz cD (λhJ cE=>?_) (λhJ cF=>?_)))))))
        ·refine wo hJ (vF AM rfl CD (wo hJ (vL 0 CR rfl (wo hJ (wv (AI (ys:=f.fValues) (enc:=Ae) BN rfl) (wo hJ (wv (CX rfl rfl) (C5 rfl hJ rfl (wm rfl (bz cE (λhm cG=>?_) (λhm cH=>?_)))))))))))
         ·refine wf hm (wf hm (wf hm (wf hm (wu (wu (wu (wf hm (wv (r:=rB true) (Az rfl hm rfl) (wm rfl (wz rfl rfl (wz rfl rfl (wz rfl rfl (wz rfl rfl (wu (wu (wu (wu (wu (wu (wu (wu (wz rfl rfl (wv (r:=rB true) (Az (b:=true) rfl rfl rfl) ?_)))))))))))))))))))))));exact Aj (As (At (true,()) cG (A4.c rfl A4.nil) (sS sN)))
         ·refine wo hm (vF AM rfl BZ (wo hm (vL 0 Cc rfl (wo hm (wv (Bf rfl rfl) (wo hm (wm rfl (bz cH (λhP cI=>?_) (λhP cJ=>?_)))))))))
          ·refine wo hP (vF AM rfl CB (wo hP (vL 0 CO rfl (wo hP (wv (Eb rfl rfl) (wo hm (C5 rfl hP rfl (Cq rfl hm rfl (wm rfl (bz cI (λha cK=>?_) (λha cL=>?_)))))))))))
           ·exact wf ha (wf ha (wf ha (wf ha (wu (wu (wu (wu (wu (wu (wu (wu (wf ha (wv (r:=rB true) (Az rfl ha rfl) (Aj (As (At (true,()) cK (A4.c rfl A4.nil) (sS sN)))))))))))))))))
           ·refine wo ha (vF AM rfl BZ (wo ha (vL 0 Cc rfl (wo ha (wv (Bf rfl rfl) (wo ha (wm rfl (bz cL (λhn cM=>?_) (λhn cN=>?_)))))))))
            ·refine wo hn (vF AM rfl BH (wo hn (vL 0 Cd rfl (wo hn (wv (Bf rfl rfl) (wo hn (wm rfl (bz cM (λhQ cO=>?_) (λhQ cP=>?_)))))))))
             ·exact wf hQ (wf hQ (wf hQ (wo hn (wv (r:=rB true) (Az rfl hQ rfl) (wo ha (C5 rfl hn rfl (Cq rfl ha rfl (Aj (As (At (true,()) cO (A4.c rfl A4.nil) (sS sN)))))))))))
             ·exact wo hQ (vF AM rfl BH (wo hQ (vL 0 Cd rfl (wo hQ (wv (Bf rfl rfl) (wo hn (Cq rfl hQ rfl (wo ha (C5 rfl hn rfl (Cq rfl ha rfl (Aj (As (At (!decide (f.fHigh=0),()) cP (A4.c rfl A4.nil) (sS sN))))))))))))))
            ·exact wf hn (wf hn (wf hn (wf hn (wu (wu (wu (wf hn (wo ha (wv (r:=rB false) (Au rfl hn rfl) (Cq rfl ha rfl (Aj (As (At (false,()) cN (A4.c rfl A4.nil) (sS sN))))))))))))))
          ·refine wf hP (wf hP (wf hP (wo hm (wv (r:=rB false) (Au rfl hP rfl) (Cq rfl hm rfl (wm rfl (AJ (b:=false) rfl rfl rfl (vF AM rfl BZ (AJ (b:=false) rfl rfl rfl (vL 0 Cc rfl (AJ (b:=false) rfl rfl rfl (wv (Bf rfl rfl) (AJ (b:=false) rfl rfl rfl (wm rfl (bz cJ (λho cQ=>?_) (λho cR=>?_))))))))))))))))
           ·refine wo ho (vF AM rfl BH (wo ho (vL 0 Cd rfl (wo ho (wv (Bf rfl rfl) (wo ho (wm rfl (bz cQ (λc213 cS=>?_) (λc213 cT=>?_)))))))))
            ·exact wf c213 (wf c213 (wf c213 (wo ho (wv (r:=rB true) (Az rfl c213 rfl) (AJ (b:=false) rfl rfl rfl (C5 rfl ho rfl (wv (r:=rB true) (Au (b:=false) rfl rfl rfl) (Aj (As (At (true,()) cS (A4.c rfl A4.nil) (sS sN)))))))))))
            ·exact wo c213 (vF AM rfl BH (wo c213 (vL 0 Cd rfl (wo c213 (wv (Bf rfl rfl) (wo ho (Cq rfl c213 rfl (AJ (b:=false) rfl rfl rfl (C5 rfl ho rfl (wv (r:=rB (!decide (f.fHigh=0))) (Au (b:=false) rfl rfl rfl) (Aj (As (At (!decide (f.fHigh=0),()) cT (A4.c rfl A4.nil) (sS sN))))))))))))))
           ·exact wf ho (wf ho (wf ho (wf ho (wu (wu (wu (wf ho (AJ (b:=false) rfl rfl rfl (wv (r:=rB false) (Au rfl ho rfl) (wv (r:=rB false) (Au (b:=false) rfl rfl rfl) (Aj (As (At (false,()) cR (A4.c rfl A4.nil) (sS sN))))))))))))))
        ·refine wf hJ (wf hJ (wf hJ (wf hJ (wv (r:=rB false) (Au rfl hJ rfl) (wm rfl (AJ (b:=false) rfl rfl rfl (vF AM rfl BZ (AJ (b:=false) rfl rfl rfl (vL 0 Cc rfl (AJ (b:=false) rfl rfl rfl (wv (Bf rfl rfl) (AJ (b:=false) rfl rfl rfl (wm rfl (bz cF (λhR cU=>?_) (λhR cV=>?_)))))))))))))))
         ·refine wo hR (vF AM rfl CB (wo hR (vL 0 CO rfl (wo hR (wv (Eb rfl rfl) (AJ (b:=false) rfl rfl rfl (C5 rfl hR rfl (wv (r:=rB (!decide (f.fText=([]:Ar)))) (Au (b:=false) rfl rfl rfl) (wm rfl (bz cU (λhb cW=>?_) (λhb cX=>?_)))))))))))
          ·exact wf hb (wf hb (wf hb (wf hb (wu (wu (wu (wu (wu (wu (wu (wu (wf hb (wv (r:=rB true) (Az rfl hb rfl) (Aj (As (At (true,()) cW (A4.c rfl A4.nil) (sS sN)))))))))))))))))
          ·refine wo hb (vF AM rfl BZ (wo hb (vL 0 Cc rfl (wo hb (wv (Bf rfl rfl) (wo hb (wm rfl (bz cX (λhp cY=>?_) (λhp cZ=>?_)))))))))
           ·refine wo hp (vF AM rfl BH (wo hp (vL 0 Cd rfl (wo hp (wv (Bf rfl rfl) (wo hp (wm rfl (bz cY (λhS xa=>?_) (λhS xb=>?_)))))))))
            ·exact wf hS (wf hS (wf hS (wo hp (wv (r:=rB true) (Az rfl hS rfl) (wo hb (C5 rfl hp rfl (Cq rfl hb rfl (Aj (As (At (true,()) xa (A4.c rfl A4.nil) (sS sN)))))))))))
            ·exact wo hS (vF AM rfl BH (wo hS (vL 0 Cd rfl (wo hS (wv (Bf rfl rfl) (wo hp (Cq rfl hS rfl (wo hb (C5 rfl hp rfl (Cq rfl hb rfl (Aj (As (At (!decide (f.fHigh=0),()) xb (A4.c rfl A4.nil) (sS sN))))))))))))))
           ·exact wf hp (wf hp (wf hp (wf hp (wu (wu (wu (wf hp (wo hb (wv (r:=rB false) (Au rfl hp rfl) (Cq rfl hb rfl (Aj (As (At (false,()) cZ (A4.c rfl A4.nil) (sS sN))))))))))))))
         ·refine wf hR (wf hR (wf hR (AJ (b:=false) rfl rfl rfl (wv (r:=rB false) (Au rfl hR rfl) (wv (r:=rB false) (Au (b:=false) rfl rfl rfl) (wm rfl (AJ (b:=false) rfl rfl rfl (vF AM rfl BZ (AJ (b:=false) rfl rfl rfl (vL 0 Cc rfl (AJ (b:=false) rfl rfl rfl (wv (Bf rfl rfl) (AJ (b:=false) rfl rfl rfl (wm rfl (bz cV (λhq xc=>?_) (λhq xd=>?_))))))))))))))))
          ·refine wo hq (vF AM rfl BH (wo hq (vL 0 Cd rfl (wo hq (wv (Bf rfl rfl) (wo hq (wm rfl (bz xc (λc232 xe=>?_) (λc232 xf=>?_)))))))))
           ·exact wf c232 (wf c232 (wf c232 (wo hq (wv (r:=rB true) (Az rfl c232 rfl) (AJ (b:=false) rfl rfl rfl (C5 rfl hq rfl (wv (r:=rB true) (Au (b:=false) rfl rfl rfl) (Aj (As (At (true,()) xe (A4.c rfl A4.nil) (sS sN)))))))))))
           ·exact wo c232 (vF AM rfl BH (wo c232 (vL 0 Cd rfl (wo c232 (wv (Bf rfl rfl) (wo hq (Cq rfl c232 rfl (AJ (b:=false) rfl rfl rfl (C5 rfl hq rfl (wv (r:=rB (!decide (f.fHigh=0))) (Au (b:=false) rfl rfl rfl) (Aj (As (At (!decide (f.fHigh=0),()) xf (A4.c rfl A4.nil) (sS sN))))))))))))))
          ·exact wf hq (wf hq (wf hq (wf hq (wu (wu (wu (wf hq (AJ (b:=false) rfl rfl rfl (wv (r:=rB false) (Au rfl hq rfl) (wv (r:=rB false) (Au (b:=false) rfl rfl rfl) (Aj (As (At (false,()) xd (A4.c rfl A4.nil) (sS sN))))))))))))))
       ·rintro⟨gE,⟨⟩⟩ g0;refine B2 (l':=[(132,rB gE)]) (H':=[]) rfl rfl ?_;replace g0:BU gE=some r:=g0;unfold BU at g0;refine cz g0 rfl (λxg xh=>?_) (λxg xi=>?_)
        ·refine Ah (wa rfl (Al (Aq (Ac ?_))));obtain rfl:=Am xh;exact Ap (Bw G1 (A9 rfl)) sN ⟨rfl,rfl⟩
        ·refine Av (AG (Ah (wa rfl (Al (Aq ?_)))));obtain rfl:=Am xi;exact Ap (Bw G1 (A9 rfl)) sN ⟨rfl,rfl⟩
    ·refine Ak (wv (Bz rfl rfl) (wa rfl (Al (cz ci rfl (λxj xk=>?_) (λxj xl=>?_)))))
     ·refine An (AK [(1,rP b1 0),(54,rB ((decide ((f.fValues.length:Int)<1))||(decide (8<(f.fValues.length:Int)))))] [.blk b1 (Ad f) 26] ?_ ?_)
      ·refine Ak (vF AM rfl CD (vL 0 CR rfl (wv (AI (ys:=f.fValues) (enc:=Ae) BN rfl) (wv (Cr rfl rfl) (wm rfl (AU (decide ((f.fValues.length:Int)<1)) (λhH=>?_) (λhH=>?_)))))))
       ·refine wf hH (wf hH (wf hH (wf hH (wv (r:=rB true) (Az rfl hH rfl) (Aj ?_)))));exact Cp hH
       ·refine wo hH (vF AM rfl CD (wo hH (vL 0 CR rfl (wo hH (wv (AI (ys:=f.fValues) (enc:=Ae) BN rfl) (wo hH (wv (CX rfl rfl) (Cq rfl hH rfl (Aj ?_)))))))));exact Cp hH
      refine cz xk rfl (λxm xn=>?_) (λxm xo=>?_)
      ·refine Ah (wa rfl (Al (Aq (Ac (Ao (Ac ?_))))));obtain rfl:=Am xn;exact Ap (Bw G1 (A9 rfl)) (sS sN) ⟨rfl,rfl⟩
      ·refine Av (AG (Ah (vF AM rfl CD (vL 0 CR rfl (wv (AI (ys:=f.fValues) (enc:=Ae) BN rfl) (wv (r:=Ai 0) (A5 rfl) (Al (AA (ob xo λxp xq gF=>Bg (S:=Nat×(Int)×(Unit)) (V:=(Unit)×(Unit)) 3 (λσ=>BW (λσ=>Gw F f σ) σ.1 σ.2.1=some xp) (λσ=>[(1,rP b1 0),(56,AE 1 (A3 Ae f.fValues)),(57,Ai (f.fValues.length:Int)),(58,Ai σ.2.1)]) (λσ=>[.blk b1 (Ad f) 26]) (λσ=>σ.1) (F,0,()) xq (A4.c rfl (A4.c rfl (A4.c rfl (A4.c rfl A4.nil)))) (sC sN) (λσ=>Gt f =some r) (λσ=>[(1,rP b1 0)]) (λσ=>[.blk b1 (Ad f) 26]) ?_ ?_)))))))))
       ·rintro⟨rn,g1,⟨⟩⟩ xr;refine B2 (l':=[(1,rP b1 0),(56,AE 1 (A3 Ae f.fValues)),(57,Ai (f.fValues.length:Int)),(58,Ai g1)]) (H':=[.blk b1 (Ad f) 26]) rfl rfl ?_;obtain⟨xs,rfl,xt,g2,gA⟩:=Cf xr;replace g2:Gw F f g1=some xt:=g2;unfold Gw at g2;refine Ah (wv (Cr rfl rfl) (Al (An (cz g2 rfl (λxu xv=>?_) (λxu xw=>?_)))))
        ·refine Av (AG (An (AA (Ah (ck xv λxx xy=>wv (AT (enc:=Ae) (ys:=f.fValues) BN BY rfl rfl xx) (wv (AL C9 rfl rfl) (wa rfl (AW (wm rfl (ob xy λxz x0 x1=>Cs Lu (Dm F (Ax f.fValues g1) xz x0) rfl (wa rfl (AW (wm rfl (wv (Bf rfl rfl) (Al (cz x1 rfl (λx2 x3=>?_) (λx2 x4=>?_)))))))))))))))))
         ·refine Ah (wm rfl (wa rfl (Al (Aq (Ao (Ac (Ac (AN ?_))))))));have x5:=Be x3 gA gF;refine Ao (Ao (Ac ?_));obtain rfl:=Am x5;exact Ap (Bw G1 (A9 rfl)) (sS sN) ⟨rfl,rfl⟩
         ·refine Av (A8 (AG (Ak (ck x4 λx6 x7=>wv (Bj rfl rfl x6) (wm rfl (Aj ?_))))));have x8:=Bb x7 gA;exact As (At (xs,g1+1,()) ⟨x8,Vv _⟩ (A4.c rfl (A4.c rfl (A4.c rfl (A4.c rfl A4.nil)))) (sC sN))
        ·refine Bq (Ay ?_);have x9:=BD xw gA gF;exact Ay (AS (At ((),()) x9 (A4.c rfl A4.nil) (sC sN)))
       ·rintro⟨⟨⟩,⟨⟩⟩ g3;refine Cj (l':=[(1,rP b1 0)]) (H':=[.blk b1 (Ad f) 26]) rfl rfl ?_;replace g3:Gt f =some r:=g3;unfold Gt at g3;refine AV (A8 (AG (An (BG (S:=(Bool)×(Unit)) (λσ=>BT σ.1=some r) (λσ=>[(132,rB σ.1)]) (λσ=>[]) ?_ ?_))))
        ·refine Ak (vF AM rfl BZ (vL 0 Cc rfl (ob g3 λxA xB xC=>Cs Ql (Gs f.fOp xA xB) rfl (wv (B1 rfl) (wm rfl (bz xC (λhK xD=>?_) (λhK xE=>?_)))))))
         ·refine wo hK (vF AM rfl CD (wo hK (vL 0 CR rfl (wo hK (wv (AI (ys:=f.fValues) (enc:=Ae) BN rfl) (wo hK (wv (CX rfl rfl) (C5 rfl hK rfl (wm rfl (bz xD (λhr xF=>?_) (λhr xG=>?_)))))))))))
          ·refine wf hr (wf hr (wf hr (wf hr (wu (wu (wu (wf hr (wv (r:=rB true) (Az rfl hr rfl) (wm rfl (wz rfl rfl (wz rfl rfl (wz rfl rfl (wz rfl rfl (wu (wu (wu (wu (wu (wu (wu (wu (wz rfl rfl (wv (r:=rB true) (Az (b:=true) rfl rfl rfl) ?_)))))))))))))))))))))));exact Aj (As (At (true,()) xF (A4.c rfl A4.nil) (sS sN)))
          ·refine wo hr (vF AM rfl BZ (wo hr (vL 0 Cc rfl (wo hr (wv (Bf rfl rfl) (wo hr (wm rfl (bz xG (λhT xH=>?_) (λhT xI=>?_)))))))))
           ·refine wo hT (vF AM rfl CB (wo hT (vL 0 CO rfl (wo hT (wv (Eb rfl rfl) (wo hr (C5 rfl hT rfl (Cq rfl hr rfl (wm rfl (bz xH (λhe xJ=>?_) (λhe xK=>?_)))))))))))
            ·exact wf he (wf he (wf he (wf he (wu (wu (wu (wu (wu (wu (wu (wu (wf he (wv (r:=rB true) (Az rfl he rfl) (Aj (As (At (true,()) xJ (A4.c rfl A4.nil) (sS sN)))))))))))))))))
            ·refine wo he (vF AM rfl BZ (wo he (vL 0 Cc rfl (wo he (wv (Bf rfl rfl) (wo he (wm rfl (bz xK (λhs xL=>?_) (λhs xM=>?_)))))))))
             ·refine wo hs (vF AM rfl BH (wo hs (vL 0 Cd rfl (wo hs (wv (Bf rfl rfl) (wo hs (wm rfl (bz xL (λhU xN=>?_) (λhU xO=>?_)))))))))
              ·exact wf hU (wf hU (wf hU (wo hs (wv (r:=rB true) (Az rfl hU rfl) (wo he (C5 rfl hs rfl (Cq rfl he rfl (Aj (As (At (true,()) xN (A4.c rfl A4.nil) (sS sN)))))))))))
              ·exact wo hU (vF AM rfl BH (wo hU (vL 0 Cd rfl (wo hU (wv (Bf rfl rfl) (wo hs (Cq rfl hU rfl (wo he (C5 rfl hs rfl (Cq rfl he rfl (Aj (As (At (!decide (f.fHigh=0),()) xO (A4.c rfl A4.nil) (sS sN))))))))))))))
             ·exact wf hs (wf hs (wf hs (wf hs (wu (wu (wu (wf hs (wo he (wv (r:=rB false) (Au rfl hs rfl) (Cq rfl he rfl (Aj (As (At (false,()) xM (A4.c rfl A4.nil) (sS sN))))))))))))))
           ·refine wf hT (wf hT (wf hT (wo hr (wv (r:=rB false) (Au rfl hT rfl) (Cq rfl hr rfl (wm rfl (AJ (b:=false) rfl rfl rfl (vF AM rfl BZ (AJ (b:=false) rfl rfl rfl (vL 0 Cc rfl (AJ (b:=false) rfl rfl rfl (wv (Bf rfl rfl) (AJ (b:=false) rfl rfl rfl (wm rfl (bz xI (λht xP=>?_) (λht xQ=>?_))))))))))))))))
            ·refine wo ht (vF AM rfl BH (wo ht (vL 0 Cd rfl (wo ht (wv (Bf rfl rfl) (wo ht (wm rfl (bz xP (λhV xR=>?_) (λhV xS=>?_)))))))))
             ·exact wf hV (wf hV (wf hV (wo ht (wv (r:=rB true) (Az rfl hV rfl) (AJ (b:=false) rfl rfl rfl (C5 rfl ht rfl (wv (r:=rB true) (Au (b:=false) rfl rfl rfl) (Aj (As (At (true,()) xR (A4.c rfl A4.nil) (sS sN)))))))))))
             ·exact wo hV (vF AM rfl BH (wo hV (vL 0 Cd rfl (wo hV (wv (Bf rfl rfl) (wo ht (Cq rfl hV rfl (AJ (b:=false) rfl rfl rfl (C5 rfl ht rfl (wv (r:=rB (!decide (f.fHigh=0))) (Au (b:=false) rfl rfl rfl) (Aj (As (At (!decide (f.fHigh=0),()) xS (A4.c rfl A4.nil) (sS sN))))))))))))))
            ·exact wf ht (wf ht (wf ht (wf ht (wu (wu (wu (wf ht (AJ (b:=false) rfl rfl rfl (wv (r:=rB false) (Au rfl ht rfl) (wv (r:=rB false) (Au (b:=false) rfl rfl rfl) (Aj (As (At (false,()) xQ (A4.c rfl A4.nil) (sS sN))))))))))))))
         ·refine wf hK (wf hK (wf hK (wf hK (wv (r:=rB false) (Au rfl hK rfl) (wm rfl (AJ (b:=false) rfl rfl rfl (vF AM rfl BZ (AJ (b:=false) rfl rfl rfl (vL 0 Cc rfl (AJ (b:=false) rfl rfl rfl (wv (Bf rfl rfl) (AJ (b:=false) rfl rfl rfl (wm rfl (bz xE (λhW xT=>?_) (λhW xU=>?_)))))))))))))))
          ·refine wo hW (vF AM rfl CB (wo hW (vL 0 CO rfl (wo hW (wv (Eb rfl rfl) (AJ (b:=false) rfl rfl rfl (C5 rfl hW rfl (wv (r:=rB (!decide (f.fText=([]:Ar)))) (Au (b:=false) rfl rfl rfl) (wm rfl (bz xT (λhf xV=>?_) (λhf xW=>?_)))))))))))
           ·exact wf hf (wf hf (wf hf (wf hf (wu (wu (wu (wu (wu (wu (wu (wu (wf hf (wv (r:=rB true) (Az rfl hf rfl) (Aj (As (At (true,()) xV (A4.c rfl A4.nil) (sS sN)))))))))))))))))
           ·refine wo hf (vF AM rfl BZ (wo hf (vL 0 Cc rfl (wo hf (wv (Bf rfl rfl) (wo hf (wm rfl (bz xW (λhu xX=>?_) (λhu xY=>?_)))))))))
            ·refine wo hu (vF AM rfl BH (wo hu (vL 0 Cd rfl (wo hu (wv (Bf rfl rfl) (wo hu (wm rfl (bz xX (λhX xZ=>?_) (λhX va=>?_)))))))))
             ·exact wf hX (wf hX (wf hX (wo hu (wv (r:=rB true) (Az rfl hX rfl) (wo hf (C5 rfl hu rfl (Cq rfl hf rfl (Aj (As (At (true,()) xZ (A4.c rfl A4.nil) (sS sN)))))))))))
             ·exact wo hX (vF AM rfl BH (wo hX (vL 0 Cd rfl (wo hX (wv (Bf rfl rfl) (wo hu (Cq rfl hX rfl (wo hf (C5 rfl hu rfl (Cq rfl hf rfl (Aj (As (At (!decide (f.fHigh=0),()) va (A4.c rfl A4.nil) (sS sN))))))))))))))
            ·exact wf hu (wf hu (wf hu (wf hu (wu (wu (wu (wf hu (wo hf (wv (r:=rB false) (Au rfl hu rfl) (Cq rfl hf rfl (Aj (As (At (false,()) xY (A4.c rfl A4.nil) (sS sN))))))))))))))
          ·refine wf hW (wf hW (wf hW (AJ (b:=false) rfl rfl rfl (wv (r:=rB false) (Au rfl hW rfl) (wv (r:=rB false) (Au (b:=false) rfl rfl rfl) (wm rfl (AJ (b:=false) rfl rfl rfl (vF AM rfl BZ (AJ (b:=false) rfl rfl rfl (vL 0 Cc rfl (AJ (b:=false) rfl rfl rfl (wv (Bf rfl rfl) (AJ (b:=false) rfl rfl rfl (wm rfl (bz xU (λhw vb=>?_) (λhw vc=>?_))))))))))))))))
           ·refine wo hw (vF AM rfl BH (wo hw (vL 0 Cd rfl (wo hw (wv (Bf rfl rfl) (wo hw (wm rfl (bz vb (λhY vd=>?_) (λhY ve=>?_)))))))))
            ·exact wf hY (wf hY (wf hY (wo hw (wv (r:=rB true) (Az rfl hY rfl) (AJ (b:=false) rfl rfl rfl (C5 rfl hw rfl (wv (r:=rB true) (Au (b:=false) rfl rfl rfl) (Aj (As (At (true,()) vd (A4.c rfl A4.nil) (sS sN)))))))))))
            ·exact wo hY (vF AM rfl BH (wo hY (vL 0 Cd rfl (wo hY (wv (Bf rfl rfl) (wo hw (Cq rfl hY rfl (AJ (b:=false) rfl rfl rfl (C5 rfl hw rfl (wv (r:=rB (!decide (f.fHigh=0))) (Au (b:=false) rfl rfl rfl) (Aj (As (At (!decide (f.fHigh=0),()) ve (A4.c rfl A4.nil) (sS sN))))))))))))))
           ·exact wf hw (wf hw (wf hw (wf hw (wu (wu (wu (wf hw (AJ (b:=false) rfl rfl rfl (wv (r:=rB false) (Au rfl hw rfl) (wv (r:=rB false) (Au (b:=false) rfl rfl rfl) (Aj (As (At (false,()) vc (A4.c rfl A4.nil) (sS sN))))))))))))))
        ·rintro⟨gG,⟨⟩⟩ g4;refine B2 (l':=[(132,rB gG)]) (H':=[]) rfl rfl ?_;replace g4:BT gG=some r:=g4;unfold BT at g4;refine cz g4 rfl (λvf vg=>?_) (λvf vh=>?_)
         ·refine Ah (wa rfl (Al (Aq (Ac ?_))));obtain rfl:=Am vg;exact Ap (Bw G1 (A9 rfl)) sN ⟨rfl,rfl⟩
         ·refine Av (AG (Ah (wa rfl (Al (Aq ?_)))));obtain rfl:=Am vh;exact Ap (Bw G1 (A9 rfl)) sN ⟨rfl,rfl⟩
     ·refine Ah (wv (Bz rfl rfl) (wa rfl (Al (cz xl rfl (λvi vj=>?_) (λvi vk=>?_)))))
      ·refine Ah (vF AM rfl CB (vL 0 CO rfl (ob vj λvl vm vn=>Cs Qm (K4 F f.fText vl vm) rfl (wm rfl (wv (A7 rfl rfl) (wv (A7 rfl rfl) (wa rfl (wa rfl (AW (wm rfl (wv (Bf rfl rfl) (Al (cz vn rfl (λvo vp=>?_) (λvo vq=>?_))))))))))))))
       ·refine Ah (wm rfl (wa rfl (Al (Aq (Ao (Ac ?_))))));obtain rfl:=Am vp;exact Ap (Bw G1 (A9 rfl)) (sS sN) ⟨rfl,rfl⟩
       ·refine Av (A8 (AG (An (BG (S:=(Bool)×(Unit)) (λσ=>BS σ.1=some r) (λσ=>[(132,rB σ.1)]) (λσ=>[]) ?_ ?_))))
        ·refine Ak (vF AM rfl BZ (vL 0 Cc rfl (ob vq λvr vs vt=>Cs Ql (Gs f.fOp vr vs) rfl (wv (B1 rfl) (wm rfl (bz vt (λhL vu=>?_) (λhL vv=>?_)))))))
         ·refine wo hL (vF AM rfl CD (wo hL (vL 0 CR rfl (wo hL (wv (AI (ys:=f.fValues) (enc:=Ae) BN rfl) (wo hL (wv (CX rfl rfl) (C5 rfl hL rfl (wm rfl (bz vu (λhx vw=>?_) (λhx vx=>?_)))))))))))
          ·refine wf hx (wf hx (wf hx (wf hx (wu (wu (wu (wf hx (wv (r:=rB true) (Az rfl hx rfl) (wm rfl (wz rfl rfl (wz rfl rfl (wz rfl rfl (wz rfl rfl (wu (wu (wu (wu (wu (wu (wu (wu (wz rfl rfl (wv (r:=rB true) (Az (b:=true) rfl rfl rfl) ?_)))))))))))))))))))))));exact Aj (As (At (true,()) vw (A4.c rfl A4.nil) (sS sN)))
          ·refine wo hx (vF AM rfl BZ (wo hx (vL 0 Cc rfl (wo hx (wv (Bf rfl rfl) (wo hx (wm rfl (bz vx (λhZ vy=>?_) (λhZ vz=>?_)))))))))
           ·refine wo hZ (vF AM rfl CB (wo hZ (vL 0 CO rfl (wo hZ (wv (Eb rfl rfl) (wo hx (C5 rfl hZ rfl (Cq rfl hx rfl (wm rfl (bz vy (λhg v0=>?_) (λhg v1=>?_)))))))))))
            ·exact wf hg (wf hg (wf hg (wf hg (wu (wu (wu (wu (wu (wu (wu (wu (wf hg (wv (r:=rB true) (Az rfl hg rfl) (Aj (As (At (true,()) v0 (A4.c rfl A4.nil) (sS sN)))))))))))))))))
            ·refine wo hg (vF AM rfl BZ (wo hg (vL 0 Cc rfl (wo hg (wv (Bf rfl rfl) (wo hg (wm rfl (bz v1 (λhy v2=>?_) (λhy v3=>?_)))))))))
             ·refine wo hy (vF AM rfl BH (wo hy (vL 0 Cd rfl (wo hy (wv (Bf rfl rfl) (wo hy (wm rfl (bz v2 (λga v4=>?_) (λga v5=>?_)))))))))
              ·exact wf ga (wf ga (wf ga (wo hy (wv (r:=rB true) (Az rfl ga rfl) (wo hg (C5 rfl hy rfl (Cq rfl hg rfl (Aj (As (At (true,()) v4 (A4.c rfl A4.nil) (sS sN)))))))))))
              ·exact wo ga (vF AM rfl BH (wo ga (vL 0 Cd rfl (wo ga (wv (Bf rfl rfl) (wo hy (Cq rfl ga rfl (wo hg (C5 rfl hy rfl (Cq rfl hg rfl (Aj (As (At (!decide (f.fHigh=0),()) v5 (A4.c rfl A4.nil) (sS sN))))))))))))))
             ·exact wf hy (wf hy (wf hy (wf hy (wu (wu (wu (wf hy (wo hg (wv (r:=rB false) (Au rfl hy rfl) (Cq rfl hg rfl (Aj (As (At (false,()) v3 (A4.c rfl A4.nil) (sS sN))))))))))))))
           ·refine wf hZ (wf hZ (wf hZ (wo hx (wv (r:=rB false) (Au rfl hZ rfl) (Cq rfl hx rfl (wm rfl (AJ (b:=false) rfl rfl rfl (vF AM rfl BZ (AJ (b:=false) rfl rfl rfl (vL 0 Cc rfl (AJ (b:=false) rfl rfl rfl (wv (Bf rfl rfl) (AJ (b:=false) rfl rfl rfl (wm rfl (bz vz (λhz v6=>?_) (λhz v7=>?_))))))))))))))))
            ·refine wo hz (vF AM rfl BH (wo hz (vL 0 Cd rfl (wo hz (wv (Bf rfl rfl) (wo hz (wm rfl (bz v6 (λgb v8=>?_) (λgb v9=>?_)))))))))
             ·exact wf gb (wf gb (wf gb (wo hz (wv (r:=rB true) (Az rfl gb rfl) (AJ (b:=false) rfl rfl rfl (C5 rfl hz rfl (wv (r:=rB true) (Au (b:=false) rfl rfl rfl) (Aj (As (At (true,()) v8 (A4.c rfl A4.nil) (sS sN)))))))))))
             ·exact wo gb (vF AM rfl BH (wo gb (vL 0 Cd rfl (wo gb (wv (Bf rfl rfl) (wo hz (Cq rfl gb rfl (AJ (b:=false) rfl rfl rfl (C5 rfl hz rfl (wv (r:=rB (!decide (f.fHigh=0))) (Au (b:=false) rfl rfl rfl) (Aj (As (At (!decide (f.fHigh=0),()) v9 (A4.c rfl A4.nil) (sS sN))))))))))))))
            ·exact wf hz (wf hz (wf hz (wf hz (wu (wu (wu (wf hz (AJ (b:=false) rfl rfl rfl (wv (r:=rB false) (Au rfl hz rfl) (wv (r:=rB false) (Au (b:=false) rfl rfl rfl) (Aj (As (At (false,()) v7 (A4.c rfl A4.nil) (sS sN))))))))))))))
         ·refine wf hL (wf hL (wf hL (wf hL (wv (r:=rB false) (Au rfl hL rfl) (wm rfl (AJ (b:=false) rfl rfl rfl (vF AM rfl BZ (AJ (b:=false) rfl rfl rfl (vL 0 Cc rfl (AJ (b:=false) rfl rfl rfl (wv (Bf rfl rfl) (AJ (b:=false) rfl rfl rfl (wm rfl (bz vv (λgc vA=>?_) (λgc vB=>?_)))))))))))))))
          ·refine wo gc (vF AM rfl CB (wo gc (vL 0 CO rfl (wo gc (wv (Eb rfl rfl) (AJ (b:=false) rfl rfl rfl (C5 rfl gc rfl (wv (r:=rB (!decide (f.fText=([]:Ar)))) (Au (b:=false) rfl rfl rfl) (wm rfl (bz vA (λhh vC=>?_) (λhh vD=>?_)))))))))))
           ·exact wf hh (wf hh (wf hh (wf hh (wu (wu (wu (wu (wu (wu (wu (wu (wf hh (wv (r:=rB true) (Az rfl hh rfl) (Aj (As (At (true,()) vC (A4.c rfl A4.nil) (sS sN)))))))))))))))))
           ·refine wo hh (vF AM rfl BZ (wo hh (vL 0 Cc rfl (wo hh (wv (Bf rfl rfl) (wo hh (wm rfl (bz vD (λh0 vE=>?_) (λh0 vG=>?_)))))))))
            ·refine wo h0 (vF AM rfl BH (wo h0 (vL 0 Cd rfl (wo h0 (wv (Bf rfl rfl) (wo h0 (wm rfl (bz vE (λgd vH=>?_) (λgd vI=>?_)))))))))
             ·exact wf gd (wf gd (wf gd (wo h0 (wv (r:=rB true) (Az rfl gd rfl) (wo hh (C5 rfl h0 rfl (Cq rfl hh rfl (Aj (As (At (true,()) vH (A4.c rfl A4.nil) (sS sN)))))))))))
             ·exact wo gd (vF AM rfl BH (wo gd (vL 0 Cd rfl (wo gd (wv (Bf rfl rfl) (wo h0 (Cq rfl gd rfl (wo hh (C5 rfl h0 rfl (Cq rfl hh rfl (Aj (As (At (!decide (f.fHigh=0),()) vI (A4.c rfl A4.nil) (sS sN))))))))))))))
            ·exact wf h0 (wf h0 (wf h0 (wf h0 (wu (wu (wu (wf h0 (wo hh (wv (r:=rB false) (Au rfl h0 rfl) (Cq rfl hh rfl (Aj (As (At (false,()) vG (A4.c rfl A4.nil) (sS sN))))))))))))))
          ·refine wf gc (wf gc (wf gc (AJ (b:=false) rfl rfl rfl (wv (r:=rB false) (Au rfl gc rfl) (wv (r:=rB false) (Au (b:=false) rfl rfl rfl) (wm rfl (AJ (b:=false) rfl rfl rfl (vF AM rfl BZ (AJ (b:=false) rfl rfl rfl (vL 0 Cc rfl (AJ (b:=false) rfl rfl rfl (wv (Bf rfl rfl) (AJ (b:=false) rfl rfl rfl (wm rfl (bz vB (λh1 vJ=>?_) (λh1 vK=>?_))))))))))))))))
           ·refine wo h1 (vF AM rfl BH (wo h1 (vL 0 Cd rfl (wo h1 (wv (Bf rfl rfl) (wo h1 (wm rfl (bz vJ (λge vM=>?_) (λge vN=>?_)))))))))
            ·exact wf ge (wf ge (wf ge (wo h1 (wv (r:=rB true) (Az rfl ge rfl) (AJ (b:=false) rfl rfl rfl (C5 rfl h1 rfl (wv (r:=rB true) (Au (b:=false) rfl rfl rfl) (Aj (As (At (true,()) vM (A4.c rfl A4.nil) (sS sN)))))))))))
            ·exact wo ge (vF AM rfl BH (wo ge (vL 0 Cd rfl (wo ge (wv (Bf rfl rfl) (wo h1 (Cq rfl ge rfl (AJ (b:=false) rfl rfl rfl (C5 rfl h1 rfl (wv (r:=rB (!decide (f.fHigh=0))) (Au (b:=false) rfl rfl rfl) (Aj (As (At (!decide (f.fHigh=0),()) vN (A4.c rfl A4.nil) (sS sN))))))))))))))
           ·exact wf h1 (wf h1 (wf h1 (wf h1 (wu (wu (wu (wf h1 (AJ (b:=false) rfl rfl rfl (wv (r:=rB false) (Au rfl h1 rfl) (wv (r:=rB false) (Au (b:=false) rfl rfl rfl) (Aj (As (At (false,()) vK (A4.c rfl A4.nil) (sS sN))))))))))))))
        ·rintro⟨gH,⟨⟩⟩ g5;refine B2 (l':=[(132,rB gH)]) (H':=[]) rfl rfl ?_;replace g5:BS gH=some r:=g5;unfold BS at g5;refine cz g5 rfl (λvO vP=>?_) (λvO vQ=>?_)
         ·refine Ah (wa rfl (Al (Aq (Ac ?_))));obtain rfl:=Am vP;exact Ap (Bw G1 (A9 rfl)) sN ⟨rfl,rfl⟩
         ·refine Av (AG (Ah (wa rfl (Al (Aq ?_)))));obtain rfl:=Am vQ;exact Ap (Bw G1 (A9 rfl)) sN ⟨rfl,rfl⟩
      ·refine Ah (wv (Bz rfl rfl) (wa rfl (Al (cz vk rfl (λvR vS=>?_) (λvR vT=>?_)))))
       ·refine ck vS λvU vV=>ck vV λvW vX=>AK [(1,rP b1 0),(97,rB ((!(ov (Bi f.fLow)))||((!(ov (Bi f.fHigh)))||(decide (f.fHigh<f.fLow)))))] [.blk b1 (Ad f) 26] ?_ ?_
        ·refine Ak (vF AM rfl BH (vL 0 Cd rfl (Cs Tryz.call31 (KS f.fLow (ov (Bi f.fLow)) (Gn vU)) rfl (wv (B1 rfl) (wm rfl (AU (!(ov (Bi f.fLow))) (λh2=>?_) (λh2=>?_)))))))
         ·refine wf h2 (wf h2 (wf h2 (wf h2 (wv (r:=rB true) (Az rfl h2 rfl) (wm rfl (wz rfl rfl (wz rfl rfl (wz rfl rfl (wz rfl rfl (wz rfl rfl (wv (r:=rB true) (Az (b:=true) rfl rfl rfl) (Aj ?_))))))))))));exact Cp h2
         ·refine wo h2 (vF AM rfl BH (wo h2 (vL 0 Cd rfl (wo h2 (Cs Tryz.call31 (KS f.fHigh (ov (Bi f.fHigh)) (Gn (CA vW h2))) rfl (wo h2 (wv (B1 rfl) (Cq rfl h2 rfl (wm rfl (AU (!(ov (Bi f.fHigh))) (λh5=>?_) (λh5=>?_)))))))))))
          ·refine wf h5 (wf h5 (wf h5 (wf h5 (wf h5 (wv (r:=rB true) (Az rfl h5 rfl) (Aj ?_))))));exact Cp (And.intro h2 h5)
          ·refine wo h5 (vF AM rfl BH (wo h5 (vL 0 Cd rfl (wo h5 (vF AM rfl BH (wo h5 (vL 0 Cd rfl (wo h5 (wv (CX rfl rfl) (Cq rfl h5 rfl (Aj ?_)))))))))));exact Cp (And.intro h2 h5)
        refine cz vX rfl (λvY vZ=>?_) (λvY ba=>?_)
        ·refine Ah (wa rfl (Al (Aq (Ao (Ac ?_)))));obtain rfl:=Am vZ;exact Ap (Bw G1 (A9 rfl)) (sS sN) ⟨rfl,rfl⟩
        ·refine Av (A8 (AG (An (BG (S:=(Bool)×(Unit)) (λσ=>BR σ.1=some r) (λσ=>[(132,rB σ.1)]) (λσ=>[]) ?_ ?_))))
         ·refine Ak (vF AM rfl BZ (vL 0 Cc rfl (ob ba λbb bc bd=>Cs Ql (Gs f.fOp bb bc) rfl (wv (B1 rfl) (wm rfl (bz bd (λhN be=>?_) (λhN bf=>?_)))))))
          ·refine wo hN (vF AM rfl CD (wo hN (vL 0 CR rfl (wo hN (wv (AI (ys:=f.fValues) (enc:=Ae) BN rfl) (wo hN (wv (CX rfl rfl) (C5 rfl hN rfl (wm rfl (bz be (λh6 bg=>?_) (λh6 bh=>?_)))))))))))
           ·refine wf h6 (wf h6 (wf h6 (wf h6 (wu (wu (wu (wf h6 (wv (r:=rB true) (Az rfl h6 rfl) (wm rfl (wz rfl rfl (wz rfl rfl (wz rfl rfl (wz rfl rfl (wu (wu (wu (wu (wu (wu (wu (wu (wz rfl rfl (wv (r:=rB true) (Az (b:=true) rfl rfl rfl) ?_)))))))))))))))))))))));exact Aj (As (At (true,()) bg (A4.c rfl A4.nil) (sS sN)))
           ·refine wo h6 (vF AM rfl BZ (wo h6 (vL 0 Cc rfl (wo h6 (wv (Bf rfl rfl) (wo h6 (wm rfl (bz bh (λgf bi=>?_) (λgf bj=>?_)))))))))
            ·refine wo gf (vF AM rfl CB (wo gf (vL 0 CO rfl (wo gf (wv (Eb rfl rfl) (wo h6 (C5 rfl gf rfl (Cq rfl h6 rfl (wm rfl (bz bi (λhi bk=>?_) (λhi bl=>?_)))))))))))
             ·exact wf hi (wf hi (wf hi (wf hi (wu (wu (wu (wu (wu (wu (wu (wu (wf hi (wv (r:=rB true) (Az rfl hi rfl) (Aj (As (At (true,()) bk (A4.c rfl A4.nil) (sS sN)))))))))))))))))
             ·refine wo hi (vF AM rfl BZ (wo hi (vL 0 Cc rfl (wo hi (wv (Bf rfl rfl) (wo hi (wm rfl (bz bl (λh7 bm=>?_) (λh7 bn=>?_)))))))))
              ·refine wo h7 (vF AM rfl BH (wo h7 (vL 0 Cd rfl (wo h7 (wv (Bf rfl rfl) (wo h7 (wm rfl (bz bm (λgg bo=>?_) (λgg bp=>?_)))))))))
               ·exact wf gg (wf gg (wf gg (wo h7 (wv (r:=rB true) (Az rfl gg rfl) (wo hi (C5 rfl h7 rfl (Cq rfl hi rfl (Aj (As (At (true,()) bo (A4.c rfl A4.nil) (sS sN)))))))))))
               ·exact wo gg (vF AM rfl BH (wo gg (vL 0 Cd rfl (wo gg (wv (Bf rfl rfl) (wo h7 (Cq rfl gg rfl (wo hi (C5 rfl h7 rfl (Cq rfl hi rfl (Aj (As (At (!decide (f.fHigh=0),()) bp (A4.c rfl A4.nil) (sS sN))))))))))))))
              ·exact wf h7 (wf h7 (wf h7 (wf h7 (wu (wu (wu (wf h7 (wo hi (wv (r:=rB false) (Au rfl h7 rfl) (Cq rfl hi rfl (Aj (As (At (false,()) bn (A4.c rfl A4.nil) (sS sN))))))))))))))
            ·refine wf gf (wf gf (wf gf (wo h6 (wv (r:=rB false) (Au rfl gf rfl) (Cq rfl h6 rfl (wm rfl (AJ (b:=false) rfl rfl rfl (vF AM rfl BZ (AJ (b:=false) rfl rfl rfl (vL 0 Cc rfl (AJ (b:=false) rfl rfl rfl (wv (Bf rfl rfl) (AJ (b:=false) rfl rfl rfl (wm rfl (bz bj (λh8 bq=>?_) (λh8 br=>?_))))))))))))))))
             ·refine wo h8 (vF AM rfl BH (wo h8 (vL 0 Cd rfl (wo h8 (wv (Bf rfl rfl) (wo h8 (wm rfl (bz bq (λgh bs=>?_) (λgh bt=>?_)))))))))
              ·exact wf gh (wf gh (wf gh (wo h8 (wv (r:=rB true) (Az rfl gh rfl) (AJ (b:=false) rfl rfl rfl (C5 rfl h8 rfl (wv (r:=rB true) (Au (b:=false) rfl rfl rfl) (Aj (As (At (true,()) bs (A4.c rfl A4.nil) (sS sN)))))))))))
              ·exact wo gh (vF AM rfl BH (wo gh (vL 0 Cd rfl (wo gh (wv (Bf rfl rfl) (wo h8 (Cq rfl gh rfl (AJ (b:=false) rfl rfl rfl (C5 rfl h8 rfl (wv (r:=rB (!decide (f.fHigh=0))) (Au (b:=false) rfl rfl rfl) (Aj (As (At (!decide (f.fHigh=0),()) bt (A4.c rfl A4.nil) (sS sN))))))))))))))
             ·exact wf h8 (wf h8 (wf h8 (wf h8 (wu (wu (wu (wf h8 (AJ (b:=false) rfl rfl rfl (wv (r:=rB false) (Au rfl h8 rfl) (wv (r:=rB false) (Au (b:=false) rfl rfl rfl) (Aj (As (At (false,()) br (A4.c rfl A4.nil) (sS sN))))))))))))))
          ·refine wf hN (wf hN (wf hN (wf hN (wv (r:=rB false) (Au rfl hN rfl) (wm rfl (AJ (b:=false) rfl rfl rfl (vF AM rfl BZ (AJ (b:=false) rfl rfl rfl (vL 0 Cc rfl (AJ (b:=false) rfl rfl rfl (wv (Bf rfl rfl) (AJ (b:=false) rfl rfl rfl (wm rfl (bz bf (λgi bu=>?_) (λgi bv=>?_)))))))))))))))
           ·refine wo gi (vF AM rfl CB (wo gi (vL 0 CO rfl (wo gi (wv (Eb rfl rfl) (AJ (b:=false) rfl rfl rfl (C5 rfl gi rfl (wv (r:=rB (!decide (f.fText=([]:Ar)))) (Au (b:=false) rfl rfl rfl) (wm rfl (bz bu (λhj bw=>?_) (λhj bx=>?_)))))))))))
            ·exact wf hj (wf hj (wf hj (wf hj (wu (wu (wu (wu (wu (wu (wu (wu (wf hj (wv (r:=rB true) (Az rfl hj rfl) (Aj (As (At (true,()) bw (A4.c rfl A4.nil) (sS sN)))))))))))))))))
            ·refine wo hj (vF AM rfl BZ (wo hj (vL 0 Cc rfl (wo hj (wv (Bf rfl rfl) (wo hj (wm rfl (bz bx (λh9 b0=>?_) (λh9 b2=>?_)))))))))
             ·refine wo h9 (vF AM rfl BH (wo h9 (vL 0 Cd rfl (wo h9 (wv (Bf rfl rfl) (wo h9 (wm rfl (bz b0 (λgj b3=>?_) (λgj b4=>?_)))))))))
              ·exact wf gj (wf gj (wf gj (wo h9 (wv (r:=rB true) (Az rfl gj rfl) (wo hj (C5 rfl h9 rfl (Cq rfl hj rfl (Aj (As (At (true,()) b3 (A4.c rfl A4.nil) (sS sN)))))))))))
              ·exact wo gj (vF AM rfl BH (wo gj (vL 0 Cd rfl (wo gj (wv (Bf rfl rfl) (wo h9 (Cq rfl gj rfl (wo hj (C5 rfl h9 rfl (Cq rfl hj rfl (Aj (As (At (!decide (f.fHigh=0),()) b4 (A4.c rfl A4.nil) (sS sN))))))))))))))
             ·exact wf h9 (wf h9 (wf h9 (wf h9 (wu (wu (wu (wf h9 (wo hj (wv (r:=rB false) (Au rfl h9 rfl) (Cq rfl hj rfl (Aj (As (At (false,()) b2 (A4.c rfl A4.nil) (sS sN))))))))))))))
           ·refine wf gi (wf gi (wf gi (AJ (b:=false) rfl rfl rfl (wv (r:=rB false) (Au rfl gi rfl) (wv (r:=rB false) (Au (b:=false) rfl rfl rfl) (wm rfl (AJ (b:=false) rfl rfl rfl (vF AM rfl BZ (AJ (b:=false) rfl rfl rfl (vL 0 Cc rfl (AJ (b:=false) rfl rfl rfl (wv (Bf rfl rfl) (AJ (b:=false) rfl rfl rfl (wm rfl (bz bv (λhA b5=>?_) (λhA b6=>?_))))))))))))))))
            ·refine wo hA (vF AM rfl BH (wo hA (vL 0 Cd rfl (wo hA (wv (Bf rfl rfl) (wo hA (wm rfl (bz b5 (λgl b7=>?_) (λgl b8=>?_)))))))))
             ·exact wf gl (wf gl (wf gl (wo hA (wv (r:=rB true) (Az rfl gl rfl) (AJ (b:=false) rfl rfl rfl (C5 rfl hA rfl (wv (r:=rB true) (Au (b:=false) rfl rfl rfl) (Aj (As (At (true,()) b7 (A4.c rfl A4.nil) (sS sN)))))))))))
             ·exact wo gl (vF AM rfl BH (wo gl (vL 0 Cd rfl (wo gl (wv (Bf rfl rfl) (wo hA (Cq rfl gl rfl (AJ (b:=false) rfl rfl rfl (C5 rfl hA rfl (wv (r:=rB (!decide (f.fHigh=0))) (Au (b:=false) rfl rfl rfl) (Aj (As (At (!decide (f.fHigh=0),()) b8 (A4.c rfl A4.nil) (sS sN))))))))))))))
            ·exact wf hA (wf hA (wf hA (wf hA (wu (wu (wu (wf hA (AJ (b:=false) rfl rfl rfl (wv (r:=rB false) (Au rfl hA rfl) (wv (r:=rB false) (Au (b:=false) rfl rfl rfl) (Aj (As (At (false,()) b6 (A4.c rfl A4.nil) (sS sN))))))))))))))
         ·rintro⟨gI,⟨⟩⟩ g6;refine B2 (l':=[(132,rB gI)]) (H':=[]) rfl rfl ?_;replace g6:BR gI=some r:=g6;unfold BR at g6;refine cz g6 rfl (λb9 bA=>?_) (λb9 bB=>?_)
          ·refine Ah (wa rfl (Al (Aq (Ac ?_))));obtain rfl:=Am bA;exact Ap (Bw G1 (A9 rfl)) sN ⟨rfl,rfl⟩
          ·refine Av (AG (Ah (wa rfl (Al (Aq ?_)))));obtain rfl:=Am bB;exact Ap (Bw G1 (A9 rfl)) sN ⟨rfl,rfl⟩
       ·refine Av (A8 (AG (An (BG (S:=(Bool)×(Unit)) (λσ=>BQ σ.1=some r) (λσ=>[(132,rB σ.1)]) (λσ=>[]) ?_ ?_))))
        ·refine Ak (vF AM rfl BZ (vL 0 Cc rfl (ob vT λbC bD bE=>Cs Ql (Gs f.fOp bC bD) rfl (wv (B1 rfl) (wm rfl (bz bE (λhO bF=>?_) (λhO bG=>?_)))))))
         ·refine wo hO (vF AM rfl CD (wo hO (vL 0 CR rfl (wo hO (wv (AI (ys:=f.fValues) (enc:=Ae) BN rfl) (wo hO (wv (CX rfl rfl) (C5 rfl hO rfl (wm rfl (bz bF (λhB bH=>?_) (λhB bI=>?_)))))))))))
          ·refine wf hB (wf hB (wf hB (wf hB (wu (wu (wu (wf hB (wv (r:=rB true) (Az rfl hB rfl) (wm rfl (wz rfl rfl (wz rfl rfl (wz rfl rfl (wz rfl rfl (wu (wu (wu (wu (wu (wu (wu (wu (wz rfl rfl (wv (r:=rB true) (Az (b:=true) rfl rfl rfl) ?_)))))))))))))))))))))));exact Aj (As (At (true,()) bH (A4.c rfl A4.nil) (sS sN)))
          ·refine wo hB (vF AM rfl BZ (wo hB (vL 0 Cc rfl (wo hB (wv (Bf rfl rfl) (wo hB (wm rfl (bz bI (λgm bJ=>?_) (λgm bK=>?_)))))))))
           ·refine wo gm (vF AM rfl CB (wo gm (vL 0 CO rfl (wo gm (wv (Eb rfl rfl) (wo hB (C5 rfl gm rfl (Cq rfl hB rfl (wm rfl (bz bJ (λhk bL=>?_) (λhk bM=>?_)))))))))))
            ·exact wf hk (wf hk (wf hk (wf hk (wu (wu (wu (wu (wu (wu (wu (wu (wf hk (wv (r:=rB true) (Az rfl hk rfl) (Aj (As (At (true,()) bL (A4.c rfl A4.nil) (sS sN)))))))))))))))))
            ·refine wo hk (vF AM rfl BZ (wo hk (vL 0 Cc rfl (wo hk (wv (Bf rfl rfl) (wo hk (wm rfl (bz bM (λhC bN=>?_) (λhC bO=>?_)))))))))
             ·refine wo hC (vF AM rfl BH (wo hC (vL 0 Cd rfl (wo hC (wv (Bf rfl rfl) (wo hC (wm rfl (bz bN (λgp bP=>?_) (λgp bQ=>?_)))))))))
              ·exact wf gp (wf gp (wf gp (wo hC (wv (r:=rB true) (Az rfl gp rfl) (wo hk (C5 rfl hC rfl (Cq rfl hk rfl (Aj (As (At (true,()) bP (A4.c rfl A4.nil) (sS sN)))))))))))
              ·exact wo gp (vF AM rfl BH (wo gp (vL 0 Cd rfl (wo gp (wv (Bf rfl rfl) (wo hC (Cq rfl gp rfl (wo hk (C5 rfl hC rfl (Cq rfl hk rfl (Aj (As (At (!decide (f.fHigh=0),()) bQ (A4.c rfl A4.nil) (sS sN))))))))))))))
             ·exact wf hC (wf hC (wf hC (wf hC (wu (wu (wu (wf hC (wo hk (wv (r:=rB false) (Au rfl hC rfl) (Cq rfl hk rfl (Aj (As (At (false,()) bO (A4.c rfl A4.nil) (sS sN))))))))))))))
           ·refine wf gm (wf gm (wf gm (wo hB (wv (r:=rB false) (Au rfl gm rfl) (Cq rfl hB rfl (wm rfl (AJ (b:=false) rfl rfl rfl (vF AM rfl BZ (AJ (b:=false) rfl rfl rfl (vL 0 Cc rfl (AJ (b:=false) rfl rfl rfl (wv (Bf rfl rfl) (AJ (b:=false) rfl rfl rfl (wm rfl (bz bK (λhD bR=>?_) (λhD bS=>?_))))))))))))))))
            ·refine wo hD (vF AM rfl BH (wo hD (vL 0 Cd rfl (wo hD (wv (Bf rfl rfl) (wo hD (wm rfl (bz bR (λgq bT=>?_) (λgq bU=>?_)))))))))
             ·exact wf gq (wf gq (wf gq (wo hD (wv (r:=rB true) (Az rfl gq rfl) (AJ (b:=false) rfl rfl rfl (C5 rfl hD rfl (wv (r:=rB true) (Au (b:=false) rfl rfl rfl) (Aj (As (At (true,()) bT (A4.c rfl A4.nil) (sS sN)))))))))))
             ·exact wo gq (vF AM rfl BH (wo gq (vL 0 Cd rfl (wo gq (wv (Bf rfl rfl) (wo hD (Cq rfl gq rfl (AJ (b:=false) rfl rfl rfl (C5 rfl hD rfl (wv (r:=rB (!decide (f.fHigh=0))) (Au (b:=false) rfl rfl rfl) (Aj (As (At (!decide (f.fHigh=0),()) bU (A4.c rfl A4.nil) (sS sN))))))))))))))
            ·exact wf hD (wf hD (wf hD (wf hD (wu (wu (wu (wf hD (AJ (b:=false) rfl rfl rfl (wv (r:=rB false) (Au rfl hD rfl) (wv (r:=rB false) (Au (b:=false) rfl rfl rfl) (Aj (As (At (false,()) bS (A4.c rfl A4.nil) (sS sN))))))))))))))
         ·refine wf hO (wf hO (wf hO (wf hO (wv (r:=rB false) (Au rfl hO rfl) (wm rfl (AJ (b:=false) rfl rfl rfl (vF AM rfl BZ (AJ (b:=false) rfl rfl rfl (vL 0 Cc rfl (AJ (b:=false) rfl rfl rfl (wv (Bf rfl rfl) (AJ (b:=false) rfl rfl rfl (wm rfl (bz bG (λgr bV=>?_) (λgr bW=>?_)))))))))))))))
          ·refine wo gr (vF AM rfl CB (wo gr (vL 0 CO rfl (wo gr (wv (Eb rfl rfl) (AJ (b:=false) rfl rfl rfl (C5 rfl gr rfl (wv (r:=rB (!decide (f.fText=([]:Ar)))) (Au (b:=false) rfl rfl rfl) (wm rfl (bz bV (λhl bX=>?_) (λhl bY=>?_)))))))))))
           ·exact wf hl (wf hl (wf hl (wf hl (wu (wu (wu (wu (wu (wu (wu (wu (wf hl (wv (r:=rB true) (Az rfl hl rfl) (Aj (As (At (true,()) bX (A4.c rfl A4.nil) (sS sN)))))))))))))))))
           ·refine wo hl (vF AM rfl BZ (wo hl (vL 0 Cc rfl (wo hl (wv (Bf rfl rfl) (wo hl (wm rfl (bz bY (λhE bZ=>?_) (λhE ra=>?_)))))))))
            ·refine wo hE (vF AM rfl BH (wo hE (vL 0 Cd rfl (wo hE (wv (Bf rfl rfl) (wo hE (wm rfl (bz bZ (λgs rb=>?_) (λgs rc=>?_)))))))))
             ·exact wf gs (wf gs (wf gs (wo hE (wv (r:=rB true) (Az rfl gs rfl) (wo hl (C5 rfl hE rfl (Cq rfl hl rfl (Aj (As (At (true,()) rb (A4.c rfl A4.nil) (sS sN)))))))))))
             ·exact wo gs (vF AM rfl BH (wo gs (vL 0 Cd rfl (wo gs (wv (Bf rfl rfl) (wo hE (Cq rfl gs rfl (wo hl (C5 rfl hE rfl (Cq rfl hl rfl (Aj (As (At (!decide (f.fHigh=0),()) rc (A4.c rfl A4.nil) (sS sN))))))))))))))
            ·exact wf hE (wf hE (wf hE (wf hE (wu (wu (wu (wf hE (wo hl (wv (r:=rB false) (Au rfl hE rfl) (Cq rfl hl rfl (Aj (As (At (false,()) ra (A4.c rfl A4.nil) (sS sN))))))))))))))
          ·refine wf gr (wf gr (wf gr (AJ (b:=false) rfl rfl rfl (wv (r:=rB false) (Au rfl gr rfl) (wv (r:=rB false) (Au (b:=false) rfl rfl rfl) (wm rfl (AJ (b:=false) rfl rfl rfl (vF AM rfl BZ (AJ (b:=false) rfl rfl rfl (vL 0 Cc rfl (AJ (b:=false) rfl rfl rfl (wv (Bf rfl rfl) (AJ (b:=false) rfl rfl rfl (wm rfl (bz bW (λhG rd=>?_) (λhG re=>?_))))))))))))))))
           ·refine wo hG (vF AM rfl BH (wo hG (vL 0 Cd rfl (wo hG (wv (Bf rfl rfl) (wo hG (wm rfl (bz rd (λgt rg=>?_) (λgt rh=>?_)))))))))
            ·exact wf gt (wf gt (wf gt (wo hG (wv (r:=rB true) (Az rfl gt rfl) (AJ (b:=false) rfl rfl rfl (C5 rfl hG rfl (wv (r:=rB true) (Au (b:=false) rfl rfl rfl) (Aj (As (At (true,()) rg (A4.c rfl A4.nil) (sS sN)))))))))))
            ·exact wo gt (vF AM rfl BH (wo gt (vL 0 Cd rfl (wo gt (wv (Bf rfl rfl) (wo hG (Cq rfl gt rfl (AJ (b:=false) rfl rfl rfl (C5 rfl hG rfl (wv (r:=rB (!decide (f.fHigh=0))) (Au (b:=false) rfl rfl rfl) (Aj (As (At (!decide (f.fHigh=0),()) rh (A4.c rfl A4.nil) (sS sN))))))))))))))
           ·exact wf hG (wf hG (wf hG (wf hG (wu (wu (wu (wf hG (AJ (b:=false) rfl rfl rfl (wv (r:=rB false) (Au rfl hG rfl) (wv (r:=rB false) (Au (b:=false) rfl rfl rfl) (Aj (As (At (false,()) re (A4.c rfl A4.nil) (sS sN))))))))))))))
        ·rintro⟨gJ,⟨⟩⟩ g7;refine B2 (l':=[(132,rB gJ)]) (H':=[]) rfl rfl ?_;replace g7:BQ gJ=some r:=g7;unfold BQ at g7;refine cz g7 rfl (λri rj=>?_) (λri rk=>?_)
         ·refine Ah (wa rfl (Al (Aq (Ac ?_))));obtain rfl:=Am rj;exact Ap (Bw G1 (A9 rfl)) sN ⟨rfl,rfl⟩
         ·refine Av (AG (Ah (wa rfl (Al (Aq ?_)))));obtain rfl:=Am rk;exact Ap (Bw G1 (A9 rfl)) sN ⟨rfl,rfl⟩
theorem PN (F:Nat)(ha:Nat)(x:(List Aa))(v:(List Aa))(r:Bool)(h:Kn F x v=some r):Fn Tryz.prog GE 109 [AE 4 (A3 Ab x),rP ha 0] [.blk ha [AE 4 (A3 Ab v)] 28] (λR H=>R=rB r∧H=[.blk ha [AE 4 (A3 Ab v)] 28]):=by
 refine enter (n:=7) Tryz.func109 rfl Tryz.ntmps109 rfl (λw Z=>?_);unfold Kn at h;refine Ah (wa rfl (AW (wm rfl (vL 0 C9 rfl (ob h λr1 e3 h2=>Cs Tryz.call110 (RT F x v r1 e3) rfl (wa rfl (Al (Aq ?_))))))));obtain rfl:=Am h2;exact Ap (Bw Tryz.results109 (A9 rfl)) (sC sN) ⟨rfl,rfl⟩
theorem T1 (F:Nat)(ha:Nat)(ys:(List (List Aa)))(v:(List Aa))(r:Int)(h:S5 F ys v=some r):Fn Tryz.prog GE 141 [AE 1 (A3 Ae ys),rv (.func (.func 109) #[] #[(.pointer (some ⟨ha,0,none⟩))])] [.blk ha [AE 4 (A3 Ab v)] 28] (λR H=>R=Ai r∧H=[.blk ha [AE 4 (A3 Ab v)] 28]):=by
 refine enter (n:=19) JC rfl J8 rfl (λw Z=>?_);unfold S5 at h;refine Ah (wa rfl (Al (An (Ah (wm rfl (wv (AI (ys:=ys) (enc:=Ae) BN rfl) (wv (r:=Ai 0) (A5 rfl) (Al (AA (ob h λhi hj hh=>Bg (S:=Nat×(Int)×(Unit)) (V:=(Unit)×(Unit)) 0 (λσ=>BW (λσ=>HI F ys v σ) σ.1 σ.2.1=some hi) (λσ=>[(0,AE 1 (A3 Ae ys)),(1,rv (.func (.func 109) #[] #[(.pointer (some ⟨ha,0,none⟩))])),(7,Ai (ys.length:Int)),(8,Ai σ.2.1)]) (λσ=>[.blk ha [AE 4 (A3 Ab v)] 28]) (λσ=>σ.1) (F,0,()) hj (A4.c rfl (A4.c rfl (A4.c rfl (A4.c rfl A4.nil)))) (sC sN) (λσ=>Kl =some r) (λσ=>[]) (λσ=>[.blk ha [AE 4 (A3 Ab v)] 28]) ?_ ?_))))))))))
 ·rintro⟨h4,hb,⟨⟩⟩ hk;refine B2 (l':=[(0,AE 1 (A3 Ae ys)),(1,rv (.func (.func 109) #[] #[(.pointer (some ⟨ha,0,none⟩))])),(7,Ai (ys.length:Int)),(8,Ai hb)]) (H':=[.blk ha [AE 4 (A3 Ab v)] 28]) rfl rfl ?_;obtain⟨hl,rfl,hm,he,hg⟩:=Cf hk;replace he:HI F ys v hb=some hm:=he;unfold HI at he;refine Ah (wv (Cr rfl rfl) (Al (An (cz he rfl (λhn ho=>?_) (λhn hp=>?_)))))
  ·refine Av (AG (An (AA (Ah (wm rfl (wa rfl (AW (wm rfl (wm rfl (wm rfl (ck ho λhq hr=>wv (AT (enc:=Ae) (ys:=ys) BN BY rfl rfl hq) (wv (AL C9 rfl rfl) (ob hr λhs ht hu=>C2 (rs:=[AE 4 (A3 Ab (Ax ys hb))]) (Hin:=[.blk ha [AE 4 (A3 Ab v)] 28]) (Hr:=[]) Tryz.call109 rfl rfl (Vo _) (PN F ha (Ax ys hb) v hs ht) rfl ?_)))))))))))));rintro _ _ ⟨rfl,rfl⟩;refine Al (cz hu rfl (λhw hx=>?_) (λhw hy=>?_))
   ·refine Ah (wm rfl (wa rfl (Al (Aq (Ao (Ac (Ac (AN ?_))))))));have hz:=Be hx hg hh;refine Ao (Ac ?_);obtain rfl:=Am hz;exact Ap (Bw Eh (A9 rfl)) (sC sN) ⟨rfl,rfl⟩
   ·refine Av (A8 (AG (Ak (ck hy λh0 h1=>wv (Bj rfl rfl h0) (wm rfl (Aj ?_))))));have h2:=Bb h1 hg;exact As (At (hl,hb+1,()) ⟨h2,Vv _⟩ (A4.c rfl (A4.c rfl (A4.c rfl (A4.c rfl A4.nil)))) (sC sN))
  ·refine Bq (Ay ?_);have h3:=BD hp hg hh;exact Ay (AS (At ((),()) h3 A4.nil (sC sN)))
 ·rintro⟨⟨⟩,⟨⟩⟩ hf;refine Cj (l':=[]) (H':=[.blk ha [AE 4 (A3 Ab v)] 28]) rfl rfl ?_;replace hf:Kl =some r:=hf;unfold Kl at hf;refine AV (AG (Ah (wv (r:=Ai (-1)) (AD rfl) (Al (Aq ?_)))));obtain rfl:=Am hf;exact Ap (Bw Eh (A9 rfl)) (sC sN) ⟨rfl,rfl⟩
theorem Ua (F:Nat)(ha:Nat)(ys:(List (List Aa)))(v:(List Aa))(r:Bool)(h:R6 F ys v=some r):Fn Tryz.prog GE 108 [AE 1 (A3 Ae ys),rv (.func (.func 109) #[] #[(.pointer (some ⟨ha,0,none⟩))])] [.blk ha [AE 4 (A3 Ab v)] 28] (λR H=>R=rB r∧H=[.blk ha [AE 4 (A3 Ab v)] 28]):=by
 refine enter (n:=9) JD rfl J9 rfl (λw Z=>?_);unfold R6 at h;refine Ah (wa rfl (AW (wm rfl (wm rfl (ob h λr1 e3 h2=>Dk (Hr:=[]) JA (T1 F ha ys v r1 e3) rfl (Vo _) rfl ?_)))));rintro _ _ ⟨rfl,rfl⟩;refine wv (Hi rfl rfl) (wa rfl (Al (Aq ?_)));obtain rfl:=Am h2;exact Ap (Bw J7 (A9 rfl)) (sC sN) ⟨rfl,rfl⟩
theorem H0 (F:Nat)(l:(List (List Aa)))(v:(List Aa))(r:Bool)(h:GP F l v=some r):Fn Tryz.prog GE 78 [AE 1 (A3 Ae l),AE 4 (A3 Ab v)] [] (λR H=>R=rB r∧H=[]):=by
 refine enter (n:=8) Tryz.func78 rfl Tryz.ntmps78 rfl (λw Z=>?_);unfold GP at h;refine Ah (JG rfl (B3 rfl) rfl (λb1=>?_));refine wa rfl (AW (wm rfl (wv (r:=rv (.func (.func 109) #[] #[(.pointer (some ⟨b1,0,none⟩))])) (BB rfl) (ob h λr2 e4 h3=>Dk (Hr:=[]) JB (Ua F b1 l v r2 e4) rfl (Vo _) rfl ?_))));rintro _ _ ⟨rfl,rfl⟩;refine wa rfl (Al (Aq ?_));obtain rfl:=Am h3;exact Ap (Bw Tryz.results78 (A9 rfl)) (sS sN) ⟨rfl,rfl⟩
theorem Jx (v:(List Aa))(pre:Ar)(r:Bool)(h:GO v pre=some r):Fn Tryz.prog GE 79 [AE 4 (A3 Ab v),rS pre] [] (λR H=>R=rB r∧H=[]):=by
 refine enter (n:=18) Tryz.func79 rfl Tryz.ntmps79 rfl (λw Z=>?_);unfold GO at h;refine Ah (wa rfl (Al (ck h λg1 h2=>ck h2 λg3 h4=>AK [(4,rB ((decide (((Ax v 0).fKind)=4))&&(ov (CG ((Ax v 0).fStr) pre))))] [] ?_ ?_)))
 ·refine Ak (wm rfl (wv (AT (enc:=Ab) (ys:=v) B0 BI rfl rfl g1) (wv (AR BA rfl Dw rfl rfl) (wv (AL DJ rfl rfl) (wv (Bz rfl rfl) (wm rfl (AU (decide (((Ax v 0).fKind)=4)) (λc5=>?_) (λc5=>?_))))))))
  ·refine wo c5 (wm rfl (wo c5 (wv (AT (enc:=Ab) (ys:=v) B0 BI rfl rfl g1) (wo c5 (wv (AR BA rfl CB rfl rfl) (wo c5 (wv (AL CO rfl rfl) (wo c5 (wm rfl (wo c5 (Cs Tryz.call98 (EO ((Ax v 0).fStr) pre (ov (CG ((Ax v 0).fStr) pre)) (Gn (Dq g3 c5))) rfl (C5 rfl c5 rfl (wa rfl (Aj ?_))))))))))))));exact Cp c5
  ·refine wf c5 (wf c5 (wf c5 (wf c5 (wf c5 (wf c5 (wv (r:=rB false) (Au rfl c5 rfl) (wa rfl (Aj ?_))))))));exact Cp c5
 refine Aq ?_;obtain rfl:=Am h4;exact Ap (Bw Tryz.results79 (A9 rfl)) sN ⟨rfl,rfl⟩
theorem Ju (v:(List Aa))(low:Int)(high:Int)(r:Bool)(h:GL v low high=some r):Fn Tryz.prog GE 80 [AE 4 (A3 Ab v),Ai low,Ai high] [] (λR H=>R=rB r∧H=[]):=by
 refine enter (n:=28) Tryz.func80 rfl Tryz.ntmps80 rfl (λw Z=>?_);unfold GL at h;refine Ah (wa rfl (Al (ck h λg1 h2=>AK [(6,rB ((decide (((Ax v 0).fKind)=3))&&((decide (low≤((Ax v 0).fInt)))&&(decide (((Ax v 0).fInt)≤high)))))] [] ?_ ?_)))
 ·refine Ak (wm rfl (wv (AT (enc:=Ab) (ys:=v) B0 BI rfl rfl g1) (wv (AR BA rfl Dw rfl rfl) (wv (AL DJ rfl rfl) (wv (Bz rfl rfl) (wm rfl (AU (decide (((Ax v 0).fKind)=3)) (λc3=>?_) (λc3=>?_))))))))
  ·refine wo c3 (wm rfl (wo c3 (wm rfl (wo c3 (wv (AT (enc:=Ab) (ys:=v) B0 BI rfl rfl g1) (wo c3 (wv (AR BA rfl BH rfl rfl) (wo c3 (wv (AL Cd rfl rfl) (wo c3 (wv (KR rfl rfl) (C5 rfl c3 rfl (wm rfl (AU (decide (low≤((Ax v 0).fInt))) (λc4=>?_) (λc4=>?_)))))))))))))))
   ·refine wo c4 (wm rfl (wo c4 (wv (AT (enc:=Ab) (ys:=v) B0 BI rfl rfl g1) (wo c4 (wv (AR BA rfl BH rfl rfl) (wo c4 (wv (AL Cd rfl rfl) (wo c4 (wm rfl (wo c4 (wv (KR rfl rfl) (C5 rfl c4 rfl (wa rfl (Aj ?_))))))))))))));exact Cp (And.intro c3 c4)
   ·refine wf c4 (wf c4 (wf c4 (wf c4 (wf c4 (wf c4 (wv (r:=rB false) (Au rfl c4 rfl) (wa rfl (Aj ?_))))))));exact Cp (And.intro c3 c4)
  ·refine wf c3 (wf c3 (wf c3 (wf c3 (wf c3 (wf c3 (wv (r:=rB false) (Au rfl c3 rfl) (wm rfl (wz rfl rfl (wz rfl rfl (wz rfl rfl (wz rfl rfl (wz rfl rfl (wz rfl rfl (wv (r:=rB false) (Au (b:=false) rfl rfl rfl) (wa rfl (Aj ?_))))))))))))))));exact Cp c3
 refine Aq ?_;obtain rfl:=Am h2;exact Ap (Bw Tryz.results80 (A9 rfl)) sN ⟨rfl,rfl⟩
theorem SD (F:Nat)(f:Af)(v:(List Aa))(r:Bool)(h:JP F f v=some r):Fn Tryz.prog GE 37 [Bt (Ad f),AE 4 (A3 Ab v)] [] (λR H=>R=rB r∧H=[]):=by
 refine enter (n:=48) Tryz.func37 rfl Tryz.ntmps37 rfl (λw Z=>?_);unfold JP at h;refine Ah (By rfl rfl (λb1=>?_));refine wa rfl (AW (wm rfl (vF AM rfl Gd (vL 0 Hg rfl (ob h λr2 e4 h3=>Cs Tryz.call77 (RW F v f.fPath r2 e4) rfl (wm rfl (wv (A7 rfl rfl) (wv (A7 rfl rfl) (wa rfl (wa rfl (Al (An (Ah (wm rfl (wv (Bf rfl rfl) (Al (cz h3 rfl (λc5 h6=>?_) (λc5 h7=>?_))))))))))))))))))
 ·refine Ah (vF AM rfl BZ (vL 0 Cc rfl (wv (Bz rfl rfl) (wa rfl (Al (Aq (Ac ?_)))))));obtain rfl:=Am h6;exact Ap (Bw NH (A9 rfl)) (sS sN) ⟨rfl,rfl⟩
 ·refine Av (AG (An (Ah (vF AM rfl BZ (vL 0 Cc rfl (Al (AA (Ah (wv (Bz rfl rfl) (wa rfl (Al (cz h7 rfl (λc8 h9=>?_) (λc8 hf=>?_)))))))))))))
  ·refine Ah (wa rfl (Al (Aq (Ao (Ac ?_)))));obtain rfl:=Am h9;exact Ap (Bw NH (A9 rfl)) (sS sN) ⟨rfl,rfl⟩
  ·refine An (Ah (wv (Bz rfl rfl) (wa rfl (Al (cz hf rfl (λhe hg=>?_) (λhe hh=>?_))))))
   ·refine Av (AG (De rfl he (An (ob hg λha hi hj=>Cy [2,5] [⟨[],rP b1 2,0⟩,⟨[0],AE 1 (A3 Ae f.fValues),1⟩,⟨[],AE 4 (A3 Ab r2.1),0⟩,⟨[1,2],rB ha,0⟩,⟨[],rP b1 1,0⟩,⟨[4],Ai f.fOp,1⟩,⟨[5],rB (decide (f.fOp=3)),0⟩,⟨[3,6],rB (ha ==(decide (f.fOp=3))),0⟩,⟨[7],rB (ha ==(decide (f.fOp=3))),0⟩] [4] ?_ ?_))))
    ·refine oq (AB AM rfl CD rfl rfl) (of (Bc (i:=0) CR rfl rfl rfl) (oq (A5 rfl) (Dh rfl (λH=>Ea Qk (H0 F f.fValues r2.1 ha hi) rfl) ?_)));refine oq (AB AM rfl BZ rfl rfl) (of (Bc (i:=0) Cc rfl rfl rfl) (oq (Bz rfl rfl) (oq (Nl UL rfl rfl) (oq (AD rfl) ?_))));exact Ce
    refine AG (Aq (Ao (Ac ?_)));obtain rfl:=Am hj;exact Ap (Bw NH (A9 rfl)) (sS sN) ⟨rfl,rfl⟩
   ·refine Ak (wv (Bz rfl rfl) (wa rfl (Al (cz hh rfl (λhk hl=>?_) (λhk hm=>?_)))))
    ·refine An (ob hl λhb hn ho=>Cy [2,5] [⟨[],rP b1 2,0⟩,⟨[0],AE 1 (A3 Ae f.fValues),1⟩,⟨[],AE 4 (A3 Ab r2.1),0⟩,⟨[1,2],rB hb,0⟩,⟨[],rP b1 1,0⟩,⟨[4],Ai f.fOp,1⟩,⟨[5],rB (decide (f.fOp=3)),0⟩,⟨[3,6],rB (hb ==(decide (f.fOp=3))),0⟩,⟨[7],rB (hb ==(decide (f.fOp=3))),0⟩] [4] ?_ ?_)
     ·refine oq (AB AM rfl CD rfl rfl) (of (Bc (i:=0) CR rfl rfl rfl) (oq (A5 rfl) (Dh rfl (λH=>Ea Qk (H0 F f.fValues r2.1 hb hn) rfl) ?_)));refine oq (AB AM rfl BZ rfl rfl) (of (Bc (i:=0) Cc rfl rfl rfl) (oq (Bz rfl rfl) (oq (Nl UL rfl rfl) (oq (AD rfl) ?_))));exact Ce
     refine AG (Aq (Ao (Ac ?_)));obtain rfl:=Am ho;exact Ap (Bw NH (A9 rfl)) (sS sN) ⟨rfl,rfl⟩
    ·refine Ah (wv (Bz rfl rfl) (wa rfl (Al (cz hm rfl (λhp hq=>?_) (λhp hr=>?_)))))
     ·refine Ah (wm rfl (vF AM rfl CB (vL 0 CO rfl (ob hq λhs ht hu=>Cs Tryz.call79 (Jx r2.1 f.fText hs ht) rfl (wa rfl (Al (Aq (Ao (Ac ?_)))))))));obtain rfl:=Am hu;exact Ap (Bw NH (A9 rfl)) (sS sN) ⟨rfl,rfl⟩
     ·refine Ah (wv (Bz rfl rfl) (wa rfl (Al (cz hr rfl (λhw hx=>?_) (λhw hy=>?_)))))
      ·refine Ah (wm rfl (vF AM rfl BH (vL 0 Cd rfl (vF AM rfl BH (vL 0 Cd rfl (ob hx λhz h0 h1=>Cs Tryz.call80 (Ju r2.1 f.fLow f.fHigh hz h0) rfl (wa rfl (Al (Aq (Ao (Ac ?_)))))))))));obtain rfl:=Am h1;exact Ap (Bw NH (A9 rfl)) (sS sN) ⟨rfl,rfl⟩
      ·refine Av (A8 (AG (Ah (wa rfl (Al (Aq ?_))))));obtain rfl:=Am hy;exact Ap (Bw NH (A9 rfl)) (sS sN) ⟨rfl,rfl⟩
theorem Of (F:Nat)(f:Af)(v:(List Aa))(r:Bool)(h:Og F f v=some r):Fn Tryz.prog GE 15 [Bt (Ad f),AE 4 (A3 Ab v)] [] (λR H=>R=rB r∧H=[]):=by
 refine enter (n:=18) Tryz.func15 rfl Tryz.ntmps15 rfl (λw Z=>?_);unfold Og at h;refine Ah (By rfl rfl (λb1=>?_));refine wa rfl (Al (ck h λg2 h3=>ck h3 λg4 h5=>ck h5 λg6 h7=>AK [(4,rB ((decide ((ov (C1 F f))=0))&&((decide ((ov (CL F v))=0))&&(ov (JP F f v)))))] [] ?_ ?_))
 ·refine Ak (wv (AH (i:=0) Cb B5 rfl rfl rfl rfl) (Cs Qp (Hz F f (ov (C1 F f)) (Gn g2)) rfl (wv (Bz rfl rfl) (wm rfl (AU (decide ((ov (C1 F f))=0)) (λc8=>?_) (λc8=>?_))))))
  ·refine wo c8 (wm rfl (wo c8 (Cs Lu (Dm F v (ov (CL F v)) (Gn (Dq g4 c8))) rfl (wo c8 (wv (Bz rfl rfl) (C5 rfl c8 rfl (wm rfl (AU (decide ((ov (CL F v))=0)) (λc9=>?_) (λc9=>?_)))))))))
   ·refine wo c9 (wv (AH (i:=0) Cb B5 rfl rfl rfl rfl) (wo c9 (wm rfl (wo c9 (Cs Tryz.call37 (SD F f v (ov (JP F f v)) (Gn (Dq (Dq g6 c8) c9))) rfl (C5 rfl c9 rfl (wa rfl (Aj ?_))))))));exact Cp (And.intro c8 c9)
   ·refine wf c9 (wf c9 (wf c9 (wv (r:=rB false) (Au rfl c9 rfl) (wa rfl (Aj ?_)))));exact Cp (And.intro c8 c9)
  ·refine wf c8 (wf c8 (wf c8 (wv (r:=rB false) (Au rfl c8 rfl) (wm rfl (wz rfl rfl (wz rfl rfl (wz rfl rfl (wv (r:=rB false) (Au (b:=false) rfl rfl rfl) (wa rfl (Aj ?_))))))))));exact Cp c8
 refine Aq ?_;obtain rfl:=Am h7;exact Ap (Bw Tryz.results15 (A9 rfl)) sN ⟨rfl,rfl⟩
theorem PH (F:Nat)(ha:Nat)(f:Af)(v:(List Aa))(r:Bool)(h:Km F f v=some r):Fn Tryz.prog GE 43 [Bt (Ad f),rP ha 0] [.blk ha [AE 4 (A3 Ab v)] 28] (λR H=>R=rB r∧H=[.blk ha [AE 4 (A3 Ab v)] 28]):=by
 refine enter (n:=8) Tryz.func43 rfl Tryz.ntmps43 rfl (λw Z=>?_);unfold Km at h;refine Ah (By rfl rfl (λb1=>?_));refine wa rfl (AW (wv (AH (i:=0) Cb B5 rfl rfl rfl rfl) (vL 1 C9 rfl (ob h λr2 e4 h3=>Cs Tryz.call15 (Of F f v r2 e4) rfl (wv (B1 rfl) (wa rfl (Al (Aq ?_))))))));obtain rfl:=Am h3;exact Ap (Bw Tryz.results43 (A9 rfl)) (sS (sC sN)) ⟨rfl,rfl⟩
theorem UA (F:Nat)(ha:Nat)(ys:(List Af))(v:(List Aa))(r:Int)(h:US F ys v=some r):Fn Tryz.prog GE 84 [AE 6 (A3 Ad ys),rv (.func (.func 43) #[] #[(.pointer (some ⟨ha,0,none⟩))])] [.blk ha [AE 4 (A3 Ab v)] 28] (λR H=>R=Ai r∧H=[.blk ha [AE 4 (A3 Ab v)] 28]):=by
 refine enter (n:=19) Tryz.func84 rfl Tryz.ntmps84 rfl (λw Z=>?_);unfold US at h;refine Ah (wa rfl (Al (An (Ah (wm rfl (wv (AI (ys:=ys) (enc:=Ad) JS rfl) (wv (r:=Ai 0) (A5 rfl) (Al (AA (ob h λhi hj hh=>Bg (S:=Nat×(Int)×(Unit)) (V:=(Unit)×(Unit)) 0 (λσ=>BW (λσ=>Jr F ys v σ) σ.1 σ.2.1=some hi) (λσ=>[(0,AE 6 (A3 Ad ys)),(1,rv (.func (.func 43) #[] #[(.pointer (some ⟨ha,0,none⟩))])),(7,Ai (ys.length:Int)),(8,Ai σ.2.1)]) (λσ=>[.blk ha [AE 4 (A3 Ab v)] 28]) (λσ=>σ.1) (F,0,()) hj (A4.c rfl (A4.c rfl (A4.c rfl (A4.c rfl A4.nil)))) (sC sN) (λσ=>Ms =some r) (λσ=>[]) (λσ=>[.blk ha [AE 4 (A3 Ab v)] 28]) ?_ ?_))))))))))
 ·rintro⟨h4,hb,⟨⟩⟩ hk;refine B2 (l':=[(0,AE 6 (A3 Ad ys)),(1,rv (.func (.func 43) #[] #[(.pointer (some ⟨ha,0,none⟩))])),(7,Ai (ys.length:Int)),(8,Ai hb)]) (H':=[.blk ha [AE 4 (A3 Ab v)] 28]) rfl rfl ?_;obtain⟨hl,rfl,hm,he,hg⟩:=Cf hk;replace he:Jr F ys v hb=some hm:=he;unfold Jr at he;refine Ah (wv (Cr rfl rfl) (Al (An (cz he rfl (λhn ho=>?_) (λhn hp=>?_)))))
  ·refine Av (AG (An (AA (Ah (wm rfl (wa rfl (AW (wm rfl (wm rfl (wm rfl (ck ho λhq hr=>wv (AT (enc:=Ad) (ys:=ys) JS B5 rfl rfl hq) (wv (D2 Cb B5 rfl rfl rfl) (ob hr λhs ht hu=>C2 (rs:=[Bt (Ad (Ax ys hb))]) (Hin:=[.blk ha [AE 4 (A3 Ab v)] 28]) (Hr:=[]) Tryz.call43 rfl rfl (Vo _) (PH F ha (Ax ys hb) v hs ht) rfl ?_)))))))))))));rintro _ _ ⟨rfl,rfl⟩;refine Al (cz hu rfl (λhw hx=>?_) (λhw hy=>?_))
   ·refine Ah (wm rfl (wa rfl (Al (Aq (Ao (Ac (Ac (AN ?_))))))));have hz:=Be hx hg hh;refine Ao (Ac ?_);obtain rfl:=Am hz;exact Ap (Bw Tryz.results84 (A9 rfl)) (sC sN) ⟨rfl,rfl⟩
   ·refine Av (A8 (AG (Ak (ck hy λh0 h1=>wv (Bj rfl rfl h0) (wm rfl (Aj ?_))))));have h2:=Bb h1 hg;exact As (At (hl,hb+1,()) ⟨h2,Vv _⟩ (A4.c rfl (A4.c rfl (A4.c rfl (A4.c rfl A4.nil)))) (sC sN))
  ·refine Bq (Ay ?_);have h3:=BD hp hg hh;exact Ay (AS (At ((),()) h3 A4.nil (sC sN)))
 ·rintro⟨⟨⟩,⟨⟩⟩ hf;refine Cj (l':=[]) (H':=[.blk ha [AE 4 (A3 Ab v)] 28]) rfl rfl ?_;replace hf:Ms =some r:=hf;unfold Ms at hf;refine AV (AG (Ah (wv (r:=Ai (-1)) (AD rfl) (Al (Aq ?_)))));obtain rfl:=Am hf;exact Ap (Bw Tryz.results84 (A9 rfl)) (sC sN) ⟨rfl,rfl⟩
theorem UG (F:Nat)(ha:Nat)(ys:(List Af))(v:(List Aa))(r:Bool)(h:UH F ys v=some r):Fn Tryz.prog GE 42 [AE 6 (A3 Ad ys),rv (.func (.func 43) #[] #[(.pointer (some ⟨ha,0,none⟩))])] [.blk ha [AE 4 (A3 Ab v)] 28] (λR H=>R=rB r∧H=[.blk ha [AE 4 (A3 Ab v)] 28]):=by
 refine enter (n:=9) Tryz.func42 rfl Tryz.ntmps42 rfl (λw Z=>?_);unfold UH at h;refine Ah (wa rfl (AW (wm rfl (wm rfl (ob h λr1 e3 h2=>Dk (Hr:=[]) Tryz.call84 (UA F ha ys v r1 e3) rfl (Vo _) rfl ?_)))));rintro _ _ ⟨rfl,rfl⟩;refine wv (Hi rfl rfl) (wa rfl (Al (Aq ?_)));obtain rfl:=Am h2;exact Ap (Bw Tryz.results42 (A9 rfl)) (sC sN) ⟨rfl,rfl⟩
theorem Hy (F:Nat)(l:(List Af))(v:(List Aa))(r:Bool)(h:Br F l v=some r):Fn Tryz.prog GE 17 [AE 6 (A3 Ad l),AE 4 (A3 Ab v)] [] (λR H=>R=rB r∧H=[]):=by
 refine enter (n:=19) Tryz.func17 rfl Tryz.ntmps17 rfl (λw Z=>?_);unfold Br at h;refine Ah (JG rfl (B3 rfl) rfl (λb1=>?_));refine wa rfl (Al (BG (S:=(Bool)×(Unit)) (λσ=>DM σ.1=some r) (λσ=>[(4,rB σ.1)]) (λσ=>[]) ?_ ?_))
 ·refine Ak (wm rfl (wv (AI (ys:=l) (enc:=Ad) JS rfl) (wv (KR rfl rfl) (wm rfl (bz h (λhb hh=>?_) (λhb hi=>?_))))))
  ·refine wo hb (vL 0 C9 rfl (wo hb (ob hh λhj hk hl=>Cs Lu (Dm F v hj hk) rfl (wo hb (wv (Bz rfl rfl) (C5 rfl hb rfl (wm rfl (bz hl (λha hm=>?_) (λha hn=>?_)))))))))
   ·refine wo ha (wm rfl (wo ha (wv (r:=rv (.func (.func 43) #[] #[(.pointer (some ⟨b1,0,none⟩))])) (BB rfl) (wo ha (ob hm λhf ho hp=>Dk (Hr:=[]) Tryz.call42 (UG F b1 l v hf ho) rfl (Vo _) rfl ?_)))));rintro _ _ ⟨rfl,rfl⟩;exact wo ha (wv (B1 rfl) (C5 rfl ha rfl (wa rfl (Aj (As (At (!hf,()) hp (A4.c rfl A4.nil) (sS sN)))))))
   ·exact wf ha (wf ha (wf ha (wf ha (wv (r:=rB false) (Au rfl ha rfl) (wa rfl (Aj (As (At (false,()) hn (A4.c rfl A4.nil) (sS sN)))))))))
  ·exact wf hb (wf hb (wf hb (wv (r:=rB false) (Au rfl hb rfl) (wm rfl (wz rfl rfl (wz rfl rfl (wz rfl rfl (wz rfl rfl (wv (r:=rB false) (Au (b:=false) rfl rfl rfl) (wa rfl (Aj (As (At (false,()) hi (A4.c rfl A4.nil) (sS sN))))))))))))))
 ·rintro⟨hg,⟨⟩⟩ he;refine B2 (l':=[(4,rB hg)]) (H':=[]) rfl rfl ?_;replace he:DM hg=some r:=he;unfold DM at he;refine Aq ?_;obtain rfl:=Am he;exact Ap (Bw Tryz.results17 (A9 rfl)) sN ⟨rfl,rfl⟩
theorem TK (F:Nat)(ha:Nat)(v:(List Aa))(a:Af)(r:Bool)(h:TL F v a=some r):Fn Tryz.prog GE 132 [AE 4 (A3 Ab v),rP ha 0] [.blk ha (Ad a) 26] (λR H=>R=rB r∧H=[.blk ha (Ad a) 26]):=by
 refine enter (n:=9) Tryz.func132 rfl Tryz.ntmps132 rfl (λw Z=>?_);unfold TL at h;refine Ah (wa rfl (AW (vF AM rfl CD (vL 0 CR rfl (wm rfl (ob h λr1 e3 h2=>Cs Qk (H0 F a.fValues v r1 e3) rfl (wv (B1 rfl) (wa rfl (Al (Aq ?_))))))))));obtain rfl:=Am h2;exact Ap (Bw Tryz.results132 (A9 rfl)) (sC sN) ⟨rfl,rfl⟩
theorem S4 (F:Nat)(ha:Nat)(ys:(List (List Aa)))(a:Af)(r:Int)(h:Ra F ys a=some r):Fn Tryz.prog GE 141 [AE 1 (A3 Ae ys),rv (.func (.func 132) #[] #[(.pointer (some ⟨ha,0,none⟩))])] [.blk ha (Ad a) 26] (λR H=>R=Ai r∧H=[.blk ha (Ad a) 26]):=by
 refine enter (n:=19) JC rfl J8 rfl (λw Z=>?_);unfold Ra at h;refine Ah (wa rfl (Al (An (Ah (wm rfl (wv (AI (ys:=ys) (enc:=Ae) BN rfl) (wv (r:=Ai 0) (A5 rfl) (Al (AA (ob h λhi hj hh=>Bg (S:=Nat×(Int)×(Unit)) (V:=(Unit)×(Unit)) 0 (λσ=>BW (λσ=>IM F ys a σ) σ.1 σ.2.1=some hi) (λσ=>[(0,AE 1 (A3 Ae ys)),(1,rv (.func (.func 132) #[] #[(.pointer (some ⟨ha,0,none⟩))])),(7,Ai (ys.length:Int)),(8,Ai σ.2.1)]) (λσ=>[.blk ha (Ad a) 26]) (λσ=>σ.1) (F,0,()) hj (A4.c rfl (A4.c rfl (A4.c rfl (A4.c rfl A4.nil)))) (sC sN) (λσ=>IL =some r) (λσ=>[]) (λσ=>[.blk ha (Ad a) 26]) ?_ ?_))))))))))
 ·rintro⟨h4,hb,⟨⟩⟩ hk;refine B2 (l':=[(0,AE 1 (A3 Ae ys)),(1,rv (.func (.func 132) #[] #[(.pointer (some ⟨ha,0,none⟩))])),(7,Ai (ys.length:Int)),(8,Ai hb)]) (H':=[.blk ha (Ad a) 26]) rfl rfl ?_;obtain⟨hl,rfl,hm,he,hg⟩:=Cf hk;replace he:IM F ys a hb=some hm:=he;unfold IM at he;refine Ah (wv (Cr rfl rfl) (Al (An (cz he rfl (λhn ho=>?_) (λhn hp=>?_)))))
  ·refine Av (AG (An (AA (Ah (wm rfl (wa rfl (AW (wm rfl (wm rfl (wm rfl (ck ho λhq hr=>wv (AT (enc:=Ae) (ys:=ys) BN BY rfl rfl hq) (wv (AL C9 rfl rfl) (ob hr λhs ht hu=>C2 (rs:=[AE 4 (A3 Ab (Ax ys hb))]) (Hin:=[.blk ha (Ad a) 26]) (Hr:=[]) Tryz.call132 rfl rfl (Vo _) (TK F ha (Ax ys hb) a hs ht) rfl ?_)))))))))))));rintro _ _ ⟨rfl,rfl⟩;refine Al (cz hu rfl (λhw hx=>?_) (λhw hy=>?_))
   ·refine Ah (wm rfl (wa rfl (Al (Aq (Ao (Ac (Ac (AN ?_))))))));have hz:=Be hx hg hh;refine Ao (Ac ?_);obtain rfl:=Am hz;exact Ap (Bw Eh (A9 rfl)) (sC sN) ⟨rfl,rfl⟩
   ·refine Av (A8 (AG (Ak (ck hy λh0 h1=>wv (Bj rfl rfl h0) (wm rfl (Aj ?_))))));have h2:=Bb h1 hg;exact As (At (hl,hb+1,()) ⟨h2,Vv _⟩ (A4.c rfl (A4.c rfl (A4.c rfl (A4.c rfl A4.nil)))) (sC sN))
  ·refine Bq (Ay ?_);have h3:=BD hp hg hh;exact Ay (AS (At ((),()) h3 A4.nil (sC sN)))
 ·rintro⟨⟨⟩,⟨⟩⟩ hf;refine Cj (l':=[]) (H':=[.blk ha (Ad a) 26]) rfl rfl ?_;replace hf:IL =some r:=hf;unfold IL at hf;refine AV (AG (Ah (wv (r:=Ai (-1)) (AD rfl) (Al (Aq ?_)))));obtain rfl:=Am hf;exact Ap (Bw Eh (A9 rfl)) (sC sN) ⟨rfl,rfl⟩
theorem SM (F:Nat)(ha:Nat)(ys:(List (List Aa)))(a:Af)(r:Bool)(h:R5 F ys a=some r):Fn Tryz.prog GE 108 [AE 1 (A3 Ae ys),rv (.func (.func 132) #[] #[(.pointer (some ⟨ha,0,none⟩))])] [.blk ha (Ad a) 26] (λR H=>R=rB r∧H=[.blk ha (Ad a) 26]):=by
 refine enter (n:=9) JD rfl J9 rfl (λw Z=>?_);unfold R5 at h;refine Ah (wa rfl (AW (wm rfl (wm rfl (ob h λr1 e3 h2=>Dk (Hr:=[]) JA (S4 F ha ys a r1 e3) rfl (Vo _) rfl ?_)))));rintro _ _ ⟨rfl,rfl⟩;refine wv (Hi rfl rfl) (wa rfl (Al (Aq ?_)));obtain rfl:=Am h2;exact Ap (Bw J7 (A9 rfl)) (sC sN) ⟨rfl,rfl⟩
theorem Rr (F:Nat)(ha:Nat)(f:Af)(a:Af)(r:Bool)(h:Ok F f a=some r):Fn Tryz.prog GE 131 [Bt (Ad f),rv (.func (.func 132) #[] #[(.pointer (some ⟨ha,0,none⟩))])] [.blk ha (Ad a) 26] (λR H=>R=rB r∧H=[.blk ha (Ad a) 26]):=by
 refine enter (n:=10) Tryz.func131 rfl Tryz.ntmps131 rfl (λw Z=>?_);unfold Ok at h;refine Ah (By rfl rfl (λb1=>?_));refine wa rfl (AW (vF AM rfl CD (vL 0 CR rfl (wm rfl (ob h λr2 e4 h3=>Dk (Hr:=[.blk b1 (Ad f) 26]) JB (SM F ha f.fValues a r2 e4) rfl ((A0 (i:=1) rfl).trans (Vp _ (Vo _))) rfl ?_)))));rintro _ _ ⟨rfl,rfl⟩;refine wv (B1 rfl) (wa rfl (Al (Aq ?_)));obtain rfl:=Am h3;exact Ap (Bw O1 (A9 rfl)) (sC (sS sN)) ⟨rfl,rfl⟩
theorem TI (F:Nat)(ha:Nat)(v:(List Aa))(b:Af)(r:Bool)(h:TJ F v b=some r):Fn Tryz.prog GE 133 [AE 4 (A3 Ab v),rP ha 0] [.blk ha (Ad b) 26] (λR H=>R=rB r∧H=[.blk ha (Ad b) 26]):=by
 refine enter (n:=8) Tryz.func133 rfl Tryz.ntmps133 rfl (λw Z=>?_);unfold TJ at h;refine Ah (wa rfl (AW (vF AM rfl CD (vL 0 CR rfl (wm rfl (ob h λr1 e3 h2=>Cs Qk (H0 F b.fValues v r1 e3) rfl (wa rfl (Al (Aq ?_)))))))));obtain rfl:=Am h2;exact Ap (Bw Tryz.results133 (A9 rfl)) (sC sN) ⟨rfl,rfl⟩
theorem S3 (F:Nat)(ha:Nat)(ys:(List (List Aa)))(b:Af)(r:Int)(h:QZ F ys b=some r):Fn Tryz.prog GE 141 [AE 1 (A3 Ae ys),rv (.func (.func 133) #[] #[(.pointer (some ⟨ha,0,none⟩))])] [.blk ha (Ad b) 26] (λR H=>R=Ai r∧H=[.blk ha (Ad b) 26]):=by
 refine enter (n:=19) JC rfl J8 rfl (λw Z=>?_);unfold QZ at h;refine Ah (wa rfl (Al (An (Ah (wm rfl (wv (AI (ys:=ys) (enc:=Ae) BN rfl) (wv (r:=Ai 0) (A5 rfl) (Al (AA (ob h λhi hj hh=>Bg (S:=Nat×(Int)×(Unit)) (V:=(Unit)×(Unit)) 0 (λσ=>BW (λσ=>IK F ys b σ) σ.1 σ.2.1=some hi) (λσ=>[(0,AE 1 (A3 Ae ys)),(1,rv (.func (.func 133) #[] #[(.pointer (some ⟨ha,0,none⟩))])),(7,Ai (ys.length:Int)),(8,Ai σ.2.1)]) (λσ=>[.blk ha (Ad b) 26]) (λσ=>σ.1) (F,0,()) hj (A4.c rfl (A4.c rfl (A4.c rfl (A4.c rfl A4.nil)))) (sC sN) (λσ=>IJ =some r) (λσ=>[]) (λσ=>[.blk ha (Ad b) 26]) ?_ ?_))))))))))
 ·rintro⟨h4,hb,⟨⟩⟩ hk;refine B2 (l':=[(0,AE 1 (A3 Ae ys)),(1,rv (.func (.func 133) #[] #[(.pointer (some ⟨ha,0,none⟩))])),(7,Ai (ys.length:Int)),(8,Ai hb)]) (H':=[.blk ha (Ad b) 26]) rfl rfl ?_;obtain⟨hl,rfl,hm,he,hg⟩:=Cf hk;replace he:IK F ys b hb=some hm:=he;unfold IK at he;refine Ah (wv (Cr rfl rfl) (Al (An (cz he rfl (λhn ho=>?_) (λhn hp=>?_)))))
  ·refine Av (AG (An (AA (Ah (wm rfl (wa rfl (AW (wm rfl (wm rfl (wm rfl (ck ho λhq hr=>wv (AT (enc:=Ae) (ys:=ys) BN BY rfl rfl hq) (wv (AL C9 rfl rfl) (ob hr λhs ht hu=>C2 (rs:=[AE 4 (A3 Ab (Ax ys hb))]) (Hin:=[.blk ha (Ad b) 26]) (Hr:=[]) Tryz.call133 rfl rfl (Vo _) (TI F ha (Ax ys hb) b hs ht) rfl ?_)))))))))))));rintro _ _ ⟨rfl,rfl⟩;refine Al (cz hu rfl (λhw hx=>?_) (λhw hy=>?_))
   ·refine Ah (wm rfl (wa rfl (Al (Aq (Ao (Ac (Ac (AN ?_))))))));have hz:=Be hx hg hh;refine Ao (Ac ?_);obtain rfl:=Am hz;exact Ap (Bw Eh (A9 rfl)) (sC sN) ⟨rfl,rfl⟩
   ·refine Av (A8 (AG (Ak (ck hy λh0 h1=>wv (Bj rfl rfl h0) (wm rfl (Aj ?_))))));have h2:=Bb h1 hg;exact As (At (hl,hb+1,()) ⟨h2,Vv _⟩ (A4.c rfl (A4.c rfl (A4.c rfl (A4.c rfl A4.nil)))) (sC sN))
  ·refine Bq (Ay ?_);have h3:=BD hp hg hh;exact Ay (AS (At ((),()) h3 A4.nil (sC sN)))
 ·rintro⟨⟨⟩,⟨⟩⟩ hf;refine Cj (l':=[]) (H':=[.blk ha (Ad b) 26]) rfl rfl ?_;replace hf:IJ =some r:=hf;unfold IJ at hf;refine AV (AG (Ah (wv (r:=Ai (-1)) (AD rfl) (Al (Aq ?_)))));obtain rfl:=Am hf;exact Ap (Bw Eh (A9 rfl)) (sC sN) ⟨rfl,rfl⟩
theorem SL (F:Nat)(ha:Nat)(ys:(List (List Aa)))(b:Af)(r:Bool)(h:R4 F ys b=some r):Fn Tryz.prog GE 108 [AE 1 (A3 Ae ys),rv (.func (.func 133) #[] #[(.pointer (some ⟨ha,0,none⟩))])] [.blk ha (Ad b) 26] (λR H=>R=rB r∧H=[.blk ha (Ad b) 26]):=by
 refine enter (n:=9) JD rfl J9 rfl (λw Z=>?_);unfold R4 at h;refine Ah (wa rfl (AW (wm rfl (wm rfl (ob h λr1 e3 h2=>Dk (Hr:=[]) JA (S3 F ha ys b r1 e3) rfl (Vo _) rfl ?_)))));rintro _ _ ⟨rfl,rfl⟩;refine wv (Hi rfl rfl) (wa rfl (Al (Aq ?_)));obtain rfl:=Am h2;exact Ap (Bw J7 (A9 rfl)) (sC sN) ⟨rfl,rfl⟩
theorem Rq (F:Nat)(ha:Nat)(f:Af)(b:Af)(r:Bool)(h:Oj F f b=some r):Fn Tryz.prog GE 131 [Bt (Ad f),rv (.func (.func 133) #[] #[(.pointer (some ⟨ha,0,none⟩))])] [.blk ha (Ad b) 26] (λR H=>R=rB r∧H=[.blk ha (Ad b) 26]):=by
 refine enter (n:=10) Tryz.func131 rfl Tryz.ntmps131 rfl (λw Z=>?_);unfold Oj at h;refine Ah (By rfl rfl (λb1=>?_));refine wa rfl (AW (vF AM rfl CD (vL 0 CR rfl (wm rfl (ob h λr2 e4 h3=>Dk (Hr:=[.blk b1 (Ad f) 26]) JB (SL F ha f.fValues b r2 e4) rfl ((A0 (i:=1) rfl).trans (Vp _ (Vo _))) rfl ?_)))));rintro _ _ ⟨rfl,rfl⟩;refine wv (B1 rfl) (wa rfl (Al (Aq ?_)));obtain rfl:=Am h3;exact Ap (Bw O1 (A9 rfl)) (sC (sS sN)) ⟨rfl,rfl⟩
theorem TG (ha:Nat)(v:(List Aa))(a:Af)(r:Bool)(h:TH v a=some r):Fn Tryz.prog GE 134 [AE 4 (A3 Ab v),rP ha 0] [.blk ha (Ad a) 26] (λR H=>R=rB r∧H=[.blk ha (Ad a) 26]):=by
 refine enter (n:=8) Tryz.func134 rfl Tryz.ntmps134 rfl (λw Z=>?_);unfold TH at h;refine Ah (wa rfl (AW (wm rfl (vF AM rfl CB (vL 0 CO rfl (ob h λr1 e3 h2=>Cs Tryz.call79 (Jx v a.fText r1 e3) rfl (wa rfl (Al (Aq ?_)))))))));obtain rfl:=Am h2;exact Ap (Bw Tryz.results134 (A9 rfl)) (sC sN) ⟨rfl,rfl⟩
theorem S2 (F:Nat)(ha:Nat)(ys:(List (List Aa)))(a:Af)(r:Int)(h:QY F ys a=some r):Fn Tryz.prog GE 141 [AE 1 (A3 Ae ys),rv (.func (.func 134) #[] #[(.pointer (some ⟨ha,0,none⟩))])] [.blk ha (Ad a) 26] (λR H=>R=Ai r∧H=[.blk ha (Ad a) 26]):=by
 refine enter (n:=19) JC rfl J8 rfl (λw Z=>?_);unfold QY at h;refine Ah (wa rfl (Al (An (Ah (wm rfl (wv (AI (ys:=ys) (enc:=Ae) BN rfl) (wv (r:=Ai 0) (A5 rfl) (Al (AA (ob h λhi hj hh=>Bg (S:=Nat×(Int)×(Unit)) (V:=(Unit)×(Unit)) 0 (λσ=>BW (λσ=>II ys a σ) σ.1 σ.2.1=some hi) (λσ=>[(0,AE 1 (A3 Ae ys)),(1,rv (.func (.func 134) #[] #[(.pointer (some ⟨ha,0,none⟩))])),(7,Ai (ys.length:Int)),(8,Ai σ.2.1)]) (λσ=>[.blk ha (Ad a) 26]) (λσ=>σ.1) (F,0,()) hj (A4.c rfl (A4.c rfl (A4.c rfl (A4.c rfl A4.nil)))) (sC sN) (λσ=>IH =some r) (λσ=>[]) (λσ=>[.blk ha (Ad a) 26]) ?_ ?_))))))))))
 ·rintro⟨h4,hb,⟨⟩⟩ hk;refine B2 (l':=[(0,AE 1 (A3 Ae ys)),(1,rv (.func (.func 134) #[] #[(.pointer (some ⟨ha,0,none⟩))])),(7,Ai (ys.length:Int)),(8,Ai hb)]) (H':=[.blk ha (Ad a) 26]) rfl rfl ?_;obtain⟨hl,rfl,hm,he,hg⟩:=Cf hk;replace he:II ys a hb=some hm:=he;unfold II at he;refine Ah (wv (Cr rfl rfl) (Al (An (cz he rfl (λhn ho=>?_) (λhn hp=>?_)))))
  ·refine Av (AG (An (AA (Ah (wm rfl (wa rfl (AW (wm rfl (wm rfl (wm rfl (ck ho λhq hr=>wv (AT (enc:=Ae) (ys:=ys) BN BY rfl rfl hq) (wv (AL C9 rfl rfl) (ob hr λhs ht hu=>C2 (rs:=[AE 4 (A3 Ab (Ax ys hb))]) (Hin:=[.blk ha (Ad a) 26]) (Hr:=[]) Tryz.call134 rfl rfl (Vo _) (TG ha (Ax ys hb) a hs ht) rfl ?_)))))))))))));rintro _ _ ⟨rfl,rfl⟩;refine Al (cz hu rfl (λhw hx=>?_) (λhw hy=>?_))
   ·refine Ah (wm rfl (wa rfl (Al (Aq (Ao (Ac (Ac (AN ?_))))))));have hz:=Be hx hg hh;refine Ao (Ac ?_);obtain rfl:=Am hz;exact Ap (Bw Eh (A9 rfl)) (sC sN) ⟨rfl,rfl⟩
   ·refine Av (A8 (AG (Ak (ck hy λh0 h1=>wv (Bj rfl rfl h0) (wm rfl (Aj ?_))))));have h2:=Bb h1 hg;exact As (At (hl,hb+1,()) ⟨h2,Vv _⟩ (A4.c rfl (A4.c rfl (A4.c rfl (A4.c rfl A4.nil)))) (sC sN))
  ·refine Bq (Ay ?_);have h3:=BD hp hg hh;exact Ay (AS (At ((),()) h3 A4.nil (sC sN)))
 ·rintro⟨⟨⟩,⟨⟩⟩ hf;refine Cj (l':=[]) (H':=[.blk ha (Ad a) 26]) rfl rfl ?_;replace hf:IH =some r:=hf;unfold IH at hf;refine AV (AG (Ah (wv (r:=Ai (-1)) (AD rfl) (Al (Aq ?_)))));obtain rfl:=Am hf;exact Ap (Bw Eh (A9 rfl)) (sC sN) ⟨rfl,rfl⟩
theorem SK (F:Nat)(ha:Nat)(ys:(List (List Aa)))(a:Af)(r:Bool)(h:R3 F ys a=some r):Fn Tryz.prog GE 108 [AE 1 (A3 Ae ys),rv (.func (.func 134) #[] #[(.pointer (some ⟨ha,0,none⟩))])] [.blk ha (Ad a) 26] (λR H=>R=rB r∧H=[.blk ha (Ad a) 26]):=by
 refine enter (n:=9) JD rfl J9 rfl (λw Z=>?_);unfold R3 at h;refine Ah (wa rfl (AW (wm rfl (wm rfl (ob h λr1 e3 h2=>Dk (Hr:=[]) JA (S2 F ha ys a r1 e3) rfl (Vo _) rfl ?_)))));rintro _ _ ⟨rfl,rfl⟩;refine wv (Hi rfl rfl) (wa rfl (Al (Aq ?_)));obtain rfl:=Am h2;exact Ap (Bw J7 (A9 rfl)) (sC sN) ⟨rfl,rfl⟩
theorem Ro (F:Nat)(ha:Nat)(f:Af)(a:Af)(r:Bool)(h:Oi F f a=some r):Fn Tryz.prog GE 131 [Bt (Ad f),rv (.func (.func 134) #[] #[(.pointer (some ⟨ha,0,none⟩))])] [.blk ha (Ad a) 26] (λR H=>R=rB r∧H=[.blk ha (Ad a) 26]):=by
 refine enter (n:=10) Tryz.func131 rfl Tryz.ntmps131 rfl (λw Z=>?_);unfold Oi at h;refine Ah (By rfl rfl (λb1=>?_));refine wa rfl (AW (vF AM rfl CD (vL 0 CR rfl (wm rfl (ob h λr2 e4 h3=>Dk (Hr:=[.blk b1 (Ad f) 26]) JB (SK F ha f.fValues a r2 e4) rfl ((A0 (i:=1) rfl).trans (Vp _ (Vo _))) rfl ?_)))));rintro _ _ ⟨rfl,rfl⟩;refine wv (B1 rfl) (wa rfl (Al (Aq ?_)));obtain rfl:=Am h3;exact Ap (Bw O1 (A9 rfl)) (sC (sS sN)) ⟨rfl,rfl⟩
theorem TE (ha:Nat)(v:(List Aa))(a:Af)(r:Bool)(h:TF v a=some r):Fn Tryz.prog GE 135 [AE 4 (A3 Ab v),rP ha 0] [.blk ha (Ad a) 26] (λR H=>R=rB r∧H=[.blk ha (Ad a) 26]):=by
 refine enter (n:=10) Tryz.func135 rfl Tryz.ntmps135 rfl (λw Z=>?_);unfold TF at h;refine Ah (wa rfl (AW (wm rfl (vF AM rfl BH (vL 0 Cd rfl (vF AM rfl BH (vL 0 Cd rfl (ob h λr1 e3 h2=>Cs Tryz.call80 (Ju v a.fLow a.fHigh r1 e3) rfl (wa rfl (Al (Aq ?_)))))))))));obtain rfl:=Am h2;exact Ap (Bw Tryz.results135 (A9 rfl)) (sC sN) ⟨rfl,rfl⟩
theorem S0 (F:Nat)(ha:Nat)(ys:(List (List Aa)))(a:Af)(r:Int)(h:QX F ys a=some r):Fn Tryz.prog GE 141 [AE 1 (A3 Ae ys),rv (.func (.func 135) #[] #[(.pointer (some ⟨ha,0,none⟩))])] [.blk ha (Ad a) 26] (λR H=>R=Ai r∧H=[.blk ha (Ad a) 26]):=by
 refine enter (n:=19) JC rfl J8 rfl (λw Z=>?_);unfold QX at h;refine Ah (wa rfl (Al (An (Ah (wm rfl (wv (AI (ys:=ys) (enc:=Ae) BN rfl) (wv (r:=Ai 0) (A5 rfl) (Al (AA (ob h λhi hj hh=>Bg (S:=Nat×(Int)×(Unit)) (V:=(Unit)×(Unit)) 0 (λσ=>BW (λσ=>IG ys a σ) σ.1 σ.2.1=some hi) (λσ=>[(0,AE 1 (A3 Ae ys)),(1,rv (.func (.func 135) #[] #[(.pointer (some ⟨ha,0,none⟩))])),(7,Ai (ys.length:Int)),(8,Ai σ.2.1)]) (λσ=>[.blk ha (Ad a) 26]) (λσ=>σ.1) (F,0,()) hj (A4.c rfl (A4.c rfl (A4.c rfl (A4.c rfl A4.nil)))) (sC sN) (λσ=>IF =some r) (λσ=>[]) (λσ=>[.blk ha (Ad a) 26]) ?_ ?_))))))))))
 ·rintro⟨h4,hb,⟨⟩⟩ hk;refine B2 (l':=[(0,AE 1 (A3 Ae ys)),(1,rv (.func (.func 135) #[] #[(.pointer (some ⟨ha,0,none⟩))])),(7,Ai (ys.length:Int)),(8,Ai hb)]) (H':=[.blk ha (Ad a) 26]) rfl rfl ?_;obtain⟨hl,rfl,hm,he,hg⟩:=Cf hk;replace he:IG ys a hb=some hm:=he;unfold IG at he;refine Ah (wv (Cr rfl rfl) (Al (An (cz he rfl (λhn ho=>?_) (λhn hp=>?_)))))
  ·refine Av (AG (An (AA (Ah (wm rfl (wa rfl (AW (wm rfl (wm rfl (wm rfl (ck ho λhq hr=>wv (AT (enc:=Ae) (ys:=ys) BN BY rfl rfl hq) (wv (AL C9 rfl rfl) (ob hr λhs ht hu=>C2 (rs:=[AE 4 (A3 Ab (Ax ys hb))]) (Hin:=[.blk ha (Ad a) 26]) (Hr:=[]) Tryz.call135 rfl rfl (Vo _) (TE ha (Ax ys hb) a hs ht) rfl ?_)))))))))))));rintro _ _ ⟨rfl,rfl⟩;refine Al (cz hu rfl (λhw hx=>?_) (λhw hy=>?_))
   ·refine Ah (wm rfl (wa rfl (Al (Aq (Ao (Ac (Ac (AN ?_))))))));have hz:=Be hx hg hh;refine Ao (Ac ?_);obtain rfl:=Am hz;exact Ap (Bw Eh (A9 rfl)) (sC sN) ⟨rfl,rfl⟩
   ·refine Av (A8 (AG (Ak (ck hy λh0 h1=>wv (Bj rfl rfl h0) (wm rfl (Aj ?_))))));have h2:=Bb h1 hg;exact As (At (hl,hb+1,()) ⟨h2,Vv _⟩ (A4.c rfl (A4.c rfl (A4.c rfl (A4.c rfl A4.nil)))) (sC sN))
  ·refine Bq (Ay ?_);have h3:=BD hp hg hh;exact Ay (AS (At ((),()) h3 A4.nil (sC sN)))
 ·rintro⟨⟨⟩,⟨⟩⟩ hf;refine Cj (l':=[]) (H':=[.blk ha (Ad a) 26]) rfl rfl ?_;replace hf:IF =some r:=hf;unfold IF at hf;refine AV (AG (Ah (wv (r:=Ai (-1)) (AD rfl) (Al (Aq ?_)))));obtain rfl:=Am hf;exact Ap (Bw Eh (A9 rfl)) (sC sN) ⟨rfl,rfl⟩
theorem SJ (F:Nat)(ha:Nat)(ys:(List (List Aa)))(a:Af)(r:Bool)(h:R2 F ys a=some r):Fn Tryz.prog GE 108 [AE 1 (A3 Ae ys),rv (.func (.func 135) #[] #[(.pointer (some ⟨ha,0,none⟩))])] [.blk ha (Ad a) 26] (λR H=>R=rB r∧H=[.blk ha (Ad a) 26]):=by
 refine enter (n:=9) JD rfl J9 rfl (λw Z=>?_);unfold R2 at h;refine Ah (wa rfl (AW (wm rfl (wm rfl (ob h λr1 e3 h2=>Dk (Hr:=[]) JA (S0 F ha ys a r1 e3) rfl (Vo _) rfl ?_)))));rintro _ _ ⟨rfl,rfl⟩;refine wv (Hi rfl rfl) (wa rfl (Al (Aq ?_)));obtain rfl:=Am h2;exact Ap (Bw J7 (A9 rfl)) (sC sN) ⟨rfl,rfl⟩
theorem Rn (F:Nat)(ha:Nat)(f:Af)(a:Af)(r:Bool)(h:Oh F f a=some r):Fn Tryz.prog GE 131 [Bt (Ad f),rv (.func (.func 135) #[] #[(.pointer (some ⟨ha,0,none⟩))])] [.blk ha (Ad a) 26] (λR H=>R=rB r∧H=[.blk ha (Ad a) 26]):=by
 refine enter (n:=10) Tryz.func131 rfl Tryz.ntmps131 rfl (λw Z=>?_);unfold Oh at h;refine Ah (By rfl rfl (λb1=>?_));refine wa rfl (AW (vF AM rfl CD (vL 0 CR rfl (wm rfl (ob h λr2 e4 h3=>Dk (Hr:=[.blk b1 (Ad f) 26]) JB (SJ F ha f.fValues a r2 e4) rfl ((A0 (i:=1) rfl).trans (Vp _ (Vo _))) rfl ?_)))));rintro _ _ ⟨rfl,rfl⟩;refine wv (B1 rfl) (wa rfl (Al (Aq ?_)));obtain rfl:=Am h3;exact Ap (Bw O1 (A9 rfl)) (sC (sS sN)) ⟨rfl,rfl⟩
theorem N2 (F:Nat)(a:Af)(b:Af)(r:Bool)(h:Jw F a b=some r):Fn Tryz.prog GE 97 [Bt (Ad a),Bt (Ad b)] [] (λR H=>R=rB r∧H=[]):=by
 refine enter (n:=27) Tryz.func97 rfl Tryz.ntmps97 rfl (λw Z=>?_);unfold Jw at h;refine Ah (By rfl rfl (λb1=>?_));refine By rfl rfl (λb2=>?_);refine wa rfl (Al (An (Ah (vF AM rfl BZ (vL 1 Cc rfl (Al (AA (Ah (wv (Bz rfl rfl) (wa rfl (Al (cz h rfl (λc3 h4=>?_) (λc3 h8=>?_)))))))))))))
 ·refine Ah (wv (AH (i:=0) Cb B5 rfl rfl rfl rfl) (wv (r:=rv (.func (.func 132) #[] #[(.pointer (some ⟨b1,0,none⟩))])) (BB rfl) (ob h4 λr5 e7 h6=>Dk (Hr:=[.blk b2 (Ad b) 26]) Tryz.call131 (Rr F b1 b a r5 e7) rfl ((A0 (i:=1) rfl).trans (Vp _ (Vo _))) rfl ?_)));rintro _ _ ⟨rfl,rfl⟩;refine wa rfl (Al (Aq (Ao (Ac ?_))));obtain rfl:=Am h6;exact Ap (Bw Qf (A9 rfl)) (sS (sS sN)) ⟨rfl,rfl⟩
 ·refine Ah (wv (Bz rfl rfl) (wa rfl (Al (cz h8 rfl (λc9 ha=>?_) (λc9 hb=>?_)))))
  ·refine Ah (wv (AH (i:=1) Cb B5 rfl rfl rfl rfl) (wv (r:=rv (.func (.func 133) #[] #[(.pointer (some ⟨b2,0,none⟩))])) (BB rfl) (ob ha λhe hf hg=>Dk (Hr:=[.blk b1 (Ad a) 26]) Tryz.call131 (Rq F b2 a b he hf) rfl (Vo _) rfl ?_)));rintro _ _ ⟨rfl,rfl⟩;refine wa rfl (Al (Aq (Ao (Ac ?_))));obtain rfl:=Am hg;exact Ap (Bw Qf (A9 rfl)) (sS (sS sN)) ⟨rfl,rfl⟩
  ·refine Ah (wv (Bz rfl rfl) (wa rfl (Al (cz hb rfl (λhh hi=>?_) (λhh hj=>?_)))))
   ·refine Ah (wv (AH (i:=0) Cb B5 rfl rfl rfl rfl) (wv (r:=rv (.func (.func 134) #[] #[(.pointer (some ⟨b1,0,none⟩))])) (BB rfl) (ob hi λhk hl hm=>Dk (Hr:=[.blk b2 (Ad b) 26]) Tryz.call131 (Ro F b1 b a hk hl) rfl ((A0 (i:=1) rfl).trans (Vp _ (Vo _))) rfl ?_)));rintro _ _ ⟨rfl,rfl⟩;refine wa rfl (Al (Aq (Ao (Ac ?_))));obtain rfl:=Am hm;exact Ap (Bw Qf (A9 rfl)) (sS (sS sN)) ⟨rfl,rfl⟩
   ·refine Ah (wv (Bz rfl rfl) (wa rfl (Al (cz hj rfl (λc21 hn=>?_) (λc21 ho=>?_)))))
    ·refine Ah (wv (AH (i:=0) Cb B5 rfl rfl rfl rfl) (wv (r:=rv (.func (.func 135) #[] #[(.pointer (some ⟨b1,0,none⟩))])) (BB rfl) (ob hn λhp hq hr=>Dk (Hr:=[.blk b2 (Ad b) 26]) Tryz.call131 (Rn F b1 b a hp hq) rfl ((A0 (i:=1) rfl).trans (Vp _ (Vo _))) rfl ?_)));rintro _ _ ⟨rfl,rfl⟩;refine wa rfl (Al (Aq (Ao (Ac ?_))));obtain rfl:=Am hr;exact Ap (Bw Qf (A9 rfl)) (sS (sS sN)) ⟨rfl,rfl⟩
    ·refine Av (A8 (AG (Ah (wa rfl (Al (Aq ?_))))));obtain rfl:=Am ho;exact Ap (Bw Qf (A9 rfl)) (sS (sS sN)) ⟨rfl,rfl⟩
theorem TC (F:Nat)(ha:Nat)(v:(List Aa))(b:Af)(r:Bool)(h:TD F v b=some r):Fn Tryz.prog GE 96 [AE 4 (A3 Ab v),rP ha 0] [.blk ha (Ad b) 26] (λR H=>R=rB r∧H=[.blk ha (Ad b) 26]):=by
 refine enter (n:=8) Tryz.func96 rfl Tryz.ntmps96 rfl (λw Z=>?_);unfold TD at h;refine Ah (wa rfl (AW (vF AM rfl CD (vL 0 CR rfl (wm rfl (ob h λr1 e3 h2=>Cs Qk (H0 F b.fValues v r1 e3) rfl (wa rfl (Al (Aq ?_)))))))));obtain rfl:=Am h2;exact Ap (Bw Tryz.results96 (A9 rfl)) (sC sN) ⟨rfl,rfl⟩
theorem TQ (F:Nat)(hb:Nat)(ha:Nat)(v:(List Aa))(b:Af)(r:Bool)(h:TR F v b=some r):Fn Tryz.prog GE 130 [AE 4 (A3 Ab v),rP hb 0] [.blk hb [rv (.func (.func 96) #[] #[(.pointer (some ⟨ha,0,none⟩))])] 31,.blk ha (Ad b) 26] (λR H=>R=rB r∧H=[.blk hb [rv (.func (.func 96) #[] #[(.pointer (some ⟨ha,0,none⟩))])] 31,.blk ha (Ad b) 26]):=by
 refine enter (n:=8) Tryz.func130 rfl Tryz.ntmps130 rfl (λw Z=>?_);unfold TR at h;refine Ah (wa rfl (AW (vL 0 Tryz.isAgg31 rfl (wm rfl (ob h λr1 e3 h2=>C2 (rs:=[AE 4 (A3 Ab v)]) (Hin:=[.blk ha (Ad b) 26]) (Hr:=[.blk hb [rv (.func (.func 96) #[] #[(.pointer (some ⟨ha,0,none⟩))])] 31]) Tryz.call96 rfl rfl ((A0 (i:=1) rfl).trans (Vp _ (Vo _))) (TC F ha v b r1 e3) rfl ?_)))));rintro _ _ ⟨rfl,rfl⟩;refine wv (B1 rfl) (wa rfl (Al (Aq (Cm (H2:=[.blk hb [rv (.func (.func 96) #[] #[(.pointer (some ⟨ha,0,none⟩))])] 31,.blk ha (Ad b) 26]) ((A0 (i:=1) rfl).trans (Vp _ (Vo _))) ?_))));obtain rfl:=Am h2;exact Ap (Bw Tryz.results130 (A9 rfl)) (sC (sC sN)) ⟨rfl,rfl⟩
theorem S8 (F:Nat)(hb:Nat)(ha:Nat)(ys:(List (List Aa)))(b:Af)(r:Int)(h:Rd F ys b=some r):Fn Tryz.prog GE 141 [AE 1 (A3 Ae ys),rv (.func (.func 130) #[] #[(.pointer (some ⟨hb,0,none⟩))])] [.blk hb [rv (.func (.func 96) #[] #[(.pointer (some ⟨ha,0,none⟩))])] 31,.blk ha (Ad b) 26] (λR H=>R=Ai r∧H=[.blk hb [rv (.func (.func 96) #[] #[(.pointer (some ⟨ha,0,none⟩))])] 31,.blk ha (Ad b) 26]):=by
 refine enter (n:=19) JC rfl J8 rfl (λw Z=>?_);unfold Rd at h;refine Ah (wa rfl (Al (An (Ah (wm rfl (wv (AI (ys:=ys) (enc:=Ae) BN rfl) (wv (r:=Ai 0) (A5 rfl) (Al (AA (ob h λhj hk hi=>Bg (S:=Nat×(Int)×(Unit)) (V:=(Unit)×(Unit)) 0 (λσ=>BW (λσ=>IS F ys b σ) σ.1 σ.2.1=some hj) (λσ=>[(0,AE 1 (A3 Ae ys)),(1,rv (.func (.func 130) #[] #[(.pointer (some ⟨hb,0,none⟩))])),(7,Ai (ys.length:Int)),(8,Ai σ.2.1)]) (λσ=>[.blk hb [rv (.func (.func 96) #[] #[(.pointer (some ⟨ha,0,none⟩))])] 31,.blk ha (Ad b) 26]) (λσ=>σ.1) (F,0,()) hk (A4.c rfl (A4.c rfl (A4.c rfl (A4.c rfl A4.nil)))) (sC (sC sN)) (λσ=>IR =some r) (λσ=>[]) (λσ=>[.blk hb [rv (.func (.func 96) #[] #[(.pointer (some ⟨ha,0,none⟩))])] 31,.blk ha (Ad b) 26]) ?_ ?_))))))))))
 ·rintro⟨h5,he,⟨⟩⟩ hl;refine B2 (l':=[(0,AE 1 (A3 Ae ys)),(1,rv (.func (.func 130) #[] #[(.pointer (some ⟨hb,0,none⟩))])),(7,Ai (ys.length:Int)),(8,Ai he)]) (H':=[.blk hb [rv (.func (.func 96) #[] #[(.pointer (some ⟨ha,0,none⟩))])] 31,.blk ha (Ad b) 26]) rfl rfl ?_;obtain⟨hm,rfl,hn,hf,hh⟩:=Cf hl;replace hf:IS F ys b he=some hn:=hf;unfold IS at hf;refine Ah (wv (Cr rfl rfl) (Al (An (cz hf rfl (λho hp=>?_) (λho hq=>?_)))))
  ·refine Av (AG (An (AA (Ah (wm rfl (wa rfl (AW (wm rfl (wm rfl (wm rfl (ck hp λhr hs=>wv (AT (enc:=Ae) (ys:=ys) BN BY rfl rfl hr) (wv (AL C9 rfl rfl) (ob hs λht hu hw=>C2 (rs:=[AE 4 (A3 Ab (Ax ys he))]) (Hin:=[.blk hb [rv (.func (.func 96) #[] #[(.pointer (some ⟨ha,0,none⟩))])] 31,.blk ha (Ad b) 26]) (Hr:=[]) Tryz.call130 rfl rfl (Vo _) (TQ F hb ha (Ax ys he) b ht hu) rfl ?_)))))))))))));rintro _ _ ⟨rfl,rfl⟩;refine Al (cz hw rfl (λhx hy=>?_) (λhx hz=>?_))
   ·refine Ah (wm rfl (wa rfl (Al (Aq (Ao (Ac (Ac (AN ?_))))))));have h0:=Be hy hh hi;refine Ao (Ac ?_);obtain rfl:=Am h0;exact Ap (Bw Eh (A9 rfl)) (sC (sC sN)) ⟨rfl,rfl⟩
   ·refine Av (A8 (AG (Ak (ck hz λh1 h2=>wv (Bj rfl rfl h1) (wm rfl (Aj ?_))))));have h3:=Bb h2 hh;exact As (At (hm,he+1,()) ⟨h3,Vv _⟩ (A4.c rfl (A4.c rfl (A4.c rfl (A4.c rfl A4.nil)))) (sC (sC sN)))
  ·refine Bq (Ay ?_);have h4:=BD hq hh hi;exact Ay (AS (At ((),()) h4 A4.nil (sC (sC sN))))
 ·rintro⟨⟨⟩,⟨⟩⟩ hg;refine Cj (l':=[]) (H':=[.blk hb [rv (.func (.func 96) #[] #[(.pointer (some ⟨ha,0,none⟩))])] 31,.blk ha (Ad b) 26]) rfl rfl ?_;replace hg:IR =some r:=hg;unfold IR at hg;refine AV (AG (Ah (wv (r:=Ai (-1)) (AD rfl) (Al (Aq ?_)))));obtain rfl:=Am hg;exact Ap (Bw Eh (A9 rfl)) (sC (sC sN)) ⟨rfl,rfl⟩
theorem SP (F:Nat)(hb:Nat)(ha:Nat)(ys:(List (List Aa)))(b:Af)(r:Bool)(h:R9 F ys b=some r):Fn Tryz.prog GE 108 [AE 1 (A3 Ae ys),rv (.func (.func 130) #[] #[(.pointer (some ⟨hb,0,none⟩))])] [.blk hb [rv (.func (.func 96) #[] #[(.pointer (some ⟨ha,0,none⟩))])] 31,.blk ha (Ad b) 26] (λR H=>R=rB r∧H=[.blk hb [rv (.func (.func 96) #[] #[(.pointer (some ⟨ha,0,none⟩))])] 31,.blk ha (Ad b) 26]):=by
 refine enter (n:=9) JD rfl J9 rfl (λw Z=>?_);unfold R9 at h;refine Ah (wa rfl (AW (wm rfl (wm rfl (ob h λr1 e3 h2=>Dk (Hr:=[]) JA (S8 F hb ha ys b r1 e3) rfl (Vo _) rfl ?_)))));rintro _ _ ⟨rfl,rfl⟩;refine wv (Hi rfl rfl) (wa rfl (Al (Aq ?_)));obtain rfl:=Am h2;exact Ap (Bw J7 (A9 rfl)) (sC (sC sN)) ⟨rfl,rfl⟩
theorem SE (F:Nat)(hb:Nat)(f:Af)(b:Af)(r:Bool)(h:Rs F f b=some r):Fn Tryz.prog GE 95 [Bt (Ad f),rv (.func (.func 96) #[] #[(.pointer (some ⟨hb,0,none⟩))])] [.blk hb (Ad b) 26] (λR H=>R=rB r∧H=[.blk hb (Ad b) 26]):=by
 refine enter (n:=15) Tryz.func95 rfl Tryz.ntmps95 rfl (λw Z=>?_);unfold Rs at h;refine Ah (By rfl rfl (λb1=>?_));refine JG rfl (B3 rfl) rfl (λb2=>?_);refine wa rfl (Al (BG (S:=(Bool)×(Unit)) (λσ=>H5 σ.1=some r) (λσ=>[(4,rB σ.1)]) (λσ=>[.blk hb (Ad b) 26]) ?_ ?_))
 ·refine Ak (vF AM rfl BZ (vL 1 Cc rfl (wv (Bz rfl rfl) (wm rfl (bz h (λha hh=>?_) (λha hi=>?_))))))
  ·refine wo ha (vF AM rfl CD (wo ha (vL 1 CR rfl (wo ha (wv (r:=rv (.func (.func 130) #[] #[(.pointer (some ⟨b2,0,none⟩))])) (BB rfl) (wo ha (ob hh λhf hj hk=>Dk (Hr:=[.blk b1 (Ad f) 26]) JB (SP F b2 hb f.fValues b hf hj) rfl ((A0 (i:=0) rfl).trans (Vp _ ((A0 (i:=1) rfl).trans (Vp _ (Vo _))))) rfl ?_)))))));rintro _ _ ⟨rfl,rfl⟩;exact wo ha (wv (B1 rfl) (C5 rfl ha rfl (wa rfl (Aj (As (At (!hf,()) hk (A4.c rfl A4.nil) (sS (sC (sS sN)))))))))
  ·exact wf ha (wf ha (wf ha (wf ha (wf ha (wv (r:=rB false) (Au rfl ha rfl) (wa rfl (Aj (As (At (false,()) hi (A4.c rfl A4.nil) (sS (sS (sC sN))))))))))))
 ·rintro⟨hg,⟨⟩⟩ he;refine B2 (l':=[(4,rB hg)]) (H':=[.blk hb (Ad b) 26]) rfl rfl ?_;replace he:H5 hg=some r:=he;unfold H5 at he;refine Aq ?_;obtain rfl:=Am he;exact Ap (Bw Tryz.results95 (A9 rfl)) (sC sN) ⟨rfl,rfl⟩
theorem TA (ha:Nat)(v:(List Aa))(b:Af)(r:Bool)(h:TB v b=some r):Fn Tryz.prog GE 99 [AE 4 (A3 Ab v),rP ha 0] [.blk ha (Ad b) 26] (λR H=>R=rB r∧H=[.blk ha (Ad b) 26]):=by
 refine enter (n:=8) Tryz.func99 rfl Tryz.ntmps99 rfl (λw Z=>?_);unfold TB at h;refine Ah (wa rfl (AW (wm rfl (vF AM rfl CB (vL 0 CO rfl (ob h λr1 e3 h2=>Cs Tryz.call79 (Jx v b.fText r1 e3) rfl (wa rfl (Al (Aq ?_)))))))));obtain rfl:=Am h2;exact Ap (Bw Tryz.results99 (A9 rfl)) (sC sN) ⟨rfl,rfl⟩
theorem TO (hb:Nat)(ha:Nat)(v:(List Aa))(b:Af)(r:Bool)(h:TP v b=some r):Fn Tryz.prog GE 130 [AE 4 (A3 Ab v),rP hb 0] [.blk hb [rv (.func (.func 99) #[] #[(.pointer (some ⟨ha,0,none⟩))])] 31,.blk ha (Ad b) 26] (λR H=>R=rB r∧H=[.blk hb [rv (.func (.func 99) #[] #[(.pointer (some ⟨ha,0,none⟩))])] 31,.blk ha (Ad b) 26]):=by
 refine enter (n:=8) Tryz.func130 rfl Tryz.ntmps130 rfl (λw Z=>?_);unfold TP at h;refine Ah (wa rfl (AW (vL 0 Tryz.isAgg31 rfl (wm rfl (ob h λr1 e3 h2=>C2 (rs:=[AE 4 (A3 Ab v)]) (Hin:=[.blk ha (Ad b) 26]) (Hr:=[.blk hb [rv (.func (.func 99) #[] #[(.pointer (some ⟨ha,0,none⟩))])] 31]) Tryz.call99 rfl rfl ((A0 (i:=1) rfl).trans (Vp _ (Vo _))) (TA ha v b r1 e3) rfl ?_)))));rintro _ _ ⟨rfl,rfl⟩;refine wv (B1 rfl) (wa rfl (Al (Aq (Cm (H2:=[.blk hb [rv (.func (.func 99) #[] #[(.pointer (some ⟨ha,0,none⟩))])] 31,.blk ha (Ad b) 26]) ((A0 (i:=1) rfl).trans (Vp _ (Vo _))) ?_))));obtain rfl:=Am h2;exact Ap (Bw Tryz.results130 (A9 rfl)) (sC (sC sN)) ⟨rfl,rfl⟩
theorem S7 (F:Nat)(hb:Nat)(ha:Nat)(ys:(List (List Aa)))(b:Af)(r:Int)(h:Rc F ys b=some r):Fn Tryz.prog GE 141 [AE 1 (A3 Ae ys),rv (.func (.func 130) #[] #[(.pointer (some ⟨hb,0,none⟩))])] [.blk hb [rv (.func (.func 99) #[] #[(.pointer (some ⟨ha,0,none⟩))])] 31,.blk ha (Ad b) 26] (λR H=>R=Ai r∧H=[.blk hb [rv (.func (.func 99) #[] #[(.pointer (some ⟨ha,0,none⟩))])] 31,.blk ha (Ad b) 26]):=by
 refine enter (n:=19) JC rfl J8 rfl (λw Z=>?_);unfold Rc at h;refine Ah (wa rfl (Al (An (Ah (wm rfl (wv (AI (ys:=ys) (enc:=Ae) BN rfl) (wv (r:=Ai 0) (A5 rfl) (Al (AA (ob h λhj hk hi=>Bg (S:=Nat×(Int)×(Unit)) (V:=(Unit)×(Unit)) 0 (λσ=>BW (λσ=>IQ ys b σ) σ.1 σ.2.1=some hj) (λσ=>[(0,AE 1 (A3 Ae ys)),(1,rv (.func (.func 130) #[] #[(.pointer (some ⟨hb,0,none⟩))])),(7,Ai (ys.length:Int)),(8,Ai σ.2.1)]) (λσ=>[.blk hb [rv (.func (.func 99) #[] #[(.pointer (some ⟨ha,0,none⟩))])] 31,.blk ha (Ad b) 26]) (λσ=>σ.1) (F,0,()) hk (A4.c rfl (A4.c rfl (A4.c rfl (A4.c rfl A4.nil)))) (sC (sC sN)) (λσ=>IP =some r) (λσ=>[]) (λσ=>[.blk hb [rv (.func (.func 99) #[] #[(.pointer (some ⟨ha,0,none⟩))])] 31,.blk ha (Ad b) 26]) ?_ ?_))))))))))
 ·rintro⟨h5,he,⟨⟩⟩ hl;refine B2 (l':=[(0,AE 1 (A3 Ae ys)),(1,rv (.func (.func 130) #[] #[(.pointer (some ⟨hb,0,none⟩))])),(7,Ai (ys.length:Int)),(8,Ai he)]) (H':=[.blk hb [rv (.func (.func 99) #[] #[(.pointer (some ⟨ha,0,none⟩))])] 31,.blk ha (Ad b) 26]) rfl rfl ?_;obtain⟨hm,rfl,hn,hf,hh⟩:=Cf hl;replace hf:IQ ys b he=some hn:=hf;unfold IQ at hf;refine Ah (wv (Cr rfl rfl) (Al (An (cz hf rfl (λho hp=>?_) (λho hq=>?_)))))
  ·refine Av (AG (An (AA (Ah (wm rfl (wa rfl (AW (wm rfl (wm rfl (wm rfl (ck hp λhr hs=>wv (AT (enc:=Ae) (ys:=ys) BN BY rfl rfl hr) (wv (AL C9 rfl rfl) (ob hs λht hu hw=>C2 (rs:=[AE 4 (A3 Ab (Ax ys he))]) (Hin:=[.blk hb [rv (.func (.func 99) #[] #[(.pointer (some ⟨ha,0,none⟩))])] 31,.blk ha (Ad b) 26]) (Hr:=[]) Tryz.call130 rfl rfl (Vo _) (TO hb ha (Ax ys he) b ht hu) rfl ?_)))))))))))));rintro _ _ ⟨rfl,rfl⟩;refine Al (cz hw rfl (λhx hy=>?_) (λhx hz=>?_))
   ·refine Ah (wm rfl (wa rfl (Al (Aq (Ao (Ac (Ac (AN ?_))))))));have h0:=Be hy hh hi;refine Ao (Ac ?_);obtain rfl:=Am h0;exact Ap (Bw Eh (A9 rfl)) (sC (sC sN)) ⟨rfl,rfl⟩
   ·refine Av (A8 (AG (Ak (ck hz λh1 h2=>wv (Bj rfl rfl h1) (wm rfl (Aj ?_))))));have h3:=Bb h2 hh;exact As (At (hm,he+1,()) ⟨h3,Vv _⟩ (A4.c rfl (A4.c rfl (A4.c rfl (A4.c rfl A4.nil)))) (sC (sC sN)))
  ·refine Bq (Ay ?_);have h4:=BD hq hh hi;exact Ay (AS (At ((),()) h4 A4.nil (sC (sC sN))))
 ·rintro⟨⟨⟩,⟨⟩⟩ hg;refine Cj (l':=[]) (H':=[.blk hb [rv (.func (.func 99) #[] #[(.pointer (some ⟨ha,0,none⟩))])] 31,.blk ha (Ad b) 26]) rfl rfl ?_;replace hg:IP =some r:=hg;unfold IP at hg;refine AV (AG (Ah (wv (r:=Ai (-1)) (AD rfl) (Al (Aq ?_)))));obtain rfl:=Am hg;exact Ap (Bw Eh (A9 rfl)) (sC (sC sN)) ⟨rfl,rfl⟩
theorem SO (F:Nat)(hb:Nat)(ha:Nat)(ys:(List (List Aa)))(b:Af)(r:Bool)(h:R8 F ys b=some r):Fn Tryz.prog GE 108 [AE 1 (A3 Ae ys),rv (.func (.func 130) #[] #[(.pointer (some ⟨hb,0,none⟩))])] [.blk hb [rv (.func (.func 99) #[] #[(.pointer (some ⟨ha,0,none⟩))])] 31,.blk ha (Ad b) 26] (λR H=>R=rB r∧H=[.blk hb [rv (.func (.func 99) #[] #[(.pointer (some ⟨ha,0,none⟩))])] 31,.blk ha (Ad b) 26]):=by
 refine enter (n:=9) JD rfl J9 rfl (λw Z=>?_);unfold R8 at h;refine Ah (wa rfl (AW (wm rfl (wm rfl (ob h λr1 e3 h2=>Dk (Hr:=[]) JA (S7 F hb ha ys b r1 e3) rfl (Vo _) rfl ?_)))));rintro _ _ ⟨rfl,rfl⟩;refine wv (Hi rfl rfl) (wa rfl (Al (Aq ?_)));obtain rfl:=Am h2;exact Ap (Bw J7 (A9 rfl)) (sC (sC sN)) ⟨rfl,rfl⟩
theorem OQ (F:Nat)(hb:Nat)(f:Af)(b:Af)(r:Bool)(h:OR F f b=some r):Fn Tryz.prog GE 95 [Bt (Ad f),rv (.func (.func 99) #[] #[(.pointer (some ⟨hb,0,none⟩))])] [.blk hb (Ad b) 26] (λR H=>R=rB r∧H=[.blk hb (Ad b) 26]):=by
 refine enter (n:=15) Tryz.func95 rfl Tryz.ntmps95 rfl (λw Z=>?_);unfold OR at h;refine Ah (By rfl rfl (λb1=>?_));refine JG rfl (B3 rfl) rfl (λb2=>?_);refine wa rfl (Al (BG (S:=(Bool)×(Unit)) (λσ=>H4 σ.1=some r) (λσ=>[(4,rB σ.1)]) (λσ=>[.blk hb (Ad b) 26]) ?_ ?_))
 ·refine Ak (vF AM rfl BZ (vL 1 Cc rfl (wv (Bz rfl rfl) (wm rfl (bz h (λha hh=>?_) (λha hi=>?_))))))
  ·refine wo ha (vF AM rfl CD (wo ha (vL 1 CR rfl (wo ha (wv (r:=rv (.func (.func 130) #[] #[(.pointer (some ⟨b2,0,none⟩))])) (BB rfl) (wo ha (ob hh λhf hj hk=>Dk (Hr:=[.blk b1 (Ad f) 26]) JB (SO F b2 hb f.fValues b hf hj) rfl ((A0 (i:=0) rfl).trans (Vp _ ((A0 (i:=1) rfl).trans (Vp _ (Vo _))))) rfl ?_)))))));rintro _ _ ⟨rfl,rfl⟩;exact wo ha (wv (B1 rfl) (C5 rfl ha rfl (wa rfl (Aj (As (At (!hf,()) hk (A4.c rfl A4.nil) (sS (sC (sS sN)))))))))
  ·exact wf ha (wf ha (wf ha (wf ha (wf ha (wv (r:=rB false) (Au rfl ha rfl) (wa rfl (Aj (As (At (false,()) hi (A4.c rfl A4.nil) (sS (sS (sC sN))))))))))))
 ·rintro⟨hg,⟨⟩⟩ he;refine B2 (l':=[(4,rB hg)]) (H':=[.blk hb (Ad b) 26]) rfl rfl ?_;replace he:H4 hg=some r:=he;unfold H4 at he;refine Aq ?_;obtain rfl:=Am he;exact Ap (Bw Tryz.results95 (A9 rfl)) (sC sN) ⟨rfl,rfl⟩
theorem T8 (ha:Nat)(v:(List Aa))(b:Af)(r:Bool)(h:T9 v b=some r):Fn Tryz.prog GE 100 [AE 4 (A3 Ab v),rP ha 0] [.blk ha (Ad b) 26] (λR H=>R=rB r∧H=[.blk ha (Ad b) 26]):=by
 refine enter (n:=10) Tryz.func100 rfl Tryz.ntmps100 rfl (λw Z=>?_);unfold T9 at h;refine Ah (wa rfl (AW (wm rfl (vF AM rfl BH (vL 0 Cd rfl (vF AM rfl BH (vL 0 Cd rfl (ob h λr1 e3 h2=>Cs Tryz.call80 (Ju v b.fLow b.fHigh r1 e3) rfl (wa rfl (Al (Aq ?_)))))))))));obtain rfl:=Am h2;exact Ap (Bw Tryz.results100 (A9 rfl)) (sC sN) ⟨rfl,rfl⟩
theorem TM (hb:Nat)(ha:Nat)(v:(List Aa))(b:Af)(r:Bool)(h:TN v b=some r):Fn Tryz.prog GE 130 [AE 4 (A3 Ab v),rP hb 0] [.blk hb [rv (.func (.func 100) #[] #[(.pointer (some ⟨ha,0,none⟩))])] 31,.blk ha (Ad b) 26] (λR H=>R=rB r∧H=[.blk hb [rv (.func (.func 100) #[] #[(.pointer (some ⟨ha,0,none⟩))])] 31,.blk ha (Ad b) 26]):=by
 refine enter (n:=8) Tryz.func130 rfl Tryz.ntmps130 rfl (λw Z=>?_);unfold TN at h;refine Ah (wa rfl (AW (vL 0 Tryz.isAgg31 rfl (wm rfl (ob h λr1 e3 h2=>C2 (rs:=[AE 4 (A3 Ab v)]) (Hin:=[.blk ha (Ad b) 26]) (Hr:=[.blk hb [rv (.func (.func 100) #[] #[(.pointer (some ⟨ha,0,none⟩))])] 31]) Tryz.call100 rfl rfl ((A0 (i:=1) rfl).trans (Vp _ (Vo _))) (T8 ha v b r1 e3) rfl ?_)))));rintro _ _ ⟨rfl,rfl⟩;refine wv (B1 rfl) (wa rfl (Al (Aq (Cm (H2:=[.blk hb [rv (.func (.func 100) #[] #[(.pointer (some ⟨ha,0,none⟩))])] 31,.blk ha (Ad b) 26]) ((A0 (i:=1) rfl).trans (Vp _ (Vo _))) ?_))));obtain rfl:=Am h2;exact Ap (Bw Tryz.results130 (A9 rfl)) (sC (sC sN)) ⟨rfl,rfl⟩
theorem S6 (F:Nat)(hb:Nat)(ha:Nat)(ys:(List (List Aa)))(b:Af)(r:Int)(h:Rb F ys b=some r):Fn Tryz.prog GE 141 [AE 1 (A3 Ae ys),rv (.func (.func 130) #[] #[(.pointer (some ⟨hb,0,none⟩))])] [.blk hb [rv (.func (.func 100) #[] #[(.pointer (some ⟨ha,0,none⟩))])] 31,.blk ha (Ad b) 26] (λR H=>R=Ai r∧H=[.blk hb [rv (.func (.func 100) #[] #[(.pointer (some ⟨ha,0,none⟩))])] 31,.blk ha (Ad b) 26]):=by
 refine enter (n:=19) JC rfl J8 rfl (λw Z=>?_);unfold Rb at h;refine Ah (wa rfl (Al (An (Ah (wm rfl (wv (AI (ys:=ys) (enc:=Ae) BN rfl) (wv (r:=Ai 0) (A5 rfl) (Al (AA (ob h λhj hk hi=>Bg (S:=Nat×(Int)×(Unit)) (V:=(Unit)×(Unit)) 0 (λσ=>BW (λσ=>IO ys b σ) σ.1 σ.2.1=some hj) (λσ=>[(0,AE 1 (A3 Ae ys)),(1,rv (.func (.func 130) #[] #[(.pointer (some ⟨hb,0,none⟩))])),(7,Ai (ys.length:Int)),(8,Ai σ.2.1)]) (λσ=>[.blk hb [rv (.func (.func 100) #[] #[(.pointer (some ⟨ha,0,none⟩))])] 31,.blk ha (Ad b) 26]) (λσ=>σ.1) (F,0,()) hk (A4.c rfl (A4.c rfl (A4.c rfl (A4.c rfl A4.nil)))) (sC (sC sN)) (λσ=>IN =some r) (λσ=>[]) (λσ=>[.blk hb [rv (.func (.func 100) #[] #[(.pointer (some ⟨ha,0,none⟩))])] 31,.blk ha (Ad b) 26]) ?_ ?_))))))))))
 ·rintro⟨h5,he,⟨⟩⟩ hl;refine B2 (l':=[(0,AE 1 (A3 Ae ys)),(1,rv (.func (.func 130) #[] #[(.pointer (some ⟨hb,0,none⟩))])),(7,Ai (ys.length:Int)),(8,Ai he)]) (H':=[.blk hb [rv (.func (.func 100) #[] #[(.pointer (some ⟨ha,0,none⟩))])] 31,.blk ha (Ad b) 26]) rfl rfl ?_;obtain⟨hm,rfl,hn,hf,hh⟩:=Cf hl;replace hf:IO ys b he=some hn:=hf;unfold IO at hf;refine Ah (wv (Cr rfl rfl) (Al (An (cz hf rfl (λho hp=>?_) (λho hq=>?_)))))
  ·refine Av (AG (An (AA (Ah (wm rfl (wa rfl (AW (wm rfl (wm rfl (wm rfl (ck hp λhr hs=>wv (AT (enc:=Ae) (ys:=ys) BN BY rfl rfl hr) (wv (AL C9 rfl rfl) (ob hs λht hu hw=>C2 (rs:=[AE 4 (A3 Ab (Ax ys he))]) (Hin:=[.blk hb [rv (.func (.func 100) #[] #[(.pointer (some ⟨ha,0,none⟩))])] 31,.blk ha (Ad b) 26]) (Hr:=[]) Tryz.call130 rfl rfl (Vo _) (TM hb ha (Ax ys he) b ht hu) rfl ?_)))))))))))));rintro _ _ ⟨rfl,rfl⟩;refine Al (cz hw rfl (λhx hy=>?_) (λhx hz=>?_))
   ·refine Ah (wm rfl (wa rfl (Al (Aq (Ao (Ac (Ac (AN ?_))))))));have h0:=Be hy hh hi;refine Ao (Ac ?_);obtain rfl:=Am h0;exact Ap (Bw Eh (A9 rfl)) (sC (sC sN)) ⟨rfl,rfl⟩
   ·refine Av (A8 (AG (Ak (ck hz λh1 h2=>wv (Bj rfl rfl h1) (wm rfl (Aj ?_))))));have h3:=Bb h2 hh;exact As (At (hm,he+1,()) ⟨h3,Vv _⟩ (A4.c rfl (A4.c rfl (A4.c rfl (A4.c rfl A4.nil)))) (sC (sC sN)))
  ·refine Bq (Ay ?_);have h4:=BD hq hh hi;exact Ay (AS (At ((),()) h4 A4.nil (sC (sC sN))))
 ·rintro⟨⟨⟩,⟨⟩⟩ hg;refine Cj (l':=[]) (H':=[.blk hb [rv (.func (.func 100) #[] #[(.pointer (some ⟨ha,0,none⟩))])] 31,.blk ha (Ad b) 26]) rfl rfl ?_;replace hg:IN =some r:=hg;unfold IN at hg;refine AV (AG (Ah (wv (r:=Ai (-1)) (AD rfl) (Al (Aq ?_)))));obtain rfl:=Am hg;exact Ap (Bw Eh (A9 rfl)) (sC (sC sN)) ⟨rfl,rfl⟩
theorem SN (F:Nat)(hb:Nat)(ha:Nat)(ys:(List (List Aa)))(b:Af)(r:Bool)(h:R7 F ys b=some r):Fn Tryz.prog GE 108 [AE 1 (A3 Ae ys),rv (.func (.func 130) #[] #[(.pointer (some ⟨hb,0,none⟩))])] [.blk hb [rv (.func (.func 100) #[] #[(.pointer (some ⟨ha,0,none⟩))])] 31,.blk ha (Ad b) 26] (λR H=>R=rB r∧H=[.blk hb [rv (.func (.func 100) #[] #[(.pointer (some ⟨ha,0,none⟩))])] 31,.blk ha (Ad b) 26]):=by
 refine enter (n:=9) JD rfl J9 rfl (λw Z=>?_);unfold R7 at h;refine Ah (wa rfl (AW (wm rfl (wm rfl (ob h λr1 e3 h2=>Dk (Hr:=[]) JA (S6 F hb ha ys b r1 e3) rfl (Vo _) rfl ?_)))));rintro _ _ ⟨rfl,rfl⟩;refine wv (Hi rfl rfl) (wa rfl (Al (Aq ?_)));obtain rfl:=Am h2;exact Ap (Bw J7 (A9 rfl)) (sC (sC sN)) ⟨rfl,rfl⟩
theorem My (F:Nat)(hb:Nat)(f:Af)(b:Af)(r:Bool)(h:N3 F f b=some r):Fn Tryz.prog GE 95 [Bt (Ad f),rv (.func (.func 100) #[] #[(.pointer (some ⟨hb,0,none⟩))])] [.blk hb (Ad b) 26] (λR H=>R=rB r∧H=[.blk hb (Ad b) 26]):=by
 refine enter (n:=15) Tryz.func95 rfl Tryz.ntmps95 rfl (λw Z=>?_);unfold N3 at h;refine Ah (By rfl rfl (λb1=>?_));refine JG rfl (B3 rfl) rfl (λb2=>?_);refine wa rfl (Al (BG (S:=(Bool)×(Unit)) (λσ=>H3 σ.1=some r) (λσ=>[(4,rB σ.1)]) (λσ=>[.blk hb (Ad b) 26]) ?_ ?_))
 ·refine Ak (vF AM rfl BZ (vL 1 Cc rfl (wv (Bz rfl rfl) (wm rfl (bz h (λha hh=>?_) (λha hi=>?_))))))
  ·refine wo ha (vF AM rfl CD (wo ha (vL 1 CR rfl (wo ha (wv (r:=rv (.func (.func 130) #[] #[(.pointer (some ⟨b2,0,none⟩))])) (BB rfl) (wo ha (ob hh λhf hj hk=>Dk (Hr:=[.blk b1 (Ad f) 26]) JB (SN F b2 hb f.fValues b hf hj) rfl ((A0 (i:=0) rfl).trans (Vp _ ((A0 (i:=1) rfl).trans (Vp _ (Vo _))))) rfl ?_)))))));rintro _ _ ⟨rfl,rfl⟩;exact wo ha (wv (B1 rfl) (C5 rfl ha rfl (wa rfl (Aj (As (At (!hf,()) hk (A4.c rfl A4.nil) (sS (sC (sS sN)))))))))
  ·exact wf ha (wf ha (wf ha (wf ha (wf ha (wv (r:=rB false) (Au rfl ha rfl) (wa rfl (Aj (As (At (false,()) hi (A4.c rfl A4.nil) (sS (sS (sC sN))))))))))))
 ·rintro⟨hg,⟨⟩⟩ he;refine B2 (l':=[(4,rB hg)]) (H':=[.blk hb (Ad b) 26]) rfl rfl ?_;replace he:H3 hg=some r:=he;unfold H3 at he;refine Aq ?_;obtain rfl:=Am he;exact Ap (Bw Tryz.results95 (A9 rfl)) (sC sN) ⟨rfl,rfl⟩
theorem Ol (F:Nat)(a:Af)(b:Af)(r:Bool)(h:Le F a b=some r):Fn Tryz.prog GE 66 [Bt (Ad a),Bt (Ad b)] [] (λR H=>R=rB r∧H=[]):=by
 refine enter (n:=66) Tryz.func66 rfl Tryz.ntmps66 rfl (λw Z=>?_);unfold Le at h;refine Ah (By rfl rfl (λb1=>?_));refine By rfl rfl (λb2=>?_);refine wa rfl (Al (An (Ah (vF AM rfl BZ (vL 0 Cc rfl (Al (AA (Ah (wv (Bz rfl rfl) (wa rfl (Al (cz h rfl (λc3 h4=>?_) (λc3 h5=>?_)))))))))))))
 ·refine Ah (vF AM rfl BZ (vL 1 Cc rfl (wv (Bf rfl rfl) (wa rfl (Al (Aq (Ao (Ac ?_))))))));obtain rfl:=Am h4;exact Ap (Bw Pf (A9 rfl)) (sS (sS sN)) ⟨rfl,rfl⟩
 ·refine Ah (wv (Bz rfl rfl) (wa rfl (Al (cz h5 rfl (λc6 h7=>?_) (λc6 h8=>?_)))))
  ·refine Ah (vF AM rfl BZ (vL 1 Cc rfl (wv (Bz rfl rfl) (wa rfl (Al (Aq (Ao (Ac ?_))))))));obtain rfl:=Am h7;exact Ap (Bw Pf (A9 rfl)) (sS (sS sN)) ⟨rfl,rfl⟩
  ·refine Ah (wv (Bz rfl rfl) (wa rfl (Al (cz h8 rfl (λc9 ho=>?_) (λc9 hp=>?_)))))
   ·refine Ah (wv (AH (i:=1) Cb B5 rfl rfl rfl rfl) (wv (r:=rv (.func (.func 96) #[] #[(.pointer (some ⟨b2,0,none⟩))])) (BB rfl) (ob ho λhq hr hs=>Dk (Hr:=[.blk b1 (Ad a) 26]) Ph (SE F b2 a b hq hr) rfl (Vo _) rfl ?_)));rintro _ _ ⟨rfl,rfl⟩;refine wa rfl (Al (Aq (Ao (Ac ?_))));obtain rfl:=Am hs;exact Ap (Bw Pf (A9 rfl)) (sS (sS sN)) ⟨rfl,rfl⟩
   ·refine Ah (wv (Bz rfl rfl) (wa rfl (Al (cz hp rfl (λht hu=>?_) (λht hw=>?_)))))
    ·refine Ah (wv (AH (i:=1) Cb B5 rfl rfl rfl rfl) (wv (AH (i:=0) Cb B5 rfl rfl rfl rfl) (ob hu λhx hy hz=>Cs Tryz.call97 (N2 F a b hx hy) rfl (wa rfl (Al (Aq (Ao (Ac ?_))))))));obtain rfl:=Am hz;exact Ap (Bw Pf (A9 rfl)) (sS (sS sN)) ⟨rfl,rfl⟩
    ·refine Ah (wv (Bz rfl rfl) (wa rfl (Al (cz hw rfl (λc21 h0=>?_) (λc21 h1=>?_)))))
     ·refine BG (S:=(Bool)×(Unit)) (λσ=>D3 σ.1=some r) (λσ=>[(4,rB σ.1)]) (λσ=>[]) ?_ ?_
      ·refine Ak (vF AM rfl BZ (vL 1 Cc rfl (wv (Bz rfl rfl) (wm rfl (bz h0 (λha h2=>?_) (λha h3=>?_))))))
       ·refine wo ha (vF AM rfl CB (wo ha (vL 1 CO rfl (wo ha (vF AM rfl CB (wo ha (vL 0 CO rfl (wo ha (ob h2 λh6 h9 hA=>Cs Tryz.call98 (EO a.fText b.fText h6 h9) rfl (C5 rfl ha rfl (wm rfl (bz hA (λc46 hB=>?_) (λc46 hC=>?_)))))))))))))
        ·exact wf c46 (wf c46 (wf c46 (wv (r:=rB true) (Az rfl c46 rfl) (wa rfl (Aj (As (At (true,()) hB (A4.c rfl A4.nil) (sS (sS sN)))))))))
        ·refine wo c46 (wv (AH (i:=1) Cb B5 rfl rfl rfl rfl) (wo c46 (wv (r:=rv (.func (.func 99) #[] #[(.pointer (some ⟨b2,0,none⟩))])) (BB rfl) (wo c46 (ob hC λhk hD hE=>Dk (Hr:=[.blk b1 (Ad a) 26]) Ph (OQ F b2 a b hk hD) rfl (Vo _) rfl ?_)))));rintro _ _ ⟨rfl,rfl⟩;exact Cq rfl c46 rfl (wa rfl (Aj (As (At (hk,()) hE (A4.c rfl A4.nil) (sS (sS sN))))))
       ·refine wf ha (wf ha (wf ha (wf ha (wf ha (wv (r:=rB false) (Au rfl ha rfl) (wm rfl (AJ (b:=false) rfl rfl rfl (wv (AH (i:=1) Cb B5 rfl rfl rfl rfl) (AJ (b:=false) rfl rfl rfl (wv (r:=rv (.func (.func 99) #[] #[(.pointer (some ⟨b2,0,none⟩))])) (BB rfl) (AJ (b:=false) rfl rfl rfl (ob h3 λhh hG hH=>Dk (Hr:=[.blk b1 (Ad a) 26]) Ph (OQ F b2 a b hh hG) rfl (Vo _) rfl ?_))))))))))));rintro _ _ ⟨rfl,rfl⟩;exact wv (r:=rB hh) (Au (b:=false) rfl rfl rfl) (wa rfl (Aj (As (At (hh,()) hH (A4.c rfl A4.nil) (sS (sS sN))))))
      ·rintro⟨hl,⟨⟩⟩ hf;refine B2 (l':=[(4,rB hl)]) (H':=[]) rfl rfl ?_;replace hf:D3 hl=some r:=hf;unfold D3 at hf;refine Aq (Ao (Ac ?_));obtain rfl:=Am hf;exact Ap (Bw Pf (A9 rfl)) sN ⟨rfl,rfl⟩
     ·refine Av (A8 (AG (BG (S:=(Bool)×(Unit)) (λσ=>Dd σ.1=some r) (λσ=>[(4,rB σ.1)]) (λσ=>[]) ?_ ?_)))
      ·refine Ak (vF AM rfl BZ (vL 1 Cc rfl (wv (Bz rfl rfl) (wm rfl (bz h1 (λc80 hI=>?_) (λc80 hJ=>?_))))))
       ·refine wo c80 (vF AM rfl BH (wo c80 (vL 0 Cd rfl (wo c80 (vF AM rfl BH (wo c80 (vL 1 Cd rfl (wo c80 (wv (KR rfl rfl) (C5 rfl c80 rfl (wm rfl (bz hI (λhb hK=>?_) (λhb hL=>?_)))))))))))))
        ·refine wo hb (vF AM rfl BH (wo hb (vL 1 Cd rfl (wo hb (vF AM rfl BH (wo hb (vL 0 Cd rfl (wo hb (wv (KR rfl rfl) (C5 rfl hb rfl (wm rfl (bz hK (λhe hN=>?_) (λhe hO=>?_)))))))))))))
         ·exact wf he (wf he (wf he (wv (r:=rB true) (Az rfl he rfl) (wa rfl (Aj (As (At (true,()) hN (A4.c rfl A4.nil) (sS (sS sN)))))))))
         ·refine wo he (wv (AH (i:=1) Cb B5 rfl rfl rfl rfl) (wo he (wv (r:=rv (.func (.func 100) #[] #[(.pointer (some ⟨b2,0,none⟩))])) (BB rfl) (wo he (ob hO λhm hP hQ=>Dk (Hr:=[.blk b1 (Ad a) 26]) Ph (My F b2 a b hm hP) rfl (Vo _) rfl ?_)))));rintro _ _ ⟨rfl,rfl⟩;exact Cq rfl he rfl (wa rfl (Aj (As (At (hm,()) hQ (A4.c rfl A4.nil) (sS (sS sN))))))
        ·refine wf hb (wf hb (wf hb (wf hb (wf hb (wv (r:=rB false) (Au rfl hb rfl) (wm rfl (AJ (b:=false) rfl rfl rfl (wv (AH (i:=1) Cb B5 rfl rfl rfl rfl) (AJ (b:=false) rfl rfl rfl (wv (r:=rv (.func (.func 100) #[] #[(.pointer (some ⟨b2,0,none⟩))])) (BB rfl) (AJ (b:=false) rfl rfl rfl (ob hL λhi hR hS=>Dk (Hr:=[.blk b1 (Ad a) 26]) Ph (My F b2 a b hi hR) rfl (Vo _) rfl ?_))))))))))));rintro _ _ ⟨rfl,rfl⟩;exact wv (r:=rB hi) (Au (b:=false) rfl rfl rfl) (wa rfl (Aj (As (At (hi,()) hS (A4.c rfl A4.nil) (sS (sS sN))))))
       ·refine wf c80 (wf c80 (wf c80 (wf c80 (wf c80 (wv (r:=rB false) (Au rfl c80 rfl) (wm rfl (wz rfl rfl (wz rfl rfl (wz rfl rfl (wz rfl rfl (wz rfl rfl (wv (r:=rB false) (Au (b:=false) rfl rfl rfl) (wm rfl (AJ (b:=false) rfl rfl rfl (wv (AH (i:=1) Cb B5 rfl rfl rfl rfl) (AJ (b:=false) rfl rfl rfl (wv (r:=rv (.func (.func 100) #[] #[(.pointer (some ⟨b2,0,none⟩))])) (BB rfl) (AJ (b:=false) rfl rfl rfl (ob hJ λhj hT hU=>Dk (Hr:=[.blk b1 (Ad a) 26]) Ph (My F b2 a b hj hT) rfl (Vo _) rfl ?_)))))))))))))))))));rintro _ _ ⟨rfl,rfl⟩;exact wv (r:=rB hj) (Au (b:=false) rfl rfl rfl) (wa rfl (Aj (As (At (hj,()) hU (A4.c rfl A4.nil) (sS (sS sN))))))
      ·rintro⟨hn,⟨⟩⟩ hg;refine B2 (l':=[(4,rB hn)]) (H':=[]) rfl rfl ?_;replace hg:Dd hn=some r:=hg;unfold Dd at hg;refine Aq ?_;obtain rfl:=Am hg;exact Ap (Bw Pf (A9 rfl)) sN ⟨rfl,rfl⟩
theorem Lf (F:Nat)(long:(List Ar))(short:(List Ar))(r:Bool)(h:Ja F long short=some r):Fn Tryz.prog GE 67 [AE 1 (A3 eS long),AE 1 (A3 eS short)] [] (λR H=>R=rB r∧H=[]):=by
 refine enter (n:=18) Tryz.func67 rfl Tryz.ntmps67 rfl (λw Z=>?_);unfold Ja at h;refine Ah (wa rfl (Al (ck h λg1 h2=>ck h2 λg3 h4=>AK [(4,rB ((decide ((short.length:Int)<(long.length:Int)))&&(ov (E1 F (List.take (Bl (short.length:Int)) long) short))))] [] ?_ ?_)))
 ·refine Ak (wm rfl (wv (AI (ys:=long) (enc:=eS) CQ rfl) (wm rfl (wv (AI (ys:=short) (enc:=eS) CQ rfl) (wv (CX rfl rfl) (wm rfl (AU (decide ((short.length:Int)<(long.length:Int))) (λc5=>?_) (λc5=>?_))))))))
  ·refine wo c5 (wm rfl (wo c5 (wm rfl (wo c5 (wv (AI (ys:=short) (enc:=eS) CQ rfl) (wo c5 (wv (r:=AE 1 (A3 eS (List.take (Bl (short.length:Int)) long))) (NW CQ CB rfl rfl (Dq g1 c5)) (wo c5 (wm rfl (wo c5 (Cs Tryz.call65 (KF F (List.take (Bl (short.length:Int)) long) short (ov (E1 F (List.take (Bl (short.length:Int)) long) short)) (Gn (Dq g3 c5))) rfl (C5 rfl c5 rfl (wa rfl (Aj ?_))))))))))))));exact Cp c5
  ·refine wf c5 (wf c5 (wf c5 (wf c5 (wf c5 (wf c5 (wv (r:=rB false) (Au rfl c5 rfl) (wa rfl (Aj ?_))))))));exact Cp c5
 refine Aq ?_;obtain rfl:=Am h4;exact Ap (Bw Tryz.results67 (A9 rfl)) sN ⟨rfl,rfl⟩
theorem Ld (F:Nat)(a:Af)(b:Af)(r:Bool)(h:IZ F a b=some r):Fn Tryz.prog GE 24 [Bt (Ad a),Bt (Ad b)] [] (λR H=>R=rB r∧H=[]):=by
 refine enter (n:=51) Tryz.func24 rfl Tryz.ntmps24 rfl (λw Z=>?_);unfold IZ at h;refine Ah (By rfl rfl (λb1=>?_));refine By rfl rfl (λb2=>?_);refine wa rfl (Al (An (AA (ck h λg3 h4=>ck h4 λg5 h6=>AK [(2,rP b1 0),(3,rP b2 0),(5,rB ((!decide ((ov (C1 F a))=0))||(!decide ((ov (C1 F b))=0))))] [.blk b2 (Ad b) 26,.blk b1 (Ad a) 26] ?_ ?_))))
 ·refine Ak (wv (AH (i:=1) Cb B5 rfl rfl rfl rfl) (Cs Qp (Hz F a (ov (C1 F a)) (Gn g3)) rfl (wv (Bf rfl rfl) (wm rfl (AU (!decide ((ov (C1 F a))=0)) (λc7=>?_) (λc7=>?_))))))
  ·refine wf c7 (wf c7 (wf c7 (wv (r:=rB true) (Az rfl c7 rfl) (wa rfl (Aj ?_)))));exact Cp c7
  ·refine wo c7 (wv (AH (i:=0) Cb B5 rfl rfl rfl rfl) (wo c7 (Cs Qp (Hz F b (ov (C1 F b)) (Gn (CA g5 c7))) rfl (wo c7 (wv (Bf rfl rfl) (Cq rfl c7 rfl (wa rfl (Aj ?_))))))));exact Cp c7
 refine cz h6 rfl (λc8 h9=>?_) (λc8 he=>?_)
 ·refine Ah (wa rfl (Al (Aq (Ao (Ac ?_)))));obtain rfl:=Am h9;exact Ap (Bw Qi (A9 rfl)) (sS (sS sN)) ⟨rfl,rfl⟩
 ·refine Ah (vF AM rfl Gd (vL 1 Hg rfl (vF AM rfl Gd (vL 0 Hg rfl (ob he λhf hg hh=>Cs Tryz.call65 (KF F a.fPath b.fPath hf hg) rfl (wa rfl (Al (cz hh rfl (λhi hj=>?_) (λhi hk=>?_)))))))))
  ·refine Ah (wv (AH (i:=1) Cb B5 rfl rfl rfl rfl) (wv (AH (i:=0) Cb B5 rfl rfl rfl rfl) (ob hj λhl hm hn=>Cs Tryz.call66 (Ol F a b hl hm) rfl (wa rfl (Al (Aq (Ao (Ac ?_))))))));obtain rfl:=Am hn;exact Ap (Bw Qi (A9 rfl)) (sS (sS sN)) ⟨rfl,rfl⟩
  ·refine Ah (vF AM rfl Gd (vL 1 Hg rfl (vF AM rfl Gd (vL 0 Hg rfl (ob hk λho hp hq=>Cs Tryz.call67 (Lf F a.fPath b.fPath ho hp) rfl (wa rfl (Al (cz hq rfl (λhr hs=>?_) (λhr ht=>?_)))))))))
   ·refine AK [(4,rB ((decide (b.fOp=1))&&(!decide (a.fOp=2))))] [] ?_ ?_
    ·refine Ak (vF AM rfl BZ (vL 0 Cc rfl (wv (Bz rfl rfl) (wm rfl (AU (decide (b.fOp=1)) (λha=>?_) (λha=>?_))))))
     ·refine wo ha (vF AM rfl BZ (wo ha (vL 1 Cc rfl (wo ha (wv (Bf rfl rfl) (C5 rfl ha rfl (wa rfl (Aj ?_))))))));exact Cp ha
     ·refine wf ha (wf ha (wf ha (wv (r:=rB false) (Au rfl ha rfl) (wa rfl (Aj ?_)))));exact Cp ha
    refine Aq (Ao (Ac ?_));obtain rfl:=Am hs;exact Ap (Bw Qi (A9 rfl)) sN ⟨rfl,rfl⟩
   ·refine Ah (vF AM rfl Gd (vL 0 Hg rfl (vF AM rfl Gd (vL 1 Hg rfl (ob ht λhu hw hx=>Cs Tryz.call67 (Lf F b.fPath a.fPath hu hw) rfl (wa rfl (Al (cz hx rfl (λhy hz=>?_) (λhy h0=>?_)))))))))
    ·refine AK [(4,rB ((decide (a.fOp=2))&&(decide (b.fOp=2))))] [] ?_ ?_
     ·refine Ak (vF AM rfl BZ (vL 1 Cc rfl (wv (Bz rfl rfl) (wm rfl (AU (decide (a.fOp=2)) (λhb=>?_) (λhb=>?_))))))
      ·refine wo hb (vF AM rfl BZ (wo hb (vL 0 Cc rfl (wo hb (wv (Bz rfl rfl) (C5 rfl hb rfl (wa rfl (Aj ?_))))))));exact Cp hb
      ·refine wf hb (wf hb (wf hb (wv (r:=rB false) (Au rfl hb rfl) (wa rfl (Aj ?_)))));exact Cp hb
     refine Aq (Ao (Ac ?_));obtain rfl:=Am hz;exact Ap (Bw Qi (A9 rfl)) sN ⟨rfl,rfl⟩
    ·refine Av (A8 (AG (Ah (wa rfl (Al (Aq ?_))))));obtain rfl:=Am h0;exact Ap (Bw Qi (A9 rfl)) (sS (sS sN)) ⟨rfl,rfl⟩
end Go.Proofs.YtghdglcmblpbeaaGreatDoor.Q
namespace Go.Proofs.YtghdglcmblpbeaaGreatDoor
open Go
def EW {T:Type}:List (Int×T)→Int→T→T
 | [],_,z=>z
 | p::r,k,z=>bif decide (k=p.1) then p.2 else EW r k z
def Lc {T:Type}:List (Int×T)→Int→Bool
 | [],_=>false
 | p::r,k=>decide (k=p.1)||Lc r k
set_option linter.unusedVariables false
def EI (ls:(List (List (List Aa))))(hb:(List (List Aa)))(ha:Int):Option (Stp ((List (List Aa))×Int) (Out ((List (List Aa))) ((List (List Aa))))):=
 AP (decide (ha<(ls.length:Int))) (AQ (Co ha (ls.length:Int))<|AQ (DU 24 (hb.length+(Ax ls ha).length))<|AQ (BM .i64 (ha+1))<|some (.next (hb++(Ax ls ha),ha+1))) (some (.out (.go hb)))
def EG (ha:(List (List Aa))):Option ((List (List Aa))):=
 some ha
def EJ (ls:(List (List (List Aa))))(hb:Int)(ha:Int):Option (Stp (Int×Int) (Out ((List (List Aa))) (Int))):=
 AP (decide (ha<(ls.length:Int))) (AQ (Co ha (ls.length:Int))<|AQ (BM .i64 (hb+((Ax ls ha).length:Int)))<|AQ (!(decide ((hb+((Ax ls ha).length:Int))<0)))<|AQ (BM .i64 (ha+1))<|some (.next (hb+((Ax ls ha).length:Int),ha+1))) (some (.out (.go hb)))
def EH (F:Nat)(ls:(List (List (List Aa))))(ha:Int):Option ((List (List Aa))):=
 AQ (decide (0<ha))<|AQ (DU 24 (Int.toNat ha))<|Bd (BW (λσ=>EI ls σ.1 σ.2) F (([]:List (List Aa)),0)) (BV λν=>EG ν)
def KG (F:Nat)(ls:(List (List (List Aa)))):Option ((List (List Aa))):=
 Bd (BW (λσ=>EJ ls σ.1 σ.2) F (0,0)) (BV λν=>EH F ls ν)
def IY (F:Nat)(l:(List Ar))(he:(List (List Aa)))(ha:Int):Option (Stp ((List (List Aa))×Int) (Out ((List Aa)×Int) ((List (List Aa))))):=
 AP (decide (ha<(l.length:Int))) (AQ (Co ha (l.length:Int))<|Bd (Mc F (Ax l ha)) λhb=>AP (!decide (hb.2=0)) (some (.out (.ret (([]:List Aa),hb.2)))) (AQ (DU 24 (he.length+([hb.1]:List (List Aa)).length))<|AQ (BM .i64 (ha+1))<|some (.next (he++([hb.1]:List (List Aa)),ha+1)))) (some (.out (.go he)))
def IX (F:Nat)(hb:(List (List Aa))):Option ((List Aa)×Int):=
 Bd (LA F hb) λha=>some (ha.1,ha.2)
def Rk (F:Nat)(l:(List Ar)):Option ((List Aa)×Int):=
 Bd (BW (λσ=>IY F l σ.1 σ.2) F (([]:List (List Aa)),0)) (BV λν=>IX F ν)
def Jv (F:Nat)(f:Af):Option ((List (List Aa))×Int):=
 AP (decide (f.fOp=3)) (Bd (LA F f.fValues) λr4=>some (([r4.1]:List (List Aa)),r4.2)) (AP (decide (f.fOp=4)) (Bd (LA F f.fValues) λha=>some (([ha.1]:List (List Aa)),ha.2)) (AP (decide (f.fOp=5)) (Bd (Mc F f.fText) λhb=>some (([hb.1]:List (List Aa)),hb.2)) (AP (decide (f.fOp=6)) (Bd (RX F f.fLow) λhe=>Bd (RX F f.fHigh) λhf=>some (([he.1,hf.1]:List (List Aa)),max he.2 hf.2)) (some (([]:List (List Aa)),0)))))
def Mw (F:Nat)(f:Af):Option (Ar×Int):=
 Bd (C1 F f) λr2=>AP (!decide (r2=0)) (some (([]:Ar),r2)) (Bd (Rk F f.fPath) λr8=>AP (!decide (r8.2=0)) (some (([]:Ar),r8.2)) (Bd (Mv) λhf=>AQ (Co f.fOp (hf.length:Int))<|Bd (Mc F (Ax hf f.fOp)) λha=>AP (!decide (ha.2=0)) (some (([]:Ar),ha.2)) (Bd (Jv F f) λhb=>AP (!decide (hb.2=0)) (some (([]:Ar),hb.2)) (Bd (KG F ([([r8.1,ha.1]:List (List Aa)),hb.1]:List (List (List Aa)))) λhh=>Bd (LA F hh) λhe=>AP (!decide (he.2=0)) (some (([]:Ar),he.2)) (Bd (Me F he.1) λhg=>some (hg.1,hg.2))))))
def GN (f:Af)(l:(List (List Aa)))(ha:Int):Option (Stp (Int) (Out (Af×Bool) (Unit))):=
 AP (decide (ha<((EW ((((([]:List (Int×(List Int)))++[(3,([5]:List Int))])++[(4,([5]:List Int))])++[(5,([4]:List Int))])++[(6,([3,3]:List Int))]) f.fOp ([]:(List Int))).length:Int))) (AQ (Co ha ((EW ((((([]:List (Int×(List Int)))++[(3,([5]:List Int))])++[(4,([5]:List Int))])++[(5,([4]:List Int))])++[(6,([3,3]:List Int))]) f.fOp ([]:(List Int))).length:Int))<|AQ (Co ha (l.length:Int))<|AQ (Co 0 ((Ax l ha).length:Int))<|AP (!decide (((Ax (Ax l ha) 0).fKind)=(Ax (EW ((((([]:List (Int×(List Int)))++[(3,([5]:List Int))])++[(4,([5]:List Int))])++[(5,([4]:List Int))])++[(6,([3,3]:List Int))]) f.fOp ([]:(List Int))) ha))) (some (.out (.ret (f,false)))) (AQ (BM .i64 (ha+1))<|some (.next (ha+1)))) (some (.out (.go ())))
def GM (F:Nat)(f:Af)(l:(List (List Aa))):Option (Af×Bool):=
 AP (decide (f.fOp=3)) (AQ (Co 0 (l.length:Int))<|Bd (Jg F (Ax l 0)) λha=>some ((Af.mk f.fPath f.fOp ha.1 f.fText f.fLow f.fHigh),decide (ha.2=0))) (AP (decide (f.fOp=4)) (AQ (Co 0 (l.length:Int))<|Bd (Jg F (Ax l 0)) λhb=>some ((Af.mk f.fPath f.fOp hb.1 f.fText f.fLow f.fHigh),decide (hb.2=0))) (AP (decide (f.fOp=5)) (AQ (Co 0 (l.length:Int))<|AQ (Co 0 ((Ax l 0).length:Int))<|some ((Af.mk f.fPath f.fOp f.fValues ((Ax (Ax l 0) 0).fStr) f.fLow f.fHigh),true)) (AP (decide (f.fOp=6)) (AQ (Co 0 (l.length:Int))<|AQ (Co 0 ((Ax l 0).length:Int))<|AQ (Co 1 (l.length:Int))<|AQ (Co 0 ((Ax l 1).length:Int))<|some ((Af.mk f.fPath f.fOp f.fValues f.fText ((Ax (Ax l 0) 0).fInt) ((Ax (Ax l 1) 0).fInt)),true)) (some (f,true)))))
def Mx (F:Nat)(f:Af)(l:(List (List Aa))):Option (Af×Bool):=
 AP (!decide (((EW ((((([]:List (Int×(List Int)))++[(3,([5]:List Int))])++[(4,([5]:List Int))])++[(5,([4]:List Int))])++[(6,([3,3]:List Int))]) f.fOp ([]:(List Int))).length:Int)=(l.length:Int))) (some (f,false)) (Bd (BW (λσ=>GN f l σ) F 0) (BV λν=>GM F f l ))
def HK (hb:(List (List Aa))×Int)(ha:Int)(he:(List Ar)):Option (Stp (Int×(List Ar)) (Out (Af×Int) ((List Ar)))):=
 AP (decide (ha<(hb.1.length:Int))) (AQ (Co ha (hb.1.length:Int))<|AQ (Co 0 ((Ax hb.1 ha).length:Int))<|AP (!decide (((Ax (Ax hb.1 ha) 0).fKind)=4)) (some (.out (.ret ((Af.mk ([]:List Ar) 0 ([]:List (List Aa)) ([]:Ar) 0 0),1)))) (AQ (DU 16 (he.length+([(Ax (Ax hb.1 ha) 0).fStr]:List Ar).length))<|AQ (BM .i64 (ha+1))<|some (.next (ha+1,he++([(Ax (Ax hb.1 ha) 0).fStr]:List Ar))))) (some (.out (.go he)))
def HJ (F:Nat)(r9:(List (List Aa))×Int)(he:(List Ar)):Option (Af×Int):=
 Bd (Mv) λhf=>AQ (Co 1 (r9.1.length:Int))<|AQ (Co 0 ((Ax r9.1 1).length:Int))<|Bd (KE F hf ((Ax (Ax r9.1 1) 0).fStr)) λhg=>AQ (E8 2 (r9.1.length:Int))<|Bd (Mx F (Af.mk he hg ([]:List (List Aa)) ([]:Ar) 0 0) (List.drop (Int.toNat 2) r9.1)) λha=>AP (((decide (ha.1.fOp<1))||(!ha.2))) (some ((Af.mk ([]:List Ar) 0 ([]:List (List Aa)) ([]:Ar) 0 0),1)) (Bd (C1 F ha.1) λhb=>AP (!decide (hb=0)) (some ((Af.mk ([]:List Ar) 0 ([]:List (List Aa)) ([]:Ar) 0 0),hb)) (some (ha.1,0)))
def Oe (F:Nat)(s:Ar):Option (Af×Int):=
 Bd (Mf F s) λr3=>AP (!decide (r3.2=0)) (some ((Af.mk ([]:List Ar) 0 ([]:List (List Aa)) ([]:Ar) 0 0),r3.2)) (Bd (Jg F r3.1) λr9=>AQ (imp (!(!decide (r9.2=0))) (Co 0 (r3.1.length:Int)))<|AQ (imp (!(!decide (r9.2=0))) (imp (!(!decide (((Ax r3.1 0).fKind)=5))) (imp (!(decide ((r9.1.length:Int)<2))) (Co 0 (r9.1.length:Int)))))<|AQ (imp (!(!decide (r9.2=0))) (imp (!(!decide (((Ax r3.1 0).fKind)=5))) (imp (!(decide ((r9.1.length:Int)<2))) (Co 0 ((Ax r9.1 0).length:Int)))))<|AQ (imp (!(!decide (r9.2=0))) (imp (!(!decide (((Ax r3.1 0).fKind)=5))) (imp (!(decide ((r9.1.length:Int)<2))) (imp (!(!decide (((Ax (Ax r9.1 0) 0).fKind)=5))) (Co 1 (r9.1.length:Int))))))<|AQ (imp (!(!decide (r9.2=0))) (imp (!(!decide (((Ax r3.1 0).fKind)=5))) (imp (!(decide ((r9.1.length:Int)<2))) (imp (!(!decide (((Ax (Ax r9.1 0) 0).fKind)=5))) (Co 0 ((Ax r9.1 1).length:Int))))))<|AP (((!decide (r9.2=0))||((!decide (((Ax r3.1 0).fKind)=5))||((decide ((r9.1.length:Int)<2))||((!decide (((Ax (Ax r9.1 0) 0).fKind)=5))||(!decide (((Ax (Ax r9.1 1) 0).fKind)=4))))))) (some ((Af.mk ([]:List Ar) 0 ([]:List (List Aa)) ([]:Ar) 0 0),1)) (AQ (Co 0 (r9.1.length:Int))<|Bd (Jg F (Ax r9.1 0)) λha=>AP (!decide (ha.2=0)) (some ((Af.mk ([]:List Ar) 0 ([]:List (List Aa)) ([]:Ar) 0 0),1)) (Bd (BW (λσ=>HK ha σ.1 σ.2) F (0,([]:List Ar))) (BV λν=>HJ F r9 ν))))
end Go.Proofs.YtghdglcmblpbeaaGreatDoor
namespace Go.Proofs.YtghdglcmblpbeaaGreatDoor.Q
open Go Go.RowKit
set_option linter.unusedVariables false
def EN {T:Type}(enc:T→Rp)(xs:List (Int×T)):List (Int×Rp):=xs.map λp=>(p.1,enc p.2)
section
variable {P : Program} {n : Nat} {c : Cx} {ops : Array Oper} {Q : Exit → Act → World → Prop} {rest : List Oper} {l : Fr} {H : List Ent} {d : Nat} {d' : Option Nat} {t kt et ty : TypeId} {pos : String} {af : Array Edge} {g : Option (Nat × Bool)} {x y u : Operand} {b i : Nat} {T : Type} {enc : T → Rp} {xs : List (Int × T)} {z : T} {zv : Value}
theorem NL (hn:Nat.blt d n=true)(h:∀b,WL P n c ops Q rest ((d,rv (.map (some b)))::l) (.imap b []::H)) :
  WL P n c ops Q ({ dst:=some d,op:=.makeMap t none,type:=ty,pos:=pos,after:=af,guard:=none }::rest) l H:=
 JT (λa w Z ha hw=>⟨_,w.alloc (.map #[] 0),_,_,Z,by simp[execOp,run_makeMap],Fz.le.refl _,rfl,
  hw.alloc _ (e:=.imap w.heap.size []) ⟨#[],0,by simpa using heap_alloc_new w _,trivial⟩ rfl,h w.heap.size⟩) hn
theorem Js (k:IntKind)(m:Int):MapKept.IsKey (.int k) (.int k m):=by simp[MapKept.IsKey]
theorem St.imapset {Z:Fz}{w:World}(h:St c H Z w){m m':List (Int×Rp)}(hi:H[i]? =some (.imap b m)){es es':Array MapEntry}{ck ck':Nat}(h1:w.heap[b]? =some (.map es ck))(h2:Lr Z m' es'.toList) :
  St c (H.set i (.imap b m')) Z { w with heap:=w.heap.setIfInBounds b (.map es' ck') }:=by
 obtain⟨q1,q2⟩:=MapKept.heap_set (o':=.map es' ck') h1;exact h.set hi rfl rfl rfl (by simp) (λk _ hk=>q2 k (by simpa[Ent.foot] using hk)) ⟨es',ck',q1,h2⟩ (by simp[Ent.foot])
theorem Rf {Z:Fz}(k:Int):∀{m:List (Int×Rp)} {es:List MapEntry} (j:Nat),Lr Z m es→(∃q,Instr.findNow (.int .i64) (.int .i64 k) es j=some q)∧(Lc m k=false→Instr.findNow (.int .i64) (.int .i64 k) es j=some none)∧(Lc m k=true→∃q v,Instr.findNow (.int .i64) (.int .i64 k) es j=some (some (q,v))∧∀z,(EW m k z).p Z v)
 | [],[],j,_=>⟨⟨_,rfl⟩,λ_=>rfl,λh=>by cases h⟩
 | p::m,e::es,j,⟨⟨h1,h2⟩,h3⟩=>by
  have ih:=Rf k (j+1) h3;unfold Instr.findNow Lc EW;rw[h1];have hs:Instr.sameNow (.int .i64) (.int .i64 k) (.int .i64 p.1)=some (k ==p.1):=by simp[Instr.sameNow]
  rw[hs]
  by_cases hk:k=p.1
  ·subst hk;rw[beq_self_eq_true,V2 rfl,VE];refine⟨⟨_,rfl⟩,λh=>?_,λ_=>⟨j,e.val,rfl,λz=>h2⟩⟩
   cases h
  ·have hb:(k ==p.1)=false:=by simp[hk]
   rw[hb];simp only[Vy hk,V6,Vu];exact ih
theorem Lr.push {Z:Fz}{k:Int}{r:Rp}{v:Value}(hv:r.p Z v)(ck:Nat):∀{m:List (Int×Rp)} {es:List MapEntry},Lr Z m es→Lr Z (m++[(k,r)]) (es++[⟨.int .i64 k,v,ck⟩])
 | [],[],_=>⟨⟨rfl,hv⟩,trivial⟩
 | p::m,e::es,⟨h1,h2⟩=>⟨h1,h2.push hv ck⟩
theorem Ps {k:Int}{r:Rp}{m:List (Int×Rp)}(ht:P.underlying t=some (.map kt et))(hk:P.underlying kt=some (.int .i64))(hx:ev l x=some (rv (.map (some b))))(hi:H[i]? =some (.imap b m))(hy:ev l y=some (rI .i64 k))(hu:ev l u=some r)(hm:Lc m k=false){H':List Ent}(hH:H.set i (.imap b (m++[(k,r)]))=H')(h:WL P n c ops Q rest l H') :
  WL P n c ops Q ({ dst:=none,op:=.insert t x y u,type:=ty,pos:=pos,after:=af,guard:=none }::rest) l H:=
 MN λa w Z ha hw=>by
  obtain⟨es,ck,h1,h2⟩:=hw.ent hi;have hv:=ha.ev hu;subst hH;have q1:=(Rf k 0 h2).2.1 hm;refine⟨_,_,?_,hw.imapset hi h1 (es':=es.push { key:=.int .i64 k,val:=a.eval u,born:=ck }) (ck':=ck+1) (by simpa using h2.push hv ck),h⟩;simp[execOp,ha.eval hx,ha.eval hy,Instr.mapUpdate,run_underlying ht,MapKept.run_getObj_map h1,MapKept.run_checkKey hk (Js _ _),MapKept.run_findKey hk q1,MapKept.run_setObj_map _ h1]
theorem Ny (enc:T→Rp)(xs:List (Int×T))(k:Int):Lc (EN enc xs) k=Lc xs k:=by
 induction xs with
 | nil=>rfl
 | cons p r ih=>unfold EN at ih ⊢;simp only[Wb,Lc,ih]
theorem Re (enc:T→Rp)(xs:List (Int×T))(k:Int)(z:T):EW (EN enc xs) k (enc z)=enc (EW xs k z):=by
 induction xs with
 | nil=>rfl
 | cons p r ih=>unfold EN at ih ⊢;simp only[Wb,EW,ih];cases decide (k=p.1)<;>rfl
theorem GD {k:Int}{v:T}(ht:P.underlying t=some (.map kt et))(hk:P.underlying kt=some (.int .i64))(hx:ev l x=some (rv (.map (some b))))(hi:H[i]? =some (.imap b (EN enc xs)))(hy:ev l y=some (rI .i64 k))(hu:ev l u=some (enc v))(hm:Lc xs k=false){H':List Ent}(hH:H.set i (.imap b (EN enc (xs++[(k,v)])))=H')(h:WL P n c ops Q rest l H') :
  WL P n c ops Q ({ dst:=none,op:=.insert t x y u,type:=ty,pos:=pos,after:=af,guard:=none }::rest) l H:=
 Ps ht hk hx hi hy hu (by rw[Ny];exact hm) (by rw[← hH];unfold EN;simp) h
theorem Ts {k:Int}(ht:P.underlying t=some (.map kt et))(hk:P.underlying kt=some (.int .i64))(hz:∀w,(zeroValue et).run P w = .ok zv w)(hzr:∀Z,(enc z).p Z zv)(hx:ev l x=some (rv (.map (some b))))(hi:H[i]? =some (.imap b (EN enc xs)))(hy:ev l y=some (rI .i64 k)) :
  Bm P n c l H { dst:=d',op:=.lookup t x y false,type:=ty,pos:=pos,after:=af,guard:=g } (enc (EW xs k z)):=λa w Z ha hw=>by
 obtain⟨es,ck,h1,h2⟩:=hw.ent hi;have hf:=Rf k 0 h2
 cases hh:Lc (EN enc xs) k with
 | false=>
  have hv:EW xs k z=z:=by
   rw[Ny] at hh;clear hf h1 h2 hi
   induction xs with
   | nil=>rfl
   | cons p r ih=>
    simp only[Lc,VI] at hh;simp only[EW,hh.1,Vu];exact ih hh.2
  rw[hv];exact⟨zv,hzr Z,by simp[execOp,ha.eval hx,ha.eval hy,Instr.lookup,run_underlying ht,MapKept.run_getObj_map h1,MapKept.run_checkKey hk (Js _ _),MapKept.run_findKey hk (hf.2.1 hh),hz]⟩
 | true=>
  obtain⟨q,v,q1,q2⟩:=hf.2.2 hh;refine⟨v,by have:=q2 (enc z);rw[Re] at this;exact this,by simp[execOp,ha.eval hx,ha.eval hy,Instr.lookup,run_underlying ht,MapKept.run_getObj_map h1,MapKept.run_checkKey hk (Js _ _),MapKept.run_findKey hk q1]⟩
end
end Go.Proofs.YtghdglcmblpbeaaGreatDoor.Q
namespace Go.Proofs
open Go.Shelf
def Tryz.GrowL_ren:Go.Shelf.Ren:=⟨fun | 4=>86 | n=>n,fun | 22=>24 | 25=>28 | 3=>3 | 4=>4 | 9=>9 | 20=>20 | 0=>0 | n=>n,fun | n=>n⟩
theorem Tryz.GrowL:Go.Proofs.Lays8.n4 Tryz.prog Tryz.GrowL_ren:={
 mixed:=by kernel_rfl
 f4:=⟨Tryz.f86.name,by decide,Tryz.func86.trans (congrArg some (by kernel_rfl))⟩
 t0:=Tryz.underlying0
 a0:=Tryz.isAgg0
 z0:=Tryz.sizeOf0
 v0:=Tryz.zeroValue0
 t3:=Tryz.underlying3
 a3:=Tryz.isAgg3
 z3:=Tryz.sizeOf3
 v3:=Tryz.zeroValue3
 t4:=Tryz.underlying4
 a4:=Tryz.isAgg4
 z4:=Tryz.sizeOf4
 v4:=Tryz.zeroValue4
 t9:=Tryz.underlying9
 a9:=Tryz.isAgg9
 z9:=Tryz.sizeOf9
 v9:=Tryz.zeroValue9
 t20:=Tryz.underlying20
 a20:=Tryz.isAgg20
 z20:=Tryz.sizeOf20
 v20:=Tryz.zeroValue20
 t22:=Tryz.underlying24
 a22:=Tryz.isAgg24
 z22:=Tryz.sizeOf24
 v22:=Tryz.zeroValue24 }
end Go.Proofs
namespace Go.Proofs.YtghdglcmblpbeaaGreatDoor.Q
open Go Go.RowKit Go.Proofs Go.Shelf
set_option linter.unusedVariables false
theorem T5 {T:Type}(enc:T→List Rp)(m:Int)(g1:decide (0<m)=true)(g2:DU 24 (Int.toNat m)=true):Fn Tryz.prog GE 86 [rv (.slice none 0 0),rI .i64 m] [] (λR H=>∃v:Value,R=rv v∧H=[.row v 28 1 (([]:List T).map enc)]):=λw Z vs hv hs=>by
 have e:=AY.eq_rv (us:=[.slice none 0 0,.int .i64 m]) hv;subst e;have g1':=VZ g1;have g2':Int.toNat m*24≤140737488355328:=VZ g2;have key:(Tryz.prog.info? 28).map (λi=>(i.zero,i.size,i.bytes))=some (some (.slice none 0 0),1,24):=by kernel_rfl
 obtain⟨inf,hi,h2⟩:=Option.map_eq_some_iff.1 key;simp only[Prod.mk.injEq] at h2;obtain⟨hz,hsz,hb⟩:=h2;have h:=Any8.slices_Grow_grow Tryz.GrowL inf (.slice none 0 0) hi hz (by rw[hsz];decide) none 0 0 (Int.toNat m) [] w (V8 0) (by omega) (by rw[hb,VM];exact g2') (by omega) (by simp) (λ_=>rfl) (λa h=>by cases h);rw[Int.toNat_of_nonneg (by omega)] at h;refine h.mono ?_;rintro e w' ⟨rfl,rfl⟩;have hG:=grownCap_ge w (0+Int.toNat m) 0 28;have hG2:=grownCap_le_maxLen w (0+Int.toNat m) 0 28 (by have e:maxLen=9223372036854775807:=rfl;omega);refine⟨_,_,_,Z,rfl,⟨_,rfl,rfl⟩,rfl,(hs.drawn (w.drawn+1)).alloc _ ⟨λc hc=>by simp at hc,[],⟨rfl,.inr ⟨w.heap.size,_,_,rfl,VO _,heap_alloc_new w.drew _,VO _,hG2,?_,rfl⟩⟩,trivial⟩ rfl⟩;rw[Array.size_append,Array.size_append,size_zeroCells,size_zeroCells];have:(Value.cells (.slice none 0 0)).size=1:=rfl;rw[this];simp only[List.size_toArray,VU];show 0+(0+Int.toNat m-0)*1+(grownCap w (0+Int.toNat m) 0 28-(0+Int.toNat m))*1=grownCap w (0+Int.toNat m) 0 28*1;omega
end Go.Proofs.YtghdglcmblpbeaaGreatDoor.Q
