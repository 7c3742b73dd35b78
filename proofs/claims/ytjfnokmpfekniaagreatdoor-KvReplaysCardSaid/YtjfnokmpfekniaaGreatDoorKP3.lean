/-
  Texts of the proof, put together: QU, QM, QK, PKa, QI, QW, Iter, QKs, WKa, PKb, WKb, PKc, WKc, PH, PFr, QH, QY, QJ, QX, WFr, PKd.
-/
import Derived.Test.YtjfnokmpfekniaaGreatDoorKP2
import Derived.MapKept
import Derived.Maps.RangeRun
import Derived.Sort.KeysCollected
import Derived.Shelf.SlIter.Nil
import Derived.Shelf.SortM.Plain
import Derived.Shelf.SortM.SortNone
import Derived.Test.YtjfnokmpfekniaaGreatDoorProg
import GoSem.Op.IntBits
import GoSem.Op.Shift
import Derived.ScopeJumps
import Derived.Laws.CopyRow
import Derived.Laws.IdiomCopy
import Derived.Laws.OwnMore
namespace Go.Proofs.YtjfnokmpfekniaaGreatDoor.Q
open Go Go.RowKit
set_option linter.unusedVariables false
set_option linter.unusedSimpArgs false
def P4 (ops:List Oper)(N:Nat):Bool:=
 let cl:=NF ops []
 (List.range ops.length).all (λi=>(Ep (ops.getD i default)).all (·<i))&&
 (List.range ops.length).all (λi=>i<N||(List.range i).all (λj=>(cl.getD i 0).testBit j))
section
variable {P : Program} {Q : Exit → Act → World → Prop}
theorem Rd {listed:Array Bool}{len m:Nat}(hs:listed.size=len)(hm:m≤len)(h:∀j,j<len→(listed.getD j true=true↔j<m)):listed.toList.count false=len-m:=by
 have:listed.toList=List.replicate m true++List.replicate (len-m) false:=by
  apply List.ext_getElem
  ·simp[hs];omega
  ·intro j h1 h2;have hj:j<len:=by simpa[hs] using h1
   have:=h j hj;rw[Array.getD_eq_getD_getElem?,Array.getElem?_eq_getElem (by omega)] at this;simp only[AbD] at this;rw[Array.getElem_toList,List.getElem_append]
   split
   ·rename_i h3
    simp at h3;simp[this.2 h3]
   ·rename_i h3
    simp at h3;simp only[List.getElem_replicate]
    cases hb:listed[j] with
    | false=>rfl
    | true=>have:=this.1 hb;omega
 rw[this];simp[List.count_append,List.count_replicate]
theorem SX {listed:Array Bool}{j:Nat}(h:j<listed.size)(d d':Bool):listed.getD j d=listed.getD j d':=by
 simp[Array.getD_eq_getD_getElem?,Array.getElem?_eq_getElem h]
theorem NI {ops:List Oper}{listed:Array Bool}{i:Nat}{o:Oper}(ho:ops[i]? =some o)(hb:∀e∈Ep o,listed.getD e true=true)
  (hcl:∀j o,ops[j]? =some o→listed.getD j true=true→∀e∈Ep o,listed.getD e true=true) (j:Nat) (h:((NF ops []).getD i 0).testBit j=true):j=i∨listed.getD j true=true:=
 HN ops (λk=>k=i∨listed.getD k true=true) ops [] (λt o' ht e he hF=>by
  rcases hF with hF | hF
  ·simp at hF;subst hF;rw[ho] at ht;simp at ht;subst ht;exact .inr (hb e he)
  ·exact .inr (hcl t o' ht (by simpa using hF) e he)) (λj i hb=>by simp at hb) i j h (.inl rfl)
theorem JQ {ops:List Oper}{listed:Array Bool}{i:Nat}(hsz:listed.size=ops.length)(hlt:∀i,i<ops.length→∀e∈Ep (ops.getD i default),e<i)(h:i∈Region.ready .any ops.toArray listed) :
  listed.getD i true=false∧i<ops.length∧∃o,ops[i]? =some o∧∀e∈Ep o,listed.getD e true=true:=by
 obtain⟨h1,o,ho,h2⟩:=mem_ready.1 h;have ho':ops[i]? =some o:=by simpa using ho
 have hil:=(List.getElem?_eq_some_iff.1 ho').1;refine⟨h1,hil,o,ho',λe he=>?_⟩;have hei:=hlt i hil e (by rw[Abu,ho'];exact he);simp only[Ep,List.mem_map,List.mem_filter] at he;obtain⟨x,⟨hx1,hx2⟩,rfl⟩:=he;have h3:=h2 x (by simpa using hx1) hx2;rw[SX (by omega) true false];exact h3
theorem JE {ops:List Oper}{listed:Array Bool}(hsz:listed.size=ops.length)(hlt:∀i,i<ops.length→∀e∈Ep (ops.getD i default),e<i)(h:Region.ready .any ops.toArray listed=[]) :
  ∀j,j<ops.length→listed.getD j true=true:=by
 intro j
 induction j using Nat.strongRecOn with
 | ind j ih=>
  intro hj
  cases hb:listed.getD j true with
  | true=>rfl
  | false=>
   have:j∈Region.ready .any ops.toArray listed:=mem_ready.2 ⟨hb,ops[j],by simp[hj],λe he hbn=>by
    have hel:e.on<j:=hlt j hj e.on (by
     rw[Abu,Abs hj];simp only[Ep,AbD,List.mem_map,List.mem_filter];exact⟨e,⟨by simpa using he,hbn⟩,rfl⟩)
    rw[SX (by omega) false true];exact ih e.on hel (by omega)⟩
   rw[h] at this;cases this
theorem Mv {listed:Array Bool}{i j:Nat}(hi:i<listed.size):(listed.setIfInBounds i true).getD j true=true↔(j=i∨listed.getD j true=true):=by
 by_cases hj:i=j
 ·subst hj;simp[hi]
 ·rw[getD_set_ne true hj];exact⟨.inr,λh=>h.elim (λh=>absurd h.symm hj) id⟩
theorem T5 {listed:Array Bool}{i fuel:Nat}(hi:i<listed.size)(hun:listed.getD i true=false)(hc:listed.toList.count false=fuel+1):(listed.setIfInBounds i true).toList.count false=fuel:=by
 have hfi:listed.toList[i]? =some false:=by
  rw[Array.getD_eq_getD_getElem?,Array.getElem?_eq_getElem hi] at hun;simp at hun;simp[hi,hun]
 rw[Array.toList_setIfInBounds];have h1:=List.count_set (a:=true) (b:=false) (l:=listed.toList) (i:=i) (by simpa using hi);have h2:listed.toList[i]'(by simpa using hi)=false:=by
  have:=List.getElem?_eq_some_iff.1 hfi;exact this.2
 rw[h1,h2,hc];rfl
theorem LH {ops:List Oper}{N:Nat}(hlt:∀i,i<ops.length→∀e∈Ep (ops.getD i default),e<i)
  (hch:∀i,N≤i→i<ops.length→∀j,j<i→((NF ops []).getD i 0).testBit j=true):∀(k m:Nat) (listed:Array Bool) (a:Act) (w:World),m+k=ops.length→N≤m→listed.size=ops.length→
   (∀j,j<ops.length→(listed.getD j true=true↔j<m))→(∀j o,ops[j]? =some o→listed.getD j true=true→∀e∈Ep o,listed.getD e true=true)→wpList P ops.toArray Q (ops.drop m) a w→wpAny P .any ops.toArray Q k listed a w
 | 0,m,listed,a,w,hk,hN,hsz,hl,hcl,h=>by
  refine⟨?_,?_⟩
  ·cases hr:Region.ready .any ops.toArray listed with
   | nil=>rfl
   | cons i r=>
    obtain⟨h1,h2,_⟩:=JQ hsz hlt (i:=i) (by rw[hr];simp);rw[(hl i h2).2 (by omega)] at h1;cases h1
  ·rw[List.drop_of_length_le (by omega)] at h;exact h
 | k+1,m,listed,a,w,hk,hN,hsz,hl,hcl,h=>by
  refine⟨λhr=>?_,λi hi=>?_⟩
  ·have:=(hl m (by omega)).1 (JE hsz hlt hr m (by omega));omega
  ·obtain⟨h1,h2,o,ho,hb⟩:=JQ hsz hlt hi;have him:i=m:=by
    have hmi : ¬ i<m:=λh'=>by rw[(hl i h2).2 h'] at h1;cases h1
    by_cases e:i=m
    ·exact e
    ·rcases NI ho hb hcl m (hch i (by omega) h2 m (by omega)) with h3 | h3
     ·exact h3.symm
     ·have:=(hl m (by omega)).1 h3;omega
   subst him;have hd:ops.drop i=o::ops.drop (i+1):=by
    rw[List.drop_eq_getElem_cons h2]
    congr 1
    exact(List.getElem?_eq_some_iff.1 ho).2
   rw[hd] at h;have ih:∀a' w',wpList P ops.toArray Q (ops.drop (i+1)) a' w'→wpAny P .any ops.toArray Q k (listed.setIfInBounds i true) a' w':=λa' w' h'=>by
    refine LH hlt hch k (i+1) _ a' w' (by omega) (by omega) (by simpa using hsz) (λj hj=>?_) (λj o' hj hlj e he=>?_) h'
    ·rw[Mv (by omega),hl j hj];omega
    ·rw[Mv (by omega)] at hlj ⊢;rcases hlj with rfl | hlj
     ·rw[ho] at hj;simp at hj;subst hj;exact .inr (hb e he)
     ·exact .inr (hcl j o' hj hlj e he)
   unfold wpOp;have hoA:ops.toArray[i]? =some o:=by simpa using ho
   simp only[hoA];simp only[wpList] at h
   split
   ·rename_i hw'
    rw[AbY hw'] at h;exact h.imp (λh=>Oper.wp_mono ih h) (λh=>h)
   ·rename_i hw'
    rw[AbN hw'] at h;exact ih _ _ h
theorem UY {id:Nat}{ops:List Oper}{N:Nat}(hm:P.follows .mixedOrders=true)(hB:P4 ops N=true)(hN:N≤ops.length)(I:(Nat→Bool)→Act→World→Prop)
  (hext:∀S S' a w,(∀j,j<N→S j=S' j)→I S a w→I S' a w) {a:Act} {w:World} (h0:I (λ_=>false) a { w with drawn:=w.drawn+1 })
  (step:∀S i o a w,i<N→S i=false→ops[i]? =some o→(∀e∈Ep o,e<i∧S e=true)→I S a w→∀K:Act→World→Prop,(∀a' w',I (λj=>j ==i||S j) a' w'→K a' w')→
   (Region.wanted o (yielded ops.toArray a.tmps)=true→o.wp P a w K Q)∧(Region.wanted o (yielded ops.toArray a.tmps)=false→K (a.put o.dst undef) w))
  (fin:∀a w,I (λ_=>true) a w→wpList P ops.toArray Q (ops.drop N) a w):(Code.region id ops.toArray true).wp P Q a w:=by
 simp only[P4,Abp,AbE,List.mem_range,Abh,AbQ] at hB;obtain⟨hlt,hch0⟩:=hB;have hch:∀i,N≤i→i<ops.length→∀j,j<i→((NF ops []).getD i 0).testBit j=true:=λi h1 h2 j hj=>by
  rcases hch0 i h2 with h3 | h3
  ·omega
  ·exact h3 j hj
 refine wp_region_any hm ?_;have main:∀(fuel:Nat) (listed:Array Bool) (a:Act) (w:World),listed.size=ops.length→listed.toList.count false=fuel→I (λj=>listed.getD j true) a w→
   (∀j o,ops[j]? =some o→listed.getD j true=true→∀e∈Ep o,listed.getD e true=true)→(∀j,N≤j→j<ops.length→listed.getD j true=false)→wpAny P .any ops.toArray Q fuel listed a w:=by
  intro fuel;have allin:∀(fuel:Nat) (listed:Array Bool) (a:Act) (w:World),listed.size=ops.length→listed.toList.count false=fuel→I (λj=>listed.getD j true) a w→
   (∀j o,ops[j]? =some o→listed.getD j true=true→∀e∈Ep o,listed.getD e true=true)→(∀j,N≤j→j<ops.length→listed.getD j true=false)→(∀j,j<N→listed.getD j true=true)→wpAny P .any ops.toArray Q fuel listed a w:=by
   intro fuel listed a w hsz hc hI hcl hlast hall;have hl:∀j,j<ops.length→(listed.getD j true=true↔j<N):=λj hj=>by
    constructor
    ·intro h
     by_cases hjN:j<N
     ·exact hjN
     ·rw[hlast j (by omega) hj] at h;cases h
    ·exact hall j
   have:=Rd hsz hN hl;refine LH hlt hch fuel N listed a w (by omega) (Ab3 _) hsz hl hcl (fin a w (hext _ _ a w (λj hj=>hall j hj) hI))
  induction fuel with
  | zero=>
   intro listed a w hsz hc hI hcl hlast;refine allin 0 listed a w hsz hc hI hcl hlast (λj hj=>?_)
   cases hb:listed.getD j true with
   | true=>rfl
   | false=>
    have:false∈listed.toList:=by
     rw[Array.getD_eq_getD_getElem?,Array.getElem?_eq_getElem (by omega)] at hb;simp at hb;rw[← hb];simp
    have:=List.count_pos_iff.2 this;omega
  | succ fuel ih=>
   intro listed a w hsz hc hI hcl hlast
   by_cases hall:∀j,j<N→listed.getD j true=true
   ·exact allin (fuel+1) listed a w hsz hc hI hcl hlast hall
   ·refine⟨λhr=>absurd (λj hj=>JE hsz hlt hr j (by omega)) hall,λi hi=>?_⟩;obtain⟨h1,h2,o,ho,hb⟩:=JQ hsz hlt hi;have hiN:i<N:=by
     by_cases h:i<N
     ·exact h
     ·refine absurd (λj hj=>?_) hall;rcases NI ho hb hcl j (hch i (by omega) h2 j (by omega)) with h3 | h3
      ·omega
      ·exact h3
    have K':∀a' w',I (λj=>j ==i||listed.getD j true) a' w'→wpAny P .any ops.toArray Q fuel (listed.setIfInBounds i true) a' w':=λa' w' hI'=>by
     refine ih _ a' w' (by simpa using hsz) (T5 (by omega) h1 hc) (hext _ _ a' w' (λj hj=>?_) hI') (λj o' hj hlj e he=>?_) (λj h3 h4=>?_)
     ·have:=Mv (listed:=listed) (i:=i) (j:=j) (by omega)
      cases hq:(listed.setIfInBounds i true).getD j true with
      | true=>
       rw[hq] at this;rcases this.1 rfl with h | h
       ·simp[h]
       ·simp[h]
      | false=>
       rw[hq] at this;have h5 : ¬ (j=i∨listed.getD j true=true):=λh=>by have:=this.2 h;cases this
       cases hz:listed.getD j true with
       | true=>exact absurd (.inr hz) h5
       | false=>
        have:j≠i:=λh=>h5 (.inl h);simp[this]
     ·rw[Mv (by omega)] at hlj ⊢;rcases hlj with rfl | hlj
      ·rw[ho] at hj;simp at hj;subst hj;exact .inr (hb e he)
      ·exact .inr (hcl j o' hj hlj e he)
     ·rw[getD_set_ne true (by omega)];exact hlast j h3 h4
    obtain⟨k1,k2⟩:=step _ i o a w hiN h1 ho (λe he=>⟨hlt i h2 e (by rw[Abu,ho];exact he),hb e he⟩) hI _ K';unfold wpOp;have hoA:ops.toArray[i]? =some o:=by simpa using ho
    simp only[hoA]
    split
    ·rename_i hw';exact .inl (k1 hw')
    ·rename_i hw';exact k2 (by simpa using hw')
 have e0:∀j,j<ops.length→(Array.replicate ops.length false).getD j true=false:=λj hj=>by simp[hj]
 have hsz0:ops.toArray.size=ops.length:=by simp
 rw[hsz0];refine main ops.length (Array.replicate ops.length false) a _ (by simp) (by simp) (hext _ _ _ _ (λj hj=>(e0 j (by omega)).symm) h0) (λj o hj hl=>?_) (λj _ h2=>e0 j h2);rw[e0 j (List.getElem?_eq_some_iff.1 hj).1] at hl;cases hl
end
structure Sa where
 deps:List Nat
 r:Rp
 al:Option (List Rp×TypeId):=none
 late:Option (Nat×List Rp):=none
 sto:Option Nat:=none
def Gg (sp:List Sa)(i:Nat):Sa:=sp.getD i { deps:=[],r:=rv undef }
def XK (sp:List Sa):List Sp:=sp.map λs=>⟨s.deps,s.r,0⟩
def Lm (β:Nat→Nat)(s:Sa)(i:Nat):Rp:=match s.al with
 | none=>s.r
 | some _=>rv (.pointer (some ⟨β i,0,none⟩))
def L5 (S:Nat→Bool)(late:Option (Nat×List Rp))(cs:List Rp):List Rp:=match late with
 | none=>cs
 | some q=>if S q.1 then q.2 else cs
def Gs (S:Nat→Bool)(β:Nat→Nat):List Sa→Nat→List Ent
 | [],_=>[]
 | s::r,t=>match s.al with
  | some p=>if S t then .blk (β t) (L5 S s.late p.1) p.2::Gs S β r (t+1) else Gs S β r (t+1)
  | none=>Gs S β r (t+1)
def U3 (β:Nat→Nat):List Sa→Nat→List Ent
 | [],_=>[]
 | s::r,t=>match s.al with
  | some p=>.blk (β t) (match s.late with | none=>p.1 | some q=>q.2) p.2::U3 β r (t+1)
  | none=>U3 β r (t+1)
def Md (β:Nat→Nat):List Oper→List Sa→Nat→Fr→Fr
 | o::os,s::sp,i,l=>match o.dst with
  | some d=>(d,Lm β s i)::Md β os sp (i+1) l
  | none=>Md β os sp (i+1) l
 | _,_,_,l=>l
theorem Kd {S S':Nat→Bool}{late:Option (Nat×List Rp)}{cs:List Rp}(h:∀q,late=some q→S q.1=S' q.1):L5 S late cs=L5 S' late cs:=by
 unfold L5
 cases late with
 | none=>rfl
 | some q=>simp only[];rw[h q rfl]
theorem En (S:Nat→Bool)(β:Nat→Nat)(s:Sa)(r:List Sa)(t:Nat):Gs S β (s::r) t=match s.al with
  | some p=>if S t then .blk (β t) (L5 S s.late p.1) p.2::Gs S β r (t+1) else Gs S β r (t+1)
  | none=>Gs S β r (t+1):=rfl
theorem GN {S S':Nat→Bool}{β β':Nat→Nat}:∀(r:List Sa) (t0:Nat),(∀(t:Nat) (s:Sa),r[t]? =some s→s.al≠none→S (t0+t)=S' (t0+t)∧(S (t0+t)=true→β (t0+t)=β' (t0+t)∧∀q,s.late=some q→S q.1=S' q.1))→Gs S β r t0=Gs S' β' r t0
 | [],_,_=>rfl
 | s::r,t0,h=>by
  have ih:=GN r (t0+1) (λt s hs hn=>by
   have:=h (t+1) s (by simpa using hs) hn;rw[show t0+1+t=t0+(t+1) from by omega];exact this)
  unfold Gs;rw[ih]
  cases ha:s.al with
  | none=>rfl
  | some p=>
   obtain⟨h1,h2⟩:=h 0 s rfl (by rw[ha];exact nofun);simp only[Nat.add_zero] at h1 h2;simp only[];rw[← h1]
   split
   ·rename_i hS;rw[(h2 hS).1,Kd (h2 hS).2]
   ·rfl
theorem QZ (β:Nat→Nat):∀(r:List Sa) (t0:Nat),Gs (λ_=>true) β r t0=U3 β r t0
 | [],_=>rfl
 | s::r,t0=>by
  unfold Gs U3;rw[QZ β r (t0+1)]
  cases s.al with
  | none=>rfl
  | some p=>cases hl:s.late<;>simp[L5,hl]
theorem OJ (β:Nat→Nat):∀(r:List Sa) (t0:Nat),Gs (λ_=>false) β r t0=[]
 | [],_=>rfl
 | s::r,t0=>by
  unfold Gs;rw[OJ β r (t0+1)]
  cases s.al<;>simp
theorem QY {S:Nat→Bool}{β:Nat→Nat}{i b:Nat}{p:List Rp×TypeId}:∀(r:List Sa) (t0 k:Nat) (s:Sa),i=t0+k→r[k]? =some s→s.al=some p→S i=false→(∀(t:Nat) (s:Sa) (q:Nat×List Rp),r[t]? =some s→s.al≠none→s.late=some q→q.1≠i)→(∀q,s.late=some q→S q.1=false∧q.1≠i)→
  (Gs (λj=>j ==i||S j) (λj=>if j=i then b else β j) r t0).Perm (.blk b p.1 p.2::Gs S β r t0)
 | [],_,_,_,_,h,_,_,_,_=>by simp at h
 | s'::r,t0,0,s,hi,h,ha,hS,hne,hl=>by
  simp at h hi;subst h;subst hi;have e:=GN (S:=λj=>j ==i||S j) (S':=S) (β:=λj=>if j=i then b else β j) (β':=β) r (i+1) (λt s hs hn=>by
   have:i+1+t≠i:=by omega
   refine⟨by simp[this],λ_=>⟨by simp[this],λq hq=>?_⟩⟩;have:=hne (t+1) s q (by simpa using hs) hn hq;simp[this])
  have ec:L5 (λj=>j ==i||S j) s'.late p.1=p.1:=by
   unfold L5
   cases hq:s'.late with
   | none=>rfl
   | some q=>
    obtain⟨h1,h2⟩:=hl q hq;simp[h1,h2]
  unfold Gs;rw[e,ha];simp only[hS,BEq.rfl,AbT,Ach,ec];simp
 | s'::r,t0,k+1,s,hi,h,ha,hS,hne,hl=>by
  have ih:=QY (S:=S) (β:=β) (i:=i) (b:=b) (p:=p) r (t0+1) k s (by omega) (by simpa using h) ha hS (λt s q hs=>hne (t+1) s q (by simpa using hs)) hl;have hne0:t0≠i:=by omega
  have hne':(t0 ==i)=false:=by simpa using hne0
  unfold Gs
  cases ha':s'.al with
  | none=>exact ih
  | some q=>
   simp only[hne',Ab5,AbN hne0];rw[Kd (S:=λj=>j ==i||S j) (S':=S) (λq hq=>by
    have:=hne 0 s' q rfl (by rw[ha'];exact nofun) hq;simp[this])]
   cases hS':S t0 with
   | true=>simpa using(Abn _ ih).trans (List.Perm.swap _ _ _)
   | false=>simpa using ih
theorem QX {S:Nat→Bool}{β:Nat→Nat}{i j:Nat}{p:List Rp×TypeId}{ncs:List Rp}:∀(r:List Sa) (t0 k:Nat) (s:Sa),j=t0+k→r[k]? =some s→s.al=some p→s.late=some (i,ncs)→S j=true→S i=false→(∀(t:Nat) (s:Sa) (q:Nat×List Rp),r[t]? =some s→s.al≠none→s.late=some q→t0+t≠j→q.1≠i)→(∀(t:Nat) (s:Sa),r[t]? =some s→s.al≠none→t0+t≠i)→
  ∃H',(Gs S β r t0).Perm (.blk (β j) p.1 p.2::H')∧(Gs (λj=>j ==i||S j) β r t0).Perm (.blk (β j) ncs p.2::H')
 | [],_,_,_,_,h,_,_,_,_,_,_=>by simp at h
 | s'::r,t0,0,s,hj,h,ha,hl,hSj,hSi,hne,hni=>by
  simp at h hj;subst h;subst hj;have e:=GN (S:=λx=>x ==i||S x) (S':=S) (β:=β) (β':=β) r (j+1) (λt s hs hn=>by
   have h1:=hni (t+1) s (by simpa using hs) hn;have h1':j+1+t≠i:=by omega
   refine⟨by simp[h1'],λ_=>⟨rfl,λq hq=>?_⟩⟩;have:=hne (t+1) s q (by simpa using hs) hn hq (by omega);simp[this])
  refine⟨Gs S β r (j+1),?_,?_⟩
  ·rw[En];rw[ha];simp[hSj,L5,hl,hSi]
  ·rw[En];rw[ha,e];simp[hSj,L5,hl]
 | s'::r,t0,k+1,s,hj,h,ha,hl,hSj,hSi,hne,hni=>by
  obtain⟨H',h1,h2⟩:=QX (S:=S) (β:=β) (i:=i) (j:=j) (p:=p) (ncs:=ncs) r (t0+1) k s (by omega) (by simpa using h) ha hl hSj hSi (λt s q hs hn hq hx=>hne (t+1) s q (by simpa using hs) hn hq (by omega)) (λt s hs hn=>by
   have:=hni (t+1) s (by simpa using hs) hn;omega)
  cases ha':s'.al with
  | none=>exact⟨H',by rw[En,ha'];exact h1,by rw[En,ha'];exact h2⟩
  | some q=>
   have hi0:=hni 0 s' rfl (by rw[ha'];exact nofun);have hi0':(t0 ==i)=false:=by simpa using hi0
   have ec:L5 (λx=>x ==i||S x) s'.late q.1=L5 S s'.late q.1:=Kd (λq hq=>by
    have:=hne 0 s' q rfl (by rw[ha'];exact nofun) hq (by omega);simp[this])
   cases hS':S t0 with
   | true=>
    refine⟨.blk (β t0) (L5 S s'.late q.1) q.2::H',?_,?_⟩
    ·rw[En];rw[ha'];simpa[hS'] using(Abn _ h1).trans (List.Perm.swap _ _ _)
    ·rw[En];rw[ha'];simp only[hi0',Ab5,hS',Ach,ec];exact(Abn _ h2).trans (List.Perm.swap _ _ _)
   | false=>
    refine⟨H',?_,?_⟩
    ·rw[En];rw[ha'];simpa[hS'] using h1
    ·rw[En];rw[ha'];simp only[hi0',Ab5,hS'];simpa using h2
def okA (n:Nat)(ops:List Oper)(N:Nat)(keys:List Nat)(deps:List (List Nat))(als:List Bool)(lates stos:List (Option Nat)):Bool:=
 P4 ops N&&decide (N≤ops.length)&&
 (List.range N).all (λi=>match Cy ops i with
  | some d=>decide (d<n)&&!keys.contains d&&(List.range N).all (λj=>j ==i||Cy ops j !=some d)
  | none=>true)&&
 (List.range N).all (λi=>(deps.getD i []).all (λj=>decide (j<N)&&(Ep (ops.getD i default)).contains j&&!als.getD j true))&&
 (List.range N).all (λi=>match stos.getD i none with
  | some j=>decide (j<N)&&(Ep (ops.getD i default)).contains j&&als.getD j false&&!als.getD i true
  | none=>true)&&
 (List.range N).all (λj=>match lates.getD j none with
  | some k=>decide (k<N)&&als.getD j false&&stos.getD k none ==some j
  | none=>true)
def ZX (P:Program)(n:Nat)(c:Cx)(opsA:Array Oper)(Q:Exit→Act→World→Prop)(o:Oper)(p:List Rp×TypeId):Prop:=
 ∀H a w Z (K:Act→World→Prop),St c H Z w→(∀b w',St c (.blk b p.1 p.2::H) Z w'→K (a.put o.dst (.pointer (some ⟨b,0,none⟩))) w')→
  Region.wanted o (yielded opsA a.tmps)=true∧o.wp P a w K Q
def ZT (P:Program)(n:Nat)(c:Cx)(opsA:Array Oper)(Q:Exit→Act→World→Prop)(ops:List Oper)(sp:List Sa)(l0:Fr)(H:List Ent)(i:Nat)(o:Oper):Prop:=
 match (Gg sp i).sto with
 | some j=>o.dst=none∧∃d p ncs,Cy ops j=some d∧(Gg sp j).al=some p∧(Gg sp j).late=some (i,ncs)∧
   ∀b H,Ga P n c opsA Q ((d,rv (.pointer (some ⟨b,0,none⟩)))::BV ops (XK sp) (Gg sp i).deps l0) (.blk b p.1 p.2::H) o (rv undef) (.blk b ncs p.2::H)
 | none=>match (Gg sp i).al with
  | none=>∀E,Ga P n c opsA Q (BV ops (XK sp) (Gg sp i).deps l0) (H++E) o (Gg sp i).r (H++E)
  | some p=>ZX P n c opsA Q o p
def Ke (P:Program)(n:Nat)(c:Cx)(opsA:Array Oper)(Q:Exit→Act→World→Prop)(ops:List Oper)(sp:List Sa)(l0:Fr)(H:List Ent):Nat→List Oper→Prop
 | i,o::rest=>ZT P n c opsA Q ops sp l0 H i o∧Ke P n c opsA Q ops sp l0 H (i+1) rest
 | _,[]=>True
section
variable {P : Program} {n : Nat} {c : Cx} {opsA : Array Oper} {Q : Exit → Act → World → Prop} {l l0 : Fr} {H : List Ent} {sp : List Sa}
theorem Ke.at {ops:List Oper}:∀{k:Nat} {rest:List Oper},Ke P n c opsA Q ops sp l0 H k rest→∀(t:Nat) o,rest[t]? =some o→ZT P n c opsA Q ops sp l0 H (k+t) o
 | k,o::rest,⟨h1,h2⟩,t,o',ht=>by
  cases t with
  | zero=>simp at ht;subst ht;exact h1
  | succ t=>
   have:=Ke.at h2 t o' (by simpa using ht);rw[show k+(t+1)=k+1+t from by omega];exact this
 | _,[],_,t,o,h=>by simp at h
theorem P9 {β:Nat→Nat}{a:Act}{Z:Fz}(h0:CK n l0 a Z):∀(os:List Oper) (ss:List Sa) (k:Nat),(∀(t:Nat) o s d,os[t]? =some o→ss[t]? =some s→o.dst=some d→∃v,a.tmps[d]? =some v∧(Lm β s (k+t)).p Z v)→CK n (Md β os ss k l0) a Z
 | [],_,_,_=>by unfold Md;exact h0
 | _::_,[],_,_=>by unfold Md;exact h0
 | o::os,s::ss,k,h=>by
  have ih:=P9 h0 os ss (k+1) (λt o' s' d h1 h2 h3=>by
   have:=h (t+1) o' s' d (by simpa using h1) (by simpa using h2) h3;rw[show k+1+t=k+(t+1) from by omega];exact this)
  unfold Md
  cases hd:o.dst with
  | none=>exact ih
  | some d=>
   refine⟨ih.size,ih.defers,λi r hi=>?_⟩;rw[Cf] at hi
   split at hi
   ·rename_i e;subst e;simp at hi;subst hi;exact h 0 o s d rfl rfl hd
   ·exact ih.tm i r hi
theorem Zb {id:Nat}{ops:List Oper}(N:Nat)(sp:List Sa)(hm:P.follows .mixedOrders=true)(hB:okA n ops N (Ex l0) (sp.map (·.deps)) (sp.map (·.al.isSome)) (sp.map (·.late.map (·.1))) (sp.map (·.sto))=true)(hl0:UJ l0 l)(hsp:sp.length=N)
  (hob:Ke P n c ops.toArray Q ops sp l0 H 0 (ops.take N)) (h:∀β,WL P n c ops.toArray Q (ops.drop N) (Md β (ops.take N) sp 0 l0) (H++U3 β sp 0)):WC P n c (.region id ops.toArray true) Q l H:=by
 intro a w Z ha hw;simp only[okA,Abp,AbE,List.mem_range,Abh] at hB;obtain⟨⟨⟨⟨⟨b1,bN⟩,b2⟩,b3⟩,b4⟩,b5⟩:=hB;have hget:∀i,i<N→(ops.take N)[i]? =ops[i]?:=λi hi=>by rw[AbV,AbY hi]
 have hsa:∀i,i<N→sp[i]? =some (Gg sp i):=λi hi=>by
  simp[Gg,Abu,Abs (show i<sp.length by omega)]
 have hspq:∀i,i<N→(DG (XK sp) i)=⟨(Gg sp i).deps,(Gg sp i).r,0⟩:=λi hi=>by
  simp[DG,XK,Abu,AbO,hsa i hi]
 have hals:∀j b,j<N→(sp.map (·.al.isSome)).getD j b=(Gg sp j).al.isSome:=λj b hj=>by simp[Abu,AbO,hsa j hj]
 have hstos:∀j,j<N→(sp.map (·.sto)).getD j none=(Gg sp j).sto:=λj hj=>by simp[Abu,AbO,hsa j hj]
 have hlates:∀j,j<N→(sp.map (·.late.map (·.1))).getD j none=(Gg sp j).late.map (·.1):=λj hj=>by simp[Abu,AbO,hsa j hj]
 have S1:∀i o j,i<N→ops[i]? =some o→(Gg sp i).sto=some j→j<N∧j∈Ep o∧(Gg sp j).al≠none∧(Gg sp i).al=none:=λi o j hi ho hs=>by
  have h1:=b4 i hi;rw[hstos i hi,hs] at h1;simp only[Abp,Ab0,Abh] at h1;obtain⟨⟨⟨h2,h3⟩,h4⟩,h5⟩:=h1;rw[hals j _ h2] at h4;rw[hals i _ hi] at h5;rw[Abu,ho,AbD,List.contains_iff_mem] at h3;exact⟨h2,h3,λe=>(by rw[e] at h4;cases h4),(by simpa using h5)⟩
 have L1:∀t q,t<N→(Gg sp t).late=some q→q.1<N∧(Gg sp q.1).sto=some t:=λt q ht hq=>by
  have h1:=b5 t ht;rw[hlates t ht,hq] at h1;simp only[Option.map_some,Abp,Abh,beq_iff_eq] at h1;obtain⟨⟨h2,h3⟩,h4⟩:=h1;rw[hstos _ h2] at h4;exact⟨h2,h4⟩
 have hops:∀j,j<N→∃o,ops[j]? =some o:=λj hj=>⟨ops[j]'(by omega),Abs (by omega)⟩
 have lt_of:∀(t:Nat) (s:Sa),sp[t]? =some s→t<N∧s=Gg sp t:=λt s hs=>by
  have h1:t<N:=by have:=(List.getElem?_eq_some_iff.1 hs).1;omega
  refine⟨h1,?_⟩;rw[hsa t h1] at hs;simpa using hs.symm
 have hdst:∀i o d,i<N→ops[i]? =some o→o.dst=some d→(d<n∧d ∉ Ex l0)∧∀j,j<N→j≠i→Cy ops j≠some d:=λi o d hi ho hd=>by
  have h3:=b2 i hi;have:Cy ops i=some d:=by simp[Cy,ho,hd]
  rw[this] at h3;simp only[Abp,Ab0,AbE,List.mem_range,Abh] at h3;refine⟨⟨h3.1.1,λhmem=>by rw[← List.contains_iff_mem] at hmem;rw[hmem] at h3;cases h3.1.2⟩,λj hj hne he=>?_⟩;have:=h3.2 j hj;simp[hne,he] at this
 refine UY (N:=N) hm b1 bN (λS a w=>∃ (β:Nat→Nat) (Z:Fz),St c (H++Gs S β sp 0) Z w∧CK n l0 a Z∧(∀j o d,j<N→S j=true→ops[j]? =some o→o.dst=some d→∃v,a.tmps[d]? =some v∧(Lm β (Gg sp j) j).p Z v)∧
   ∀k j,k<N→(Gg sp k).sto=some j→S k=true→S j=true)
  (λS S' a w hS hI=>?_) ⟨λ_=>0,Z,?_,ha.subL hl0,λj o d _ hS=>(by cases hS),λk j _ _ hS=>(by cases hS)⟩ (λS i o a w hi hun ho hb hI K hK=>?_) (λa w hI=>?_)
 ·obtain⟨β,Z,h1,h2,h3,h4⟩:=hI;refine⟨β,Z,?_,h2,λj o d hj hS'=>h3 j o d hj (by rw[hS j hj];exact hS'),λk j hk hs hSk=>?_⟩
  ·rw[← GN (S:=S) (β:=β) (β':=β) sp 0 (λt s hs _=>by
    obtain⟨ht,rfl⟩:=lt_of t s hs;exact⟨hS _ (by omega),λ_=>⟨rfl,λq hq=>hS _ (L1 t q ht hq).1⟩⟩)]
   exact h1
  ·obtain⟨o,ho⟩:=hops k hk;rw[← hS j (S1 k o j hk ho hs).1];exact h4 k j hk hs (by rw[hS k hk];exact hSk)
 ·rw[OJ,AbK];exact hw.drawn _
 ·obtain⟨β,Z,h1,h2,h3,hx⟩:=hI;have hput:∀k u v,a.tmps[k]? =some u→o.dst≠some k→(a.put o.dst v).tmps[k]? =some u:=λk u v hk hne=>by
   cases hd:o.dst with
   | none=>simpa[Act.put] using hk
   | some d=>
    simp only[Act.put,Array.getElem?_setIfInBounds];rw[AbN (λe=>hne (by rw[hd,e]))];exact hk
  have hagr:∀v Z',Fz.le Z Z'→CK n l0 (a.put o.dst v) Z':=λv Z' hz=>by
   refine⟨?_,?_,λk r hk=>?_⟩
   ·cases o.dst<;>simp[Act.put,h2.size]
   ·cases o.dst<;>simp[Act.put,h2.defers]
   ·obtain⟨u,hu,hpu⟩:=h2.tm k r hk;exact⟨u,hput k u v hu (λe=>((hdst i o k hi ho e).1).2 (KJ hk)),r.mono hz hpu⟩
  have hvals:∀(v:Value) (Z':Fz) (β':Nat→Nat),Fz.le Z Z'→(∀j,j≠i→β' j=β j)→(o.dst≠none→(Lm β' (Gg sp i) i).p Z' v)→∀j o' d,j<N→(j ==i||S j)=true→ops[j]? =some o'→o'.dst=some d→∃u,(a.put o.dst v).tmps[d]? =some u∧(Lm β' (Gg sp j) j).p Z' u:=by
   intro v Z' β' hz hβ hp j o' d hj hS' ho' hd
   by_cases hji:j=i
   ·subst hji;rw[ho] at ho';simp at ho';subst ho';refine⟨v,?_,hp (by simp[hd])⟩;have hdn:d<a.tmps.size:=by rw[h2.size];exact(hdst j o d hi ho hd).1.1
    simp[Act.put,hd,hdn]
   ·have hSj:S j=true:=by simpa[hji] using hS'
    obtain⟨u,hu,hpu⟩:=h3 j o' d hj hSj ho' hd;refine⟨u,hput d u v hu (λe=>(hdst i o d hi ho e).2 j hj hji (by simp[Cy,ho',hd])),?_⟩;have:Lm β' (Gg sp j) j=Lm β (Gg sp j) j:=by unfold Lm;rw[hβ j hji]
    rw[this];exact(Lm β (Gg sp j) j).mono hz hpu
  have hx':∀k j,k<N→(Gg sp k).sto=some j→(k ==i||S k)=true→(j ==i||S j)=true:=λk j hk hs hSk=>by
   by_cases hki:k=i
   ·subst hki;have:=(hb j (S1 k o j hk ho hs).2.1).2;simp[this]
   ·have:S j=true:=hx k j hk hs (by simpa[hki] using hSk);simp[this]
  have hat:=hob.at i o (by rw[hget i hi];exact ho);rw[AbU] at hat;unfold ZT at hat;have hag':CK n (BV ops (XK sp) (Gg sp i).deps l0) a Z:=Ld h2 (λj hj d hd=>by
    have h4:=b3 i hi j (by simpa[Abu,AbO,hsa i hi] using hj);simp only[Abp,Ab0,Abh] at h4;obtain⟨⟨h5,h6⟩,h7⟩:=h4;rw[Abu,ho,AbD,List.contains_iff_mem] at h6;have hjal:(Gg sp j).al=none:=by
     rw[hals j _ h5] at h7;simpa using h7
    obtain⟨o2,ho2⟩:=hops j h5;obtain⟨v,hv1,hv2⟩:=h3 j o2 d h5 (hb j h6).2 ho2 (by simpa[Cy,ho2] using hd);refine⟨v,hv1,?_⟩;rw[hspq j h5];simpa[Lm,hjal] using hv2)
  cases hst:(Gg sp i).sto with
  | some j=>
   rw[hst] at hat;obtain⟨hod,d,p,ncs,hd,hal,hlate,hok⟩:=hat;obtain⟨hjN,hjb,_,hial⟩:=S1 i o j hi ho hst;have hSj:=(hb j hjb).2;obtain⟨H',p1,p2⟩:=QX (S:=S) (β:=β) (i:=i) (j:=j) (p:=p) (ncs:=ncs) sp 0 j (Gg sp j) (by omega) (hsa j hjN) hal hlate hSj hun (λt s q hs _ hq hne he=>by
     obtain⟨ht,rfl⟩:=lt_of t s hs;have:=(L1 t q ht hq).2;rw[he,hst] at this;simp at this;omega) (λt s hs hn he=>by
     obtain⟨ht,rfl⟩:=lt_of t s hs;rw[AbU] at he;subst he;exact hn hial)
   obtain⟨o2,ho2⟩:=hops j hjN;obtain⟨v,hv1,hv2⟩:=h3 j o2 d hjN hSj ho2 (by simpa[Cy,ho2] using hd);have hag2:CK n ((d,rv (.pointer (some ⟨β j,0,none⟩)))::BV ops (XK sp) (Gg sp i).deps l0) a Z:=⟨hag'.size,hag'.defers,λk r hk=>by
    rw[Cf] at hk
    split at hk
    ·rename_i e;subst e;simp at hk;subst hk
     exact⟨v,hv1,by simpa[Lm,hal] using hv2⟩
    ·exact hag'.tm k r hk⟩
   refine hok (β j) (H++H') a w Z K hag2 (h1.perm ((List.Perm.append_left H p1).trans List.perm_middle)) (λv w' Z' hz _ hs'=>hK _ _ ⟨β,Z',?_,hagr v Z' hz,hvals v Z' β hz (λ_ _=>rfl) (λhne=>absurd hod hne),hx'⟩);exact hs'.perm (List.perm_middle.symm.trans (List.Perm.append_left H p2.symm))
  | none=>
   rw[hst] at hat;have latene:∀t q,t<N→(Gg sp t).late=some q→q.1≠i:=λt q ht hq he=>by
    have:=(L1 t q ht hq).2;rw[he,hst] at this;cases this
   cases hal:(Gg sp i).al with
   | none=>
    rw[hal] at hat;refine hat _ a w Z K hag' h1 (λv w' Z' hz hp hst'=>hK _ _ ⟨β,Z',?_,hagr v Z' hz,hvals v Z' β hz (λ_ _=>rfl) (λ_=>by unfold Lm;rw[hal];exact hp),hx'⟩);rw[GN (S':=S) (β':=β) sp 0 (λt s hs hn=>by
     obtain⟨ht,rfl⟩:=lt_of t s hs;have:t≠i:=λe=>by subst e;exact hn hal
     refine⟨by simp[this],λ_=>⟨rfl,λq hq=>?_⟩⟩;have:=latene t q ht hq;simp[this])]
    exact hst'
   | some p=>
    rw[hal] at hat;have key:=λK' hK'=>hat (H++Gs S β sp 0) a w Z K' h1 hK';have h5:∀b w',St c (.blk b p.1 p.2::(H++Gs S β sp 0)) Z w'→K (a.put o.dst (.pointer (some ⟨b,0,none⟩))) w':=λb w' hst'=>by
     refine hK _ _ ⟨λj=>if j=i then b else β j,Z,?_,hagr _ Z (Fz.le.refl _),hvals _ Z _ (Fz.le.refl _) (λj hj=>by simp[hj]) (λ_=>by simp[Lm,hal,rv]),hx'⟩;have hp:=QY (S:=S) (β:=β) (i:=i) (b:=b) (p:=p) sp 0 i (Gg sp i) (by omega) (hsa i hi) hal hun (λt s q hs _ hq=>by
      obtain⟨ht,rfl⟩:=lt_of t s hs;exact latene t q ht hq) (λq hq=>by
       refine⟨?_,latene i q hi hq⟩
       cases hS:S q.1 with
       | false=>rfl
       | true=>
        obtain⟨h6,h7⟩:=L1 i q hi hq;have:=hx q.1 i h6 h7 hS;rw[this] at hun;cases hun)
     exact hst'.perm ((List.perm_middle.symm).trans (List.Perm.append_left H hp.symm))
    refine⟨λ_=>(key K h5).2,λhw'=>?_⟩;rw[(key K h5).1] at hw';cases hw'
 ·obtain⟨β,Z,h1,h2,h3,_⟩:=hI;refine h β a w Z (P9 h2 _ _ 0 (λt o s d ht hs hd=>?_)) (by rw[← QZ];exact h1);obtain⟨htN,rfl⟩:=lt_of t s hs;rw[AbU];exact h3 t o d htN rfl (by rw[← hget t htN];exact ht) hd
end
theorem Aa9 {P:Program}{n:Nat}{c:Cx}{opsA:Array Oper}{Q:Exit→Act→World→Prop}{d:Nat}{e:TypeId}{ty:TypeId}{pos:String}{af:Array Edge}{z:Value}{cs:List Rp}(hz:∀w,(zeroValue e).run P w = .ok z w)(hcs:z.cells.toList.map rv=cs) :
  ZX P n c opsA Q { dst:=some d,op:=.alloc e,type:=ty,pos:=pos,after:=af,guard:=none } (cs,e):=λH a w Z K hw hK=>by
 refine⟨by simp[Region.wanted],?_⟩;unfold Oper.wp;rw[show(execOp a.eval { dst:=some d,op:=.alloc e,type:=ty,pos:=pos,after:=af,guard:=none }).run P w = .ok (.value (.pointer (some ⟨w.heap.size,0,none⟩))) (w.alloc (.cells z.cells e)) from by simp[execOp,Instr.alloc,hz,newVar,newRow,newObj,Sem.run,Sem.run_bind]];exact hK _ _ (hw.alloc _ (e:=.blk w.heap.size cs e) ⟨z.cells.toList,by simpa using heap_alloc_new w _,by subst hcs;exact AZ.rvs Z _⟩ rfl)
section
variable {P : Program} {n : Nat} {c : Cx} {opsA : Array Oper} {Q : Exit → Act → World → Prop} {l l0 : Fr} {H : List Ent} {sp : List Sa}
theorem GX {id:Nat}{ops:List Oper}(N:Nat)(ks0:List Nat)(sp:List Sa)(hob:Ke P n c ops.toArray Q ops sp l0 H 0 (ops.take N))(h:∀β,WL P n c ops.toArray Q (ops.drop N) (Md β (ops.take N) sp 0 l0) (H++U3 β sp 0))
  (h0:Kp ks0 l l0:=by repeat (first | exact NV | (apply Lv;rfl) | (apply Mi;rfl))) (hm:P.follows .mixedOrders=true:=by kernel_rfl) (hB:okA n ops N (Ex l0) (sp.map (·.deps)) (sp.map (·.al.isSome)) (sp.map (·.late.map (·.1))) (sp.map (·.sto))=true:=by kernel_rfl)
  (hsp:sp.length=N:=by rfl):WC P n c (.region id ops.toArray true) Q l H:=Zb N sp hm hB h0.one hsp hob h
theorem Gc {all rest:List Oper}{d:Nat}{op:Op}{ty:TypeId}{pos:String}{af:Array Edge}{i:Nat}
  (hr:∀{H},Bb P n c (BV all (XK sp) (Gg sp i).deps l0) H { dst:=some d,op:=op,type:=ty,pos:=pos,after:=af,guard:=none } (Gg sp i).r) (h:Ke P n c opsA Q all sp l0 H (i+1) rest) (ha:(Gg sp i).al=none:=by rfl) (hs:(Gg sp i).sto=none:=by rfl) :
  Ke P n c opsA Q all sp l0 H i ({ dst:=some d,op:=op,type:=ty,pos:=pos,after:=af,guard:=none }::rest):=by
 refine⟨?_,h⟩;unfold ZT;rw[hs,ha];exact λ_=>VG hr
theorem VL {all rest:List Oper}{d:Nat}{op:Op}{ty:TypeId}{pos:String}{af:Array Edge}{i:Nat}
  (hr:∀{E},Bb P n c (BV all (XK sp) (Gg sp i).deps l0) (H++E) { dst:=some d,op:=op,type:=ty,pos:=pos,after:=af,guard:=none } (Gg sp i).r) (h:Ke P n c opsA Q all sp l0 H (i+1) rest) (ha:(Gg sp i).al=none:=by rfl) (hs:(Gg sp i).sto=none:=by rfl) :
  Ke P n c opsA Q all sp l0 H i ({ dst:=some d,op:=op,type:=ty,pos:=pos,after:=af,guard:=none }::rest):=by
 refine⟨?_,h⟩;unfold ZT;rw[hs,ha];exact λ_=>VG hr
theorem oal {all rest:List Oper}{o:Oper}{p:List Rp×TypeId}{i:Nat}(hr:ZX P n c opsA Q o p)(h:Ke P n c opsA Q all sp l0 H (i+1) rest)(ha:(Gg sp i).al=some p:=by rfl)(hs:(Gg sp i).sto=none:=by rfl):Ke P n c opsA Q all sp l0 H i (o::rest):=by
 refine⟨?_,h⟩;unfold ZT;rw[hs,ha];exact hr
theorem YN {all:List Oper}{i:Nat}:Ke P n c opsA Q all sp l0 H i []:=trivial
end
structure Xz (ks:List Nat) (β:Nat→Nat) (os:List Oper) (sp:List Sa) (i:Nat) (l0 l1:Fr):Prop where
 go:Kp ks (Md β os sp i l0) l1
section
variable {ks : List Nat} {β : Nat → Nat} {os : List Oper} {sp : List Sa} {i d : Nat} {l0 l1 : Fr} {ds : List Nat} {r : Rp} {p : List Rp × TypeId} {lt : Option (Nat × List Rp)} {so : Option Nat} {op : Op} {ty : TypeId} {pos : String} {af : Array Edge} {g : Option (Nat × Bool)}
theorem Aat (h:ks.contains d=true)(t:Xz ks β os sp (i+1) l0 l1):Xz ks β ({ dst:=some d,op:=op,type:=ty,pos:=pos,after:=af,guard:=g }::os) ({ deps:=ds,r:=r,sto:=so }::sp) i l0 ((d,r)::l1):=⟨Lv h t.go⟩
theorem Aaw (h:ks.contains d=true)(t:Xz ks β os sp (i+1) l0 l1):Xz ks β ({ dst:=some d,op:=op,type:=ty,pos:=pos,after:=af,guard:=g }::os) ({ deps:=ds,r:=r,al:=some p,late:=lt,sto:=so }::sp) i l0 ((d,rv (.pointer (some ⟨β i,0,none⟩)))::l1):=⟨Lv h t.go⟩
theorem Aav {s:Sa}(h:ks.contains d=false)(t:Xz ks β os sp (i+1) l0 l1):Xz ks β ({ dst:=some d,op:=op,type:=ty,pos:=pos,after:=af,guard:=g }::os) (s::sp) i l0 l1:=⟨Mi h t.go⟩
theorem Aau {s:Sa}(t:Xz ks β os sp (i+1) l0 l1):Xz ks β ({ dst:=none,op:=op,type:=ty,pos:=pos,after:=af,guard:=g }::os) (s::sp) i l0 l1:=⟨t.go⟩
theorem Aax (t:Kp ks l0 l1):Xz ks β [] [] i l0 l1:=⟨t⟩
theorem HU {P:Program}{n:Nat}{c:Cx}{opsA:Array Oper}{Q:Exit→Act→World→Prop}{rest:List Oper}{H H1:List Ent}(ks:List Nat)(h:WL P n c opsA Q rest l1 H1)
  (hz:Xz ks β os sp i l0 l1:=by repeat (first | (apply Aat;rfl) | (apply Aaw;rfl) | (apply Aav;rfl) | apply Aau | apply Aax | exact NV | (apply Lv;rfl) | (apply Mi;rfl))) (hH:H=H1:=by rfl) :
  WL P n c opsA Q rest (Md β os sp i l0) H:=λa w Z ha hw=>h a w Z (ha.subL hz.go.one) (hH▸hw)
end
section
variable {P : Program} {n : Nat} {c : Cx} {opsA : Array Oper} {Q : Exit → Act → World → Prop} {l l0 : Fr} {H : List Ent} {sp : List Sa}
theorem oac {all rest:List Oper}{o:Oper}{i:Nat}(hr:∀{E},Ga P n c opsA Q (BV all (XK sp) (Gg sp i).deps l0) (H++E) o (Gg sp i).r (H++E))(h:Ke P n c opsA Q all sp l0 H (i+1) rest)(ha:(Gg sp i).al=none:=by rfl)(hs:(Gg sp i).sto=none:=by rfl):Ke P n c opsA Q all sp l0 H i (o::rest):=by
 refine⟨?_,h⟩;unfold ZT;rw[hs,ha];exact λ_=>hr
end
theorem Em (s:ByteArray):MapKept.IsKey .string (.string s):=by simp[MapKept.IsKey]
theorem I2.keys {Z:Fz}:∀{f:List (List UInt8×Rp)} {es:List MapEntry},I2 Z f es→∀x∈es,MapKept.IsKey .string x.key
 | [],[],_,x,hx=>by cases hx
 | p::f,e::es,⟨⟨h1,h2⟩,h3⟩,x,hx=>by
  rcases List.mem_cons.1 hx with rfl | hx
  ·rw[h1];exact Em _
  ·exact I2.keys h3 x hx
theorem I2.at {Z:Fz}:∀{f:List (List UInt8×Rp)} {es:List MapEntry},I2 Z f es→f.length=es.length∧∀(j:Nat) (e:MapEntry),es[j]? =some e→∃k r,f[j]? =some (k,r)∧e.key = .string (B k)∧r.p Z e.val
 | [],[],_=>⟨rfl,λj e h=>by simp at h⟩
 | p::f,e::es,⟨⟨h1,h2⟩,h3⟩=>by
  obtain⟨hl,ha⟩:=I2.at h3;refine⟨by simp[hl],λj e' hj=>?_⟩
  cases j with
  | zero=>simp at hj;subst hj;exact⟨p.1,p.2,rfl,h1,h2⟩
  | succ j=>simp at hj;simpa using ha j e' hj
theorem I2.of {Z:Fz}:∀{f:List (List UInt8×Rp)} {es:List MapEntry},f.length=es.length→(∀(j:Nat) (e:MapEntry),es[j]? =some e→∃k r,f[j]? =some (k,r)∧e.key = .string (B k)∧r.p Z e.val)→I2 Z f es
 | [],[],_,_=>trivial
 | p::f,e::es,hl,h=>by
  obtain⟨k,r,h1,h2,h3⟩:=h 0 e rfl;simp at h1;subst h1;exact⟨⟨h2,h3⟩,I2.of (by simpa using hl) λj e' hj=>by simpa using h (j+1) e' (by simpa using hj)⟩
 | [],_::_,hl,_=>by simp at hl
 | _::_,[],hl,_=>by simp at hl
theorem I2.snoc {Z:Fz}{k:List UInt8}{r:Rp}{e:MapEntry}(h1:e.key = .string (B k))(h2:r.p Z e.val):∀{f:List (List UInt8×Rp)} {es:List MapEntry},I2 Z f es→I2 Z (f++[(k,r)]) (es++[e])
 | [],[],_=>⟨⟨h1,h2⟩,trivial⟩
 | p::f,e'::es,⟨h,h3⟩=>⟨h,I2.snoc h1 h2 h3⟩
theorem I2.filter {Z:Fz}(q:MapEntry→Bool):∀{f:List (List UInt8×Rp)} {es:List MapEntry},I2 Z f es→∃g,I2 Z g (es.filter q)∧g.Sublist f
 | [],[],_=>⟨[],trivial,List.Sublist.refl _⟩
 | p::f,e::es,⟨h,h3⟩=>by
  obtain⟨g,hg,hs⟩:=I2.filter q h3
  cases hq:q e with
  | true=>exact⟨p::g,by rw[List.filter_cons_of_pos hq];exact⟨h,hg⟩,hs.cons_cons p⟩
  | false=>exact⟨g,by rw[List.filter_cons_of_neg (by simp[hq])];exact hg,hs.cons p⟩
theorem Q8 {T:Type}:∀{m:List (Ag×T)} {k:Ag} {r:T},(m.map (·.1)).Nodup→(k,r)∈m→Bl m k=some r
 | p::m,k,r,hn,h=>by
  rw[AbR,List.nodup_cons] at hn;rw[Bl];rcases List.mem_cons.1 h with h | h
  ·subst h;rw[Abm rfl];rfl
  ·have hne : ¬ p.1=k:=λe=>hn.1 (by rw[e];exact List.mem_map.2 ⟨(k,r),h,rfl⟩);rw[Abj hne];exact Q8 hn.2 h
theorem O3 {T:Type}:∀{m:List (Ag×T)} {k:Ag},(∀p∈m,p.1≠k)→Bl m k=none
 | [],_,_=>rfl
 | p::m,k,h=>by
  rw[Bl,Abj (h p (by simp))];exact O3 λq hq=>h q (by simp[hq])
theorem AaE {a b:List UInt8}(h:B a=B b):a=b:=by
 have:=congrArg ByteArray.toList h
 rwa [E0,E0] at this
theorem MR {a b:List UInt8}(h:Value.string (B a) = .string (B b)):a=b:=AaE (by cases h;rfl)
theorem P1 {Z:Fz}{m:List (List UInt8×Rp)}{es:List MapEntry}{ck:Nat}(h:Ez Z m es ck)(k:List UInt8) :
  (Instr.findNow .string (.string (B k)) es 0=some none∧Bl m k=none∧∀p∈m,p.1≠k)∨∃j e r,Instr.findNow .string (.string (B k)) es 0=some (some (j,e.val))∧es[j]? =some e∧e.key = .string (B k)∧Bl m k=some r∧r.p Z e.val:=by
 obtain⟨h1,h2,h3,f,h4,h5⟩:=h;obtain⟨hl,ha⟩:=h5.at;rcases MapKept.findNow_spec (Em (B k)) es 0 h5.keys with⟨q1,q2⟩ | ⟨j,e,q1,q2,q3⟩
 ·have hne:∀p∈m,p.1≠k:=λp hp e=>by
   obtain⟨j,hj⟩:=List.mem_iff_getElem?.1 (h4.symm.subset hp);have hjl:j<es.length:=by rw[← hl];exact(List.getElem?_eq_some_iff.1 hj).1
   obtain⟨k',r',e1,e2,_⟩:=ha j es[j] (Abs hjl);rw[hj] at e1;cases e1;exact q2 es[j] (List.getElem_mem hjl) (by rw[e2,← e])
  exact .inl ⟨q1,O3 hne,hne⟩
 ·obtain⟨k',r,e1,e2,e3⟩:=ha j e q2;rw[q3] at e2;obtain rfl:=MR e2;exact .inr ⟨j,e,r,by simpa using q1,q2,q3,Q8 h1 (h4.subset (Abv e1)),e3⟩
section
variable {P : Program} {n : Nat} {c : Cx} {ops : Array Oper} {Q : Exit → Act → World → Prop} {rest : List Oper} {l : Fr} {H : List Ent} {d : Nat} {d' : Option Nat} {ty t kt et rty : TypeId} {pos : String} {af : Array Edge} {g : Option (Nat × Bool)} {x y u : Operand} {K : Act → World → Prop} {cx : Code}
variable {T : Type} {enc : T → Rp} {xs : List (Ag × T)} {z : T} {k : Ag} {zv : Value} {i b : Nat}
theorem J9 {Z:Fz}{w:World}{m:List (List UInt8×Rp)}{rz:Rp}(ht:P.underlying t=some (.map kt et))(hk:P.underlying kt=some .string)(hz:∀w,(zeroValue et).run P w = .ok zv w)(hzr:rz.p Z zv)(hm:(Ent.map b m).holds Z w)(ok:Bool) :
  ∃v,((Bl m k).getD rz).p Z v∧(Instr.lookup t (.map (some b)) (.string (B k)) ok).run P w = .ok (if ok then .tuple #[v,.bool (Bl m k).isSome] else v) w:=by
 obtain⟨es,ck,h1,h2⟩:=hm;rcases P1 h2 k with⟨q1,q2,_⟩ | ⟨j,e,r,q1,_,_,q2,q3⟩
 ·exact⟨zv,by rw[q2];exact hzr,by simp[Instr.lookup,run_underlying ht,MapKept.run_getObj_map h1,MapKept.run_checkKey hk (Em _),MapKept.run_findKey hk q1,hz,q2]⟩
 ·exact⟨e.val,by rw[q2];exact q3,by simp[Instr.lookup,run_underlying ht,MapKept.run_getObj_map h1,MapKept.run_checkKey hk (Em _),MapKept.run_findKey hk q1,q2]⟩
theorem QQ (enc:T→Rp)(xs:List (Ag×T))(k:Ag)(z:T):(Bl (AH enc xs) k).getD (enc z)=enc (Cn xs k z):=by
 rw[KH];unfold Cn;cases Bl xs k<;>rfl
theorem RZ (enc:T→Rp)(xs:List (Ag×T))(k:Ag):(Bl (AH enc xs) k).isSome=Ce xs k:=by
 rw[KH];unfold Ce;cases Bl xs k<;>rfl
theorem SH (ht:P.underlying t=some (.map kt et))(hk:P.underlying kt=some .string)(hz:∀w,(zeroValue et).run P w = .ok zv w)(hzr:∀Z,(enc z).p Z zv)(hx:ev l x=some (rv (.map (some b))))(hi:H[i]? =some (.map b (AH enc xs)))(hy:ev l y=some (rS k)) :
  Bb P n c l H { dst:=d',op:=.lookup t x y true,type:=ty,pos:=pos,after:=af,guard:=g } (C2 [enc (Cn xs k z),rB (Ce xs k)]):=λa w Z ha hw=>by
 obtain⟨v,h1,h2⟩:=J9 (k:=k) ht hk hz (hzr Z) (hw.ent hi) true;rw[QQ] at h1;refine⟨.tuple #[v,.bool (Ce xs k)],⟨[v,.bool (Ce xs k)],rfl,h1,rfl,trivial⟩,?_⟩;rw[RZ] at h2;simp[execOp,ha.eval hx,ha.eval hy,h2]
theorem VR (ht:P.underlying t=some (.map kt et))(hk:P.underlying kt=some .string)(hz:∀w,(zeroValue et).run P w = .ok zv w)(hzr:∀Z,(enc z).p Z zv)(hx:ev l x=some (rv (.map (some b))))(hi:H[i]? =some (.map b (AH enc xs)))(hy:ev l y=some (rS k)) :
  Bb P n c l H { dst:=d',op:=.lookup t x y false,type:=ty,pos:=pos,after:=af,guard:=g } (enc (Cn xs k z)):=λa w Z ha hw=>by
 obtain⟨v,h1,h2⟩:=J9 (k:=k) ht hk hz (hzr Z) (hw.ent hi) false;rw[QQ] at h1;simp only[AbL,Acc] at h2;exact⟨v,h1,by simp[execOp,ha.eval hx,ha.eval hy,h2]⟩
theorem Ez.length {Z:Fz}{m:List (List UInt8×Rp)}{es:List MapEntry}{ck:Nat}(h:Ez Z m es ck):es.length=m.length:=by
 obtain⟨_,_,_,f,h4,h5⟩:=h;rw[← h5.at.1,h4.length_eq]
theorem VQ {m:List (List UInt8×Rp)}{N:Nat}(ht:P.underlying t=some (.map kt et))(hx:ev l x=some (rv (.map (some b))))(hi:H[i]? =some (.map b m))(hN:m.length=N) :
  Bb P n c l H { dst:=d',op:=.call { callee:=.builtin .len,args:=#[x],argTypes:=#[t] },type:=ty,pos:=pos,after:=af,guard:=g } (rI .i64 N):=λa w Z ha hw=>C9<|by
 obtain⟨es,ck,h1,h2⟩:=hw.ent hi;have hl:es.size=N:=by rw[← hN,← h2.length];simp
 simp[execOp,resolve,invoke,builtin,ha.eval hx,Builtin.len_,run_underlying ht,goInt,MapKept.run_getObj_map h1,hl]
theorem TQ {v:Option Nat}(ht:P.underlying t=some (.map kt et))(hx:ev l x=some (rv (.map v))):Bb P n c l H { dst:=d',op:=.binOp .neq t x (.const (.map none)) rty,type:=ty,pos:=pos,after:=af,guard:=g } (rB (!v.isNone)):=λa w Z ha hw=>C9<|by
 have e2:a.eval (.const (.map none)) = .map none:=rfl;have h:=run_equal_map_nil (P:=P) w t kt et v ht;simp[execOp,ha.eval hx,e2,eqGuard,binOp,h]
theorem Of (hn:Nat.blt d n=true)(h:∀b,WL P n c ops Q rest ((d,rv (.map (some b)))::l) (.map b []::H)) :
  WL P n c ops Q ({ dst:=some d,op:=.makeMap t none,type:=ty,pos:=pos,after:=af,guard:=none }::rest) l H:=
 J0 (λa w Z ha hw=>⟨_,w.alloc (.map #[] 0),_,_,Z,by simp[execOp,run_makeMap],Fz.le.refl _,rfl,
  hw.alloc _ (e:=.map w.heap.size []) ⟨#[],0,by simpa using heap_alloc_new w _,by simp,by simp,by simp,[],Abo _,trivial⟩ rfl,h w.heap.size⟩) hn
theorem VB {m f:List (Ag×Rp)}(h:f.Perm m)(k:Ag)(r:Rp):(mput f k r).Perm (mput m k r):=h.map _
theorem SL {T:Type}:∀{f:List (Ag×T)} {j:Nat} {k:Ag} {r0:T} (r:T),(f.map (·.1)).Nodup→f[j]? =some (k,r0)→mput f k r=f.set j (k,r)
 | p::f,0,k,r0,r,hn,h=>by
  simp at h;subst h;rw[AbR,List.nodup_cons] at hn;have:mput f k r=f:=by
   unfold mput;rw[List.map_congr_left (g:=id) (λq hq=>?_),List.map_id];have hne : ¬ q.1=k:=λe=>hn.1 (by rw[← e];exact List.mem_map.2 ⟨q,hq,rfl⟩);rw[Abj hne];rfl
  show(bif decide (k=k) then(k,r) else(k,r0))::mput f k r=_;rw[Abm rfl,this];rfl
 | p::f,j+1,k,r0,r,hn,h=>by
  rw[AbR,List.nodup_cons] at hn;simp at h;have hne : ¬ p.1=k:=λe=>hn.1 (by rw[e];exact List.mem_map.2 ⟨(k,r0),Abv h,rfl⟩);show(bif decide (p.1=k) then(k,r) else p)::mput f k r=_;rw[Abj hne,SL r hn.2 h];rfl
theorem SM {T:Type}:∀{f:List (Ag×T)} {j:Nat} {k:Ag} {r0:T},(f.map (·.1)).Nodup→f[j]? =some (k,r0)→mdel f k=f.eraseIdx j
 | p::f,0,k,r0,hn,h=>by
  simp at h;subst h;rw[AbR,List.nodup_cons] at hn;have:f.filter (λq=>!decide (q.1=k))=f:=List.filter_eq_self.2 λq hq=>by
   have hne : ¬ q.1=k:=λe=>hn.1 (by rw[← e];exact List.mem_map.2 ⟨q,hq,rfl⟩);simp[hne]
  unfold mdel;rw[List.filter_cons_of_neg (by simp),this];rfl
 | p::f,j+1,k,r0,hn,h=>by
  rw[AbR,List.nodup_cons] at hn;simp at h;have hne : ¬ p.1=k:=λe=>hn.1 (by rw[e];exact List.mem_map.2 ⟨(k,r0),Abv h,rfl⟩);unfold mdel;rw[List.filter_cons_of_pos (by simp[hne])];show p::mdel f k=_;rw[SM hn.2 h];rfl
theorem TV {T:Type}(m:List (Ag×T))(k:Ag)(r:T):(mput m k r).map (·.1)=m.map (·.1):=by
 unfold mput;rw[Ace];refine List.map_congr_left λp _=>?_;simp only[Function.comp]
 by_cases h:p.1=k
 ·rw[Abm h];exact h.symm
 ·rw[Abj h];rfl
theorem TW {T:Type}{m:List (Ag×T)}{k:Ag}{r:T}(h:Bl m k=some r):Ce m k=true:=by unfold Ce;rw[h];rfl
theorem TX {T:Type}{m:List (Ag×T)}{k:Ag}(h:Bl m k=none):Ce m k=false:=by unfold Ce;rw[h];rfl
theorem Ez.put {Z:Fz}{m:List (Ag×Rp)}{es:List MapEntry}{ck j:Nat}{e:MapEntry}{k:Ag}{r0 r:Rp}{v:Value}(h:Ez Z m es ck)(he:es[j]? =some e)(hk:e.key = .string (B k))(hm:Bl m k=some r0)(hr:r.p Z v) :
  Ez Z (mset m k r) (es.set j { e with key:=.string (B k),val:=v }) ck:=by
 obtain⟨h1,h2,h3,f,h4,h5⟩:=h;obtain⟨hl,ha⟩:=h5.at;have hjl:=(List.getElem?_eq_some_iff.1 he).1;unfold mset;rw[TW hm,Abr];obtain⟨k',r',e1,e2,_⟩:=ha j e he;rw[hk] at e2;obtain rfl:=MR e2;have hfn:(f.map (·.1)).Nodup:=(h4.map (·.1)).nodup_iff.2 h1;refine⟨by rw[TV];exact h1,?_,?_,f.set j (k,r),?_,I2.of (by simp[hl]) λi x hx=>?_⟩
 ·rw[List.map_set];have:(es.map (·.born)).set j e.born=es.map (·.born):=by
   apply List.ext_getElem?;intro i;rw[List.getElem?_set]
   split
   ·rename_i hij;subst hij
    simp[hjl,List.getElem?_eq_some_iff.1 he |>.2]
   ·rfl
  show((es.map (·.born)).set j e.born).Nodup;rw[this];exact h2
 ·intro x hx;rcases List.mem_or_eq_of_mem_set hx with hx | rfl
  ·exact h3 x hx
  ·exact h3 e (Abv he)
 ·have:=VB h4 k r
  rwa [SL r hfn e1] at this
 ·rw[List.getElem?_set] at hx ⊢
  split at hx
  ·rename_i hij;subst hij
   cases hx
   exact⟨k,r,by rw[AbY rfl,AbY (by rw[hl];exact hjl)],rfl,hr⟩
  ·rename_i hij
   rw[AbN hij];exact ha i x hx
theorem Ez.ins {Z:Fz}{m:List (Ag×Rp)}{es:List MapEntry}{ck:Nat}{k:Ag}{r:Rp}{v:Value}(h:Ez Z m es ck)(hm:Bl m k=none)(hk:∀p∈m,p.1≠k)(hr:r.p Z v) :
  Ez Z (mset m k r) (es++[{ key:=.string (B k),val:=v,born:=ck }]) (ck+1):=by
 obtain⟨h1,h2,h3,f,h4,h5⟩:=h;unfold mset;rw[TX hm,Abk];have hp:=Ls k r m;refine⟨?_,?_,?_,f++[(k,r)],?_,I2.snoc rfl hr h5⟩
 ·rw[(hp.map (·.1)).nodup_iff,AbR,List.nodup_cons];exact⟨λhx=>by obtain⟨p,hp,e⟩:=List.mem_map.1 hx;exact hk p hp e,h1⟩
 ·rw[Ack,List.nodup_append];refine⟨h2,by simp,λa ha b hb e=>?_⟩;simp at hb;subst hb;obtain⟨x,hx,e'⟩:=List.mem_map.1 ha;have:=h3 x hx;omega
 ·intro x hx;rcases List.mem_append.1 hx with hx | hx
  ·have:=h3 x hx;omega
  ·simp at hx;subst hx;exact Ab1 _
 ·exact(List.perm_append_comm (l₁:=f) (l₂:=[(k,r)])).trans ((h4.cons (k,r)).trans hp.symm)
theorem Ez.del {Z:Fz}{m:List (Ag×Rp)}{es:List MapEntry}{ck j:Nat}{e:MapEntry}{k:Ag}(h:Ez Z m es ck)(he:es[j]? =some e)(hk:e.key = .string (B k)):Ez Z (mdel m k) (es.eraseIdx j) ck:=by
 obtain⟨h1,h2,h3,f,h4,h5⟩:=h;obtain⟨hl,ha⟩:=h5.at;obtain⟨k',r',e1,e2,_⟩:=ha j e he;rw[hk] at e2;obtain rfl:=MR e2;have hfn:(f.map (·.1)).Nodup:=(h4.map (·.1)).nodup_iff.2 h1;have hs:=List.eraseIdx_sublist es j;refine⟨h1.sublist ((List.filter_sublist ..).map _),h2.sublist (hs.map _),λx hx=>h3 x (hs.subset hx),f.eraseIdx j,?_,I2.of (by rw[List.length_eraseIdx,List.length_eraseIdx,hl]) λi x hx=>?_⟩
 ·rw[← SM hfn e1];exact h4.filter _
 ·rw[List.getElem?_eraseIdx] at hx ⊢
  split at hx
  ·rename_i hij;rw[AbY hij];exact ha i x hx
  ·rename_i hij;rw[AbN hij];exact ha (i+1) x hx
theorem Ud {m:List (Ag×Rp)}{k:Ag}(hk:∀p∈m,p.1≠k):mdel m k=m:=List.filter_eq_self.2 λp hp=>by simp[hk p hp]
theorem St.mapset {Z:Fz}{w:World}(h:St c H Z w){m m':List (Ag×Rp)}(hi:H[i]? =some (.map b m)){es es':Array MapEntry}{ck ck':Nat}(h1:w.heap[b]? =some (.map es ck))(h2:Ez Z m' es'.toList ck') :
  St c (H.set i (.map b m')) Z { w with heap:=w.heap.setIfInBounds b (.map es' ck') }:=by
 obtain⟨q1,q2⟩:=MapKept.heap_set (o':=.map es' ck') h1;exact h.set hi rfl rfl rfl (by simp) (λk _ hk=>q2 k (by simpa[Ent.foot] using hk)) ⟨es',ck',q1,h2⟩ (by simp[Ent.foot])
theorem Pb (s:ByteArray):Instr.sameBits 10000 (.string s) (.string s)=true:=by
 show(s ==s)=true;exact(MapKept.bytes_beq s s).2 rfl |> λh=>by simpa using h
theorem Ze {r:Rp}{m:List (Ag×Rp)}(ht:P.underlying t=some (.map kt et))(hk:P.underlying kt=some .string)(hx:ev l x=some (rv (.map (some b))))(hi:H[i]? =some (.map b m))(hy:ev l y=some (rS k))(hu:ev l u=some r){H':List Ent}(hH:H.set i (.map b (mset m k r))=H')(h:WL P n c ops Q rest l H') :
  WL P n c ops Q ({ dst:=none,op:=.mapUpdate t x y u,type:=ty,pos:=pos,after:=af,guard:=none }::rest) l H:=
 PN λa w Z ha hw=>by
  obtain⟨es,ck,h1,h2⟩:=hw.ent hi;have hv:=ha.ev hu;subst hH;rcases P1 h2 k with⟨q1,q2,q3⟩ | ⟨j,e,r0,q1,q2,q3,q4,_⟩
  ·refine⟨_,_,?_,hw.mapset hi h1 (es':=es.push { key:=.string (B k),val:=a.eval u,born:=ck }) (by simpa using h2.ins q2 q3 hv),h⟩;simp[execOp,ha.eval hx,ha.eval hy,Instr.mapUpdate,run_underlying ht,MapKept.run_getObj_map h1,MapKept.run_checkKey hk (Em _),MapKept.run_findKey hk q1,MapKept.run_setObj_map _ h1]
  ·have hje:es[j]? =some e:=by simpa using q2
   refine⟨_,_,?_,hw.mapset hi h1 (es':=es.modify j λe=>{ e with key:=.string (B k),val:=a.eval u }) (ck':=ck) (by
    have:=h2.put q2 q3 q4 hv;have e1:(es.modify j λe=>{ e with key:=.string (B k),val:=a.eval u }).toList=es.toList.set j { e with key:=.string (B k),val:=a.eval u }:=by
     rw[Array.toList_modify];rw[List.modify_eq_set,q2];rfl
    rw[e1];exact this),h⟩
   have hkey:((es[j]?).map (·.key)).getD (.string (B k)) = .string (B k):=by rw[hje];exact q3
   simp[execOp,ha.eval hx,ha.eval hy,Instr.mapUpdate,run_underlying ht,MapKept.run_getObj_map h1,MapKept.run_checkKey hk (Em _),MapKept.run_findKey hk q1,MapKept.run_setObj_map _ h1,hkey,Instr.keyThatStays,Pb]
theorem YI {op:Op}{ty:TypeId}{pos:String}{af:Array Edge}
  (hr:∀a w Z,CK n l a Z→St c H Z w→∃v w' H',(execOp a.eval { dst:=none,op:=op,type:=ty,pos:=pos,after:=af,guard:=none }).run P w = .ok (.value v) w'∧St c H' Z w'∧WL P n c ops Q rest l H') :
  WL P n c ops Q ({ dst:=none,op:=op,type:=ty,pos:=pos,after:=af,guard:=none }::rest) l H:=λa w Z ha hw=>
 wpList_plain rfl λK hK=>by
  obtain⟨v,w',H',h1,h2,h3⟩:=hr a w Z ha hw;unfold Oper.wp;rw[h1];exact hK _ _ (h3 _ w' Z (ha.put_none _) h2)
theorem Zf {m:List (Ag×Rp)}(ht:P.underlying t=some (.map kt et))(hk:P.underlying kt=some .string){kt':TypeId}(hx:ev l x=some (rv (.map (some b))))(hi:H[i]? =some (.map b m))(hy:ev l y=some (rS k)){H':List Ent}(hH:H.set i (.map b (mdel m k))=H')(h:WL P n c ops Q rest l H') :
  WL P n c ops Q ({ dst:=none,op:=.call { callee:=.builtin .delete,args:=#[x,y],argTypes:=#[t,kt'] },type:=ty,pos:=pos,after:=af,guard:=none }::rest) l H:=
 YI (λa w Z ha hw=>by
  obtain⟨es,ck,h1,h2⟩:=hw.ent hi;subst hH;rcases P1 h2 k with⟨q1,q2,q3⟩ | ⟨j,e,r0,q1,q2,q3,q4,_⟩
  ·refine⟨.tuple #[],_,_,?_,hw.mapset hi h1 (es':=es) (ck':=ck) (by rw[Ud q3];exact h2),h⟩;simp[execOp,resolve,invoke,builtin,ha.eval hx,ha.eval hy,Builtin.delete_,run_underlying ht,MapKept.run_getObj_map h1,MapKept.run_checkKey hk (Em _),MapKept.run_findKey hk q1,MapKept.run_setObj_map _ h1]
  ·refine⟨.tuple #[],_,_,?_,hw.mapset hi h1 (es':=es.eraseIdxIfInBounds j) (ck':=ck) (by
    have e1:(es.eraseIdxIfInBounds j).toList=es.toList.eraseIdx j:=by simp
    rw[e1];exact h2.del q2 q3),h⟩
   simp[execOp,resolve,invoke,builtin,ha.eval hx,ha.eval hy,Builtin.delete_,run_underlying ht,MapKept.run_getObj_map h1,MapKept.run_checkKey hk (Em _),MapKept.run_findKey hk q1,MapKept.run_setObj_map _ h1])
theorem Vi {m:List (Ag×Rp)}(ht:P.underlying t=some (.map kt et))(hx:ev l x=some (rv (.map (some b))))(hi:H[i]? =some (.map b m)){H':List Ent}(hH:H.set i (.map b [])=H')(h:WL P n c ops Q rest l H') :
  WL P n c ops Q ({ dst:=none,op:=.call { callee:=.builtin .clear,args:=#[x],argTypes:=#[t] },type:=ty,pos:=pos,after:=af,guard:=none }::rest) l H:=
 YI (λa w Z ha hw=>by
  obtain⟨es,ck,h1,h2⟩:=hw.ent hi;subst hH;refine⟨.tuple #[],_,_,?_,hw.mapset hi h1 (es':=#[]) (ck':=ck) ⟨by simp,by simp,by simp,[],Abo _,trivial⟩,h⟩;simp[execOp,resolve,invoke,builtin,ha.eval hx,Builtin.clear_,run_underlying ht,MapKept.run_getObj_map h1,MapKept.run_setObj_map _ h1])
theorem Mt {v:T}(ht:P.underlying t=some (.map kt et))(hk:P.underlying kt=some .string)(hx:ev l x=some (rv (.map (some b))))(hi:H[i]? =some (.map b (AH enc xs)))(hy:ev l y=some (rS k))(hu:ev l u=some (enc v)){H':List Ent}(hH:H.set i (.map b (AH enc (mset xs k v)))=H')(h:WL P n c ops Q rest l H') :
  WL P n c ops Q ({ dst:=none,op:=.mapUpdate t x y u,type:=ty,pos:=pos,after:=af,guard:=none }::rest) l H:=Ze ht hk hx hi hy hu (by rw[← VX];exact hH) h
theorem XG (ht:P.underlying t=some (.map kt et))(hk:P.underlying kt=some .string){kt':TypeId}(hx:ev l x=some (rv (.map (some b))))(hi:H[i]? =some (.map b (AH enc xs)))(hy:ev l y=some (rS k)){H':List Ent}(hH:H.set i (.map b (AH enc (mdel xs k)))=H')(h:WL P n c ops Q rest l H') :
  WL P n c ops Q ({ dst:=none,op:=.call { callee:=.builtin .delete,args:=#[x,y],argTypes:=#[t,kt'] },type:=ty,pos:=pos,after:=af,guard:=none }::rest) l H:=Zf ht hk hx hi hy (by rw[← Wa];exact hH) h
end
end Go.Proofs.YtjfnokmpfekniaaGreatDoor.Q
namespace Go.Proofs.YtjfnokmpfekniaaGreatDoor
open Go
def Nr {T:Type}(xs:List (Ag×T)):Bool:=decide (xs.length*16≤140737488355328)&&xs.all λp=>YM p.1
def C6 {T:Type}(xs:List (Ag×T)):List Ag:=(xs.map (·.1)).mergeSort λx y=>decide (x≤y)
end Go.Proofs.YtjfnokmpfekniaaGreatDoor
namespace Go.Proofs.YtjfnokmpfekniaaGreatDoor.Q
open Go Go.RowKit Go.ChangeMaps
set_option linter.unusedVariables false
set_option linter.unusedSimpArgs false
def RU:Value→Option (DataW Unit×List MemPlace):=λ_=>some (.nil,[])
theorem Zj {P:Program}{k:TypeId}(hkt:P.underlying k=some .string){e:MapEntry}{s:Ag}(he:e.key = .string (B s))(hs:s.length≤maxLen):WideElems.rd P k RU e=some (.string s,.nil):=by
 obtain⟨key,val,born⟩:=e;simp only at he;subst he;exact WideElems.rd_mk (yv:=(.nil,[])) (by simp[keyOf,hkt,mapKey,B];exact hs) rfl
theorem I2.rgs {P:Program}{k:TypeId}(hkt:P.underlying k=some .string){Z:Fz}:∀{f:List (Ag×Rp)} {es:List MapEntry},I2 Z f es→(∀p∈f,p.1.length≤maxLen)→es.map (WideElems.rg P k RU)=f.map (λp=>(Lit.string p.1,(.nil:DataW Unit)))∧(∀x∈es,∃y,WideElems.rd P k RU x=some y)∧es.map (·.key)=f.map λp=>Value.string (B p.1)
 | [],[],_,_=>⟨rfl,(λ_ h=>by cases h),rfl⟩
 | p::f,e::es,⟨⟨h1,_⟩,h2⟩,hk=>by
  obtain⟨a1,a2,a3⟩:=I2.rgs hkt h2 λq hq=>hk q (List.mem_cons_of_mem _ hq);have hr:=Zj hkt h1 (hk p (List.mem_cons_self ..));refine⟨?_,λx hx=>?_,?_⟩
  ·rw[AbR,AbR,a1,WideElems.rg_of hr]
  ·rcases List.mem_cons.1 hx with rfl | hx
   ·exact⟨_,hr⟩
   ·exact a2 x hx
  ·rw[AbR,AbR,a3,h1]
theorem XR {P:Program}{k:TypeId}(hkt:P.underlying k=some .string){w:World}{Z:Fz}{b:Nat}{m:List (Ag×Rp)}{es:Array MapEntry}{ck:Nat}(hb:w.heap[b]? =some (.map es ck))(hm:Ez Z m es.toList ck)(hk:∀p∈m,p.1.length≤maxLen)(hsz:m.length≤maxLen) :
  ∃D0:DataW Unit,w.ownsMap P k RU b es.size D0∧(strKeys D0).Perm (m.map (·.1))∧Maps.size D0=m.length:=by
 obtain⟨h1,h2,h3,f,h4,h5⟩:=hm;obtain⟨a1,a2,a3⟩:=I2.rgs hkt h5 λp hp=>hk p (h4.subset hp);have hlen:es.size=m.length:=by
  have e:=congrArg List.length a3;simp only[Abx,Array.length_toList] at e;rw[e];exact h4.length_eq
 have hkey:es.toList.Pairwise (λx y=>x.key≠y.key):=by
  have e:(es.toList.map (·.key)).Nodup:=by
   rw[a3];have hf:(f.map (·.1)).Nodup:=(h4.map _).nodup_iff.2 h1;have:f.map (λp=>Value.string (B p.1))=(f.map (·.1)).map λs=>Value.string (B s):=by rw[Ace];rfl
   rw[this];refine List.Pairwise.map _ (λx y hxy e=>hxy ?_) hf;simp[B] at e;exact e
  exact List.pairwise_map.1 e
 refine⟨.map ((es.toList.map (WideElems.rg P k RU)).foldr DataW.insert []),⟨es,ck,hb,⟨by rw[hlen];exact hsz,(MapKept.stamped_iff es ck).2 ⟨h3,h2,hkey⟩,a2⟩,Ab3 _,rfl⟩,?_,?_⟩
 ·show(((es.toList.map (WideElems.rg P k RU)).foldr DataW.insert []).map λp=>strOf p.1).Perm _;rw[a1];refine((WideShapes.sorted_perm _).map _).trans ?_;rw[Ace];exact h4.map _
 ·show((es.toList.map (WideElems.rg P k RU)).foldr DataW.insert []).length=_;rw[length_sorted,Abx,Array.length_toList,hlen]
theorem RF {w:World}{a b:Nat}{e:TypeId}{sz n:Nat}{v:Value}{us:List Value}(h:w.ownsRow a e sz v n us)(hb:b≤a):w.ownsRow b e sz v n us:=by
 refine⟨h.1,?_⟩;rcases h.2 with hn | ⟨g,cap,cur,rfl,hg,rest⟩
 ·exact .inl hn
 ·exact .inr ⟨g,cap,cur,rfl,Nat.le_trans hb hg,rest⟩
theorem Qu {w:World}{a:Nat}{e:TypeId}{sz n:Nat}{v:Value}{us:List Value}(h:w.ownsRow a e sz v n us):∀k∈v.ownBlock.toList,a≤k:=by
 rcases h.2 with⟨rfl,_⟩ | ⟨g,cap,cur,rfl,hg,rest⟩
 ·intro k hk;simp[Value.ownBlock] at hk
 ·intro k hk;simp[Value.ownBlock] at hk;omega
theorem St.newrow {c:Cx}{H:List Ent}{Z:Fz}{w w':World}(h:St c H Z w)(hb:Below w.heap.size w w'){v:Value}{e:TypeId}{ys:List Ag}(hr:w'.ownsRow w.heap.size e 1 v ys.length (ys.map Go.Proofs.encStr)):St c (.row v e 1 (ys.map eS)::H) Z w':=by
 refine h.add hb.os hb.tape hb.output hb.size (λk hk=>hb.block k hk) ⟨λc hc=>?_,ys.map Go.Proofs.encStr,?_,?_⟩ (λk hk=>Qu hr k hk)
 ·obtain⟨y,_,rfl⟩:=List.mem_map.1 hc;rfl
 ·rw[Abx];exact RF hr (AbS _)
 ·clear hr
  induction ys with
  | nil=>exact trivial
  | cons y r ih=>exact⟨by show Go.Proofs.encStr y=Value.string (B y);rfl,ih⟩
end Go.Proofs.YtjfnokmpfekniaaGreatDoor.Q
namespace Go.Proofs.YtjfnokmpfekniaaGreatDoor
open Go
set_option linter.unusedVariables false
structure Ae where
 fKey:Ag
 fDelete:Bool
 fValue:(List Aa)
 fIfVersion:Int
 deriving DecidableEq,Inhabited
structure Af where
 fKey:Ag
 fValue:(List Aa)
 fVersion:Int
 deriving DecidableEq,Inhabited
structure AB where
 fItems:(List (Ag×Af))
 fChanged:(List (Ag×Af))
 deriving DecidableEq,Inhabited
def L6 (ys:(List Aa)):Option ((List Aa)):=
 AR (Dw 40 (([]:List Aa).length+ys.length))<|some (([]:List Aa)++ys)
def Yu (c:Int):Option (Bool):=
 some ((decide (97≤c))&&(decide (c≤122)))
def SU (c:Int):Option (Bool):=
 some ((decide (48≤c))&&(decide (c≤57)))
def C1 (ha:Bool):Option (Bool):=
 some ha
def W0 (c:Int):Option (Bool):=
 Bi (Yu c) λha=>AV (ha) (C1 true) (AV (decide (65≤c)) (AV (decide (c≤90)) (C1 true) (Bi (SU c) λhb=>AV (hb) (C1 true) (AV (decide (c=45)) (C1 true) (AV (decide (c=95)) (C1 true) (AV (decide (c=46)) (C1 true) (AV (decide (c=58)) (C1 true) (C1 (decide (c=47))))))))) (Bi (SU c) λhd=>AV (hd) (C1 true) (AV (decide (c=45)) (C1 true) (AV (decide (c=95)) (C1 true) (AV (decide (c=46)) (C1 true) (AV (decide (c=58)) (C1 true) (C1 (decide (c=47)))))))))
def Js (s:Ag)(ha:Int):Option (Stp (Int) (Out (Bool) (Unit))):=
 AV (decide (ha<(s.length:Int))) (AR (CG ha (s.length:Int))<|Bi (W0 (Ba s ha)) λhb=>AV (!hb) (some (.out (.ret false))) (AR (B7 .i64 (ha+1))<|some (.next (ha+1)))) (some (.out (.go ())))
def Yv :Option (Bool):=
 some true
def ZF (F:Nat)(s:Ag):Option (Bool):=
 AV (((decide ((s.length:Int)<1))||(decide (64<(s.length:Int))))) (some false) (Bi (BE (λσ=>Js s σ) F 0) (By λν=>Yv ))
def Id (F:Nat)(c:Ae):Option (Int):=
 AV (!(PB c.fKey)) (some 4) (AV (((decide (c.fIfVersion<(-1)))||(decide (1000000000000<c.fIfVersion)))) (some 2) (AV ((c.fDelete&&(decide (0<(c.fValue.length:Int))))) (some 7) (AV (c.fDelete) (some 0) (Bi (JO F c.fValue) λha=>some ha))))
def CB (F:Nat)(l:(List Ae))(ha:Int):Option (Stp (Int) (Out (Int) (Unit))):=
 AV (decide (ha<(l.length:Int))) (AR (CG ha (l.length:Int))<|Bi (Id F (Ap l ha)) λhb=>AV (!decide (hb=0)) (some (.out (.ret hb))) (AR (B7 .i64 (ha+1))<|some (.next (ha+1)))) (some (.out (.go ())))
def Jp :Option (Int):=
 some 0
def GJ (F:Nat)(l:(List Ae)):Option (Int):=
 AV (decide (256<(l.length:Int))) (some 3) (Bi (BE (λσ=>CB F l σ) F 0) (By λν=>Jp ))
def Um :Option (AB):=
 some (AB.mk ([]:List (Ag×Af)) ([]:List (Ag×Af)))
def JF (q:AB):Option (Bool×AB):=
 some (true,q)
def Wq (q:AB)(key:Ag):Option (Af×AB):=
 AV (Ce q.fChanged key) (some ((Cn q.fChanged key (Af.mk ([]:Ag) ([]:(List Aa)) 0)),q)) (some ((Cn q.fItems key (Af.mk ([]:Ag) ([]:(List Aa)) 0)),q))
def EG (c:Ae)(r2:Af×AB)(ha:Int):Option (Int×Int×AB):=
 Bi (L6 c.fValue) λhb=>AR (B7 .i64 (r2.1.fVersion+1))<|some (ha,0,(AB.mk r2.2.fItems (mset r2.2.fChanged c.fKey (Af.mk c.fKey hb (r2.1.fVersion+1)))))
def Jr (q:AB)(c:Ae)(size:Int):Option (Int×Int×AB):=
 Bi (Wq q c.fKey) λr2=>AV (((decide (0≤c.fIfVersion))&&(!decide (c.fIfVersion=r2.1.fVersion)))) (some (0,19,r2.2)) (AV (c.fDelete) (AV (decide (0<r2.1.fVersion)) (AR (B7 .i64 (size-1))<|some (size-1,0,(AB.mk r2.2.fItems (mset r2.2.fChanged c.fKey (Af.mk ([]:Ag) ([]:List Aa) 0))))) (some (size,0,(AB.mk r2.2.fItems (mset r2.2.fChanged c.fKey (Af.mk ([]:Ag) ([]:List Aa) 0)))))) (AV (((decide (r2.1.fVersion=0))&&(decide (256≤size)))) (some (0,3,r2.2)) (AV (decide (1000000000000≤r2.1.fVersion)) (some (0,8,r2.2)) (AV (decide (r2.1.fVersion=0)) (AR (B7 .i64 (size+1))<|EG c r2 (size+1)) (EG c r2 size)))))
def G2 (ha:Ag)(hb:Af)(hd:(List (Ag×Af))):Option (Stp ((List (Ag×Af))) (Out (Int×AB) ((List (Ag×Af))))):=
 AV (decide (hb.fVersion=0)) (some (.next (mdel hd ha))) (some (.next (mset hd ha hb)))
def G1 (ha:(List (Ag×Af)))(hb:(List (Ag×Af))):Option (Int×AB):=
 some (0,(AB.mk hb ha))
def DO (l:(List Ae))(hf:Int)(hb:Int)(hd:(List (Ag×Af)))(he:(List (Ag×Af))):Option (Stp (Int×Int×(List (Ag×Af))×(List (Ag×Af))) (Out (Int×AB) ((List (Ag×Af))×(List (Ag×Af))))):=
 AV (decide (hb<(l.length:Int))) (AR (CG hb (l.length:Int))<|Bi (Jr (AB.mk hd he) (Ap l hb) hf) λha=>AV (!decide (ha.2.1=0)) (some (.out (.ret (ha.2.1,ha.2.2)))) (AR (B7 .i64 (hb+1))<|some (.next (ha.1,hb+1,ha.2.2.fItems,ha.2.2.fChanged)))) (some (.out (.go (hd,he))))
def EH (hb:(List (Ag×Af)))(ha:(List (Ag×Af))):Option (Int×AB):=
 VY ha λord=>Bi (Uf (λp τ=>G2 p.1 p.2 τ) ord hb) (By λν=>G1 ha ν)
def Gd (F:Nat)(q:AB)(l:(List Ae)):Option (Int×AB):=
 Bi (JF q) λr1=>AV (!r1.1) (some (10,r1.2)) (Bi (GJ F l) λr7=>AV (!decide (r7=0)) (some (r7,r1.2)) (Bi (BE (λσ=>DO l σ.1 σ.2.1 σ.2.2.1 σ.2.2.2) F ((r1.2.fItems.length:Int),0,r1.2.fItems,([]:List (Ag×Af)))) (By λν=>EH ν.1 ν.2)))
def Ul (x:Af):Option (Af):=
 Bi (L6 x.fValue) λr3=>some (Af.mk x.fKey r3 x.fVersion)
def Z7 (q:AB)(key:Ag):Option (Af×Bool×AB):=
 Bi (JF q) λr2=>AV (!r2.1) (some ((Af.mk ([]:Ag) ([]:List Aa) 0),false,r2.2)) (Bi (Ul (Cn r2.2.fItems key (Af.mk ([]:Ag) ([]:(List Aa)) 0))) λr9=>some (r9,Ce r2.2.fItems key,r2.2))
def RT (q:AB):Option (Int×AB):=
 Bi (JF q) λr1=>AV (!r1.1) (some (0,r1.2)) (some ((r1.2.fItems.length:Int),r1.2))
def HE (ha:Int)(hb:(List Af))(hd:Bool):Option (Stp ((List Af)×Int) (Out ((List Af)×AB) ((List Af)))):=
 AR (B7 .i64 (ha+1))<|some (.next (hb,ha+1))
def EV (pre:Ag)(r1:Bool×AB)(hb:(List Af))(ha:Int):Option (Stp ((List Af)×Int) (Out ((List Af)×AB) ((List Af)))):=
 AV (decide (ha<((C6 r1.2.fItems).length:Int))) (AR (CG ha ((C6 r1.2.fItems).length:Int))<|Bi (DP (Ap (C6 r1.2.fItems) ha) pre) λhd=>AV (hd) (Bi (Ul (Cn r1.2.fItems (Ap (C6 r1.2.fItems) ha) (Af.mk ([]:Ag) ([]:(List Aa)) 0))) λhe=>AR (Dw 48 (hb.length+([he]:List Af).length))<|HE ha (hb++([he]:List Af)) hd) (HE ha hb hd)) (some (.out (.go hb)))
def KN (r1:Bool×AB)(ha:(List Af)):Option ((List Af)×AB):=
 some (ha,r1.2)
def LV (F:Nat)(q:AB)(pre:Ag):Option ((List Af)×AB):=
 Bi (JF q) λr1=>AV (!r1.1) (some (([]:List Af),r1.2)) (AR (Nr r1.2.fItems)<|Bi (BE (λσ=>EV pre r1 σ.1 σ.2) F (([]:List Af),0)) (By λν=>KN r1 ν))
end Go.Proofs.YtjfnokmpfekniaaGreatDoor
namespace Go.Proofs.YtjfnokmpfekniaaGreatDoor.Q
open Go Go.RowKit
set_option linter.unusedVariables false
set_option linter.unusedSimpArgs false
theorem KU {q:MapEntry→Bool}:∀{l:List MapEntry} {j:Nat} {e:MapEntry},(l.map (·.born)).Nodup→l[j]? =some e→l.filter (λx=>!(x.born ==e.born))=l.eraseIdx j
 | x::l,0,e,hn,h=>by
  simp at h;subst h;rw[AbR,List.nodup_cons] at hn;rw[List.filter_cons_of_neg (by simp),List.filter_eq_self.2 λy hy=>?_];rfl;have:y.born≠x.born:=λe=>hn.1 (by rw[← e];exact List.mem_map.2 ⟨y,hy,rfl⟩);simp[this]
 | x::l,j+1,e,hn,h=>by
  rw[AbR,List.nodup_cons] at hn;simp at h;have hne:x.born≠e.born:=λe'=>hn.1 (by rw[e'];exact List.mem_map.2 ⟨e,Abv h,rfl⟩);rw[List.filter_cons_of_pos (by simp[hne]),KU (q:=q) hn.2 h];rfl
theorem I2.erase {Z:Fz}:∀{f:List (List UInt8×Rp)} {es:List MapEntry} (j:Nat),I2 Z f es→I2 Z (f.eraseIdx j) (es.eraseIdx j)
 | [],[],j,_=>by simp[I2]
 | p::f,e::es,0,⟨_,h⟩=>h
 | p::f,e::es,j+1,⟨h,h3⟩=>⟨h,I2.erase j h3⟩
theorem SD {α:Type}:∀{l:List α} {j:Nat} {a:α},l[j]? =some a→l.Perm (a::l.eraseIdx j)
 | x::l,0,a,h=>by simp at h;subst h;exact Abo _
 | x::l,j+1,a,h=>by
  simp at h;exact((SD h).cons x).trans (List.Perm.swap a x _)
theorem VC {T:Type}{enc:T→Rp}{ys:List (Ag×T)}{f:List (Ag×Rp)}{j:Nat}{k:Ag}{r:Rp}(h:f.Perm (AH enc ys))(hj:f[j]? =some (k,r)):∃ (p:Ag×T) (ys':List (Ag×T)),ys.Perm (p::ys')∧p.1=k∧enc p.2=r∧(f.eraseIdx j).Perm (AH enc ys'):=by
 have hm:(k,r)∈AH enc ys:=h.subset (Abv hj);obtain⟨p,hp,e⟩:=List.mem_map.1 hm;simp only[Prod.mk.injEq] at e;obtain⟨a,b,rfl⟩:=List.append_of_mem hp;refine⟨p,a++b,List.perm_middle,e.1,e.2,?_⟩;have h1:f.Perm ((k,r)::f.eraseIdx j):=by
  exact SD hj
 have h2:(AH enc (a++p::b)).Perm ((k,r)::AH enc (a++b)):=by
  have:(AH enc (a++p::b)).Perm (AH enc (p::(a++b))):=List.perm_middle.map _;refine this.trans ?_;show((p.1,enc p.2)::AH enc (a++b)).Perm _;rw[e.1,e.2]
 exact((h1.symm.trans h).trans h2).cons_inv
section
variable {P : Program} {n : Nat} {c : Cx} {ops : Array Oper} {Q : Exit → Act → World → Prop} {rest : List Oper} {l : Fr} {H : List Ent} {d : Nat} {ty t kt et rty : TypeId} {pos : String} {af : Array Edge} {x y u : Operand} {K : Act → World → Prop} {cx : Code}
variable {T : Type} {enc : T → Rp} {xs ys : List (Ag × T)} {i b it : Nat} {m lf : List (List UInt8 × Rp)} {cur : Option (List UInt8 × Rp)} {k : Ag} {r : Rp}
theorem XA (ht:P.underlying t=some (.map kt et))(hx:ev l x=some (rv (.map (some b))))(hi:H[i]? =some (.map b m))(hn:Nat.blt d n=true)(h:∀it,WL P n c ops Q rest ((d,rv (.pointer (some ⟨it,0,none⟩)))::l) (H.set i (.mit b it m m none))) :
  WL P n c ops Q ({ dst:=some d,op:=.range t x,type:=ty,pos:=pos,after:=af,guard:=none }::rest) l H:=
 J0 (λa w Z ha hw=>by
  obtain⟨es,ck,h1,h2⟩:=hw.ent hi;have hb:b<w.heap.size:=(Array.getElem?_eq_some_iff.1 h1).1;have hf:es.toList.filter (λe=>!(#[]:Array Nat).contains e.born)=es.toList:=List.filter_eq_self.2 λ_ _=>by simp
  obtain⟨f,h4,h5⟩:=h2.2.2.2;refine⟨.pointer (some ⟨w.heap.size,0,none⟩),w.alloc (.mapIter (some b) ck #[] ck),_,_,Z,?_,Fz.le.refl _,rfl,hw.set hi rfl rfl rfl (by simp) (λk hk _=>Below.heap_alloc w _ k hk) ?_ ?_,h w.heap.size⟩
  ·simp[execOp,ha.eval hx,run_range_map w t kt et b es ck ht h1]
  ·exact⟨es,ck,#[],ck,ck,(Below.heap_alloc w _ b hb).trans h1,by simpa using heap_alloc_new w _,h2,h2.2.2.1,Ab3 _,Ab3 _,Nat.ne_of_lt hb,⟨f,h4,by rw[hf];exact h5⟩,trivial⟩
  ·intro k hk;simp only[Ent.foot,Acd,List.not_mem_nil,or_false] at hk;rcases hk with rfl | rfl
   ·exact .inl (by simp[Ent.foot])
   ·exact .inr (Ab3 _)) hn
theorem Zc (hx:ev l x=some (rv (.pointer (some ⟨it,0,none⟩))))(hi:H[i]? =some (.mit b it m (AH enc ys) cur))(hn:Nat.blt d n=true)
  (h0:ys=[]→WL P n c ops Q rest ((d,C2 [rB false])::l) H)
  (h1:∀p ys',ys.Perm (p::ys')→WL P n c ops Q rest ((d,C2 [rB true,rS p.1,enc p.2])::l) (H.set i (.mit b it m (AH enc ys') (some (p.1,enc p.2))))) :
  WL P n c ops Q ({ dst:=some d,op:=.next x false,type:=ty,pos:=pos,after:=af,guard:=none }::rest) l H:=
 J0 (λa w Z ha hw=>by
  obtain⟨es,ck,seen,since,c0,q1,q2,q3,q4,q5,q6,q7,⟨f,q8,q9⟩,_⟩:=hw.ent hi;have hlf:(leftOf es seen).toList=es.toList.filter λe=>!seen.contains e.born:=by simp[leftOf]
  rcases run_next_at (P:=P) w ty it b since c0 seen es ck q2 q1 q4 q5 with⟨r1,r2⟩ | ⟨e,r1,w1,r2,r3⟩
  ·have he:es.toList.filter (λe=>!seen.contains e.born)=[]:=by rw[← hlf];exact Ab7 (by simpa using r1)
   rw[he] at q9;have hf:f=[]:=by cases f with
    | nil=>rfl
    | cons _ _=>exact absurd q9 id
   subst hf;have hy:ys=[]:=by
    have:=q8.length_eq;rw[Hb] at this;exact Ab7 this.symm
   exact⟨.tuple #[.bool false],w,C2 [rB false],H,Z,by simp[execOp,ha.eval hx,r2],Fz.le.refl _,⟨[.bool false],rfl,rfl,trivial⟩,hw,h0 hy⟩
  ·rw[hlf] at r1;obtain⟨j,hj⟩:=List.mem_iff_getElem?.1 r1;obtain⟨k,r,e1,e2,e3⟩:=q9.at.2 j e hj;obtain⟨p,ys',s1,s2,s3,s4⟩:=VC q8 e1;have hnl:((es.toList.filter λe=>!seen.contains e.born).map (·.born)).Nodup:=q3.2.1.sublist ((List.filter_sublist ..).map _);have hleft:es.toList.filter (λx=>!(seen.push e.born).contains x.born)=(es.toList.filter λe=>!seen.contains e.born).eraseIdx j:=by
    rw[← KU (q:=λ_=>true) hnl hj,List.filter_filter];refine List.filter_congr λx _=>?_;simp only[Array.contains_push,Bool.not_or];rw[Bool.and_comm]
   have hd:St c H Z w1:=by
    rcases r2 with rfl | rfl
    ·exact hw
    ·exact hw.drawn _
   have q2':w1.heap[it]? =some (.mapIter (some b) since seen c0):=by rcases r2 with rfl | rfl<;>exact q2
   have q1':w1.heap[b]? =some (.map es ck):=by rcases r2 with rfl | rfl<;>exact q1
   obtain⟨t1,t2⟩:=MapKept.heap_set (o':=.mapIter (some b) since (seen.push e.born) ck) q2';refine⟨.tuple #[.bool true,e.key,e.val],ChangeMaps.setBlock w1 it (.mapIter (some b) since (seen.push e.born) ck),C2 [rB true,rS p.1,enc p.2],H.set i (.mit b it m (AH enc ys') (some (p.1,enc p.2))),Z,by simp[execOp,ha.eval hx,r3],Fz.le.refl _,⟨[.bool true,e.key,e.val],rfl,rfl,?_,?_,trivial⟩,hd.set hi rfl rfl rfl (by simp[ChangeMaps.setBlock]) (λk' _ hk'=>t2 k' (λe'=>hk' (by simp[Ent.foot,e']))) ?_ (λk' hk'=>.inl (by simpa[Ent.foot] using hk')),h1 p ys' s1⟩
   ·show e.key = .string (B p.1);rw[s2];exact e2
   ·rw[s3];exact e3
   ·exact⟨es,ck,seen.push e.born,since,ck,(t2 b q7).trans q1',t1,q3,q4,Nat.le_trans q5 q6,Ab3 _,q7,⟨f.eraseIdx j,s4,by rw[hleft];exact q9.erase j⟩,rfl,seen,e,rfl,(List.mem_filter.1 r1).1,by rw[s2];exact e2,by rw[s3];exact e3⟩) hn
theorem St.unmit {Z:Fz}{w:World}(h:St c H Z w)(hi:H[i]? =some (.mit b it m lf cur)):St c (H.set i (.map b m)) Z w:=by
 obtain⟨es,ck,seen,since,c0,q1,q2,q3,_⟩:=h.ent hi;exact h.set hi rfl rfl rfl (Ab3 _) (λ_ _ _=>rfl) ⟨es,ck,q1,q3⟩ (by simp[Ent.foot])
theorem WK.unmit (hi:H[i]? =some (.mit b it m lf cur))(h:WK n c K l (H.set i (.map b m))):WK n c K l H:=λa w Z ha hw=>h a w Z ha (hw.unmit hi)
theorem WC.unmit (hi:H[i]? =some (.mit b it m lf cur))(h:WC P n c cx Q l (H.set i (.map b m))):WC P n c cx Q l H:=λa w Z ha hw=>h a w Z ha (hw.unmit hi)
theorem WL.unmit (hi:H[i]? =some (.mit b it m lf cur))(h:WL P n c ops Q rest l (H.set i (.map b m))):WL P n c ops Q rest l H:=λa w Z ha hw=>h a w Z ha (hw.unmit hi)
theorem St.uncur {Z:Fz}{w:World}(h:St c H Z w)(hi:H[i]? =some (.mit b it m lf cur)):St c (H.set i (.mit b it m lf none)) Z w:=by
 obtain⟨es,ck,seen,since,c0,q1,q2,q3,q4,q5,q6,q7,q8,_⟩:=h.ent hi;exact h.set hi rfl rfl rfl (Ab3 _) (λ_ _ _=>rfl) ⟨es,ck,seen,since,c0,q1,q2,q3,q4,q5,q6,q7,q8,trivial⟩ (λk hk=>.inl (by simpa[Ent.foot] using hk))
theorem WK.uncur (hi:H[i]? =some (.mit b it m lf cur))(h:WK n c K l (H.set i (.mit b it m lf none))):WK n c K l H:=λa w Z ha hw=>h a w Z ha (hw.uncur hi)
theorem XX {dd:Option Nat}{g:Option (Nat×Bool)}(hx:ev l x=some (rv (.pointer (some ⟨it,0,none⟩))))(hi:H[i]? =some (.mit b it m lf (some (k,r)))) :
  Bb P n c l H { dst:=dd,op:=.entry x,type:=ty,pos:=pos,after:=af,guard:=g } (C2 [rS k,r]):=λa w Z ha hw=>by
 obtain⟨es,ck,seen,since,c0,q1,q2,q3,q4,q5,q6,q7,q8,rfl,s0,e,rfl,h1,h2,h3⟩:=hw.ent hi;exact⟨.tuple #[e.key,e.val],⟨[e.key,e.val],rfl,h2,h3,trivial⟩,by simp[execOp,ha.eval hx,run_entry_at w it b since s0 es c0 e q2 q1 h1 q3.2.1]⟩
end
section
variable {P : Program} {n : Nat} {c : Cx} {opsA : Array Oper} {Q : Exit → Act → World → Prop} {l : Fr} {H : List Ent} {d : Nat} {ty : TypeId} {pos : String} {af : Array Edge}
end
section
variable {P : Program} {n : Nat} {c : Cx} {ops : Array Oper} {Q : Exit → Act → World → Prop} {rest : List Oper} {l : Fr} {H H' : List Ent} {d : Nat} {d' : Option Nat} {x y z3 : Operand} {ty t t' e : TypeId} {pos : String} {af : Array Edge} {g : Option (Nat × Bool)} {v u : Value} {r : Rp} {sz : Nat}
end
end Go.Proofs.YtjfnokmpfekniaaGreatDoor.Q
namespace Go.Proofs
open Go.Shelf
def Tryz.sort62_ren:Go.Shelf.Ren:=⟨fun | 6=>62 | 8=>86 | 9=>85 | 19=>118 | 20=>119 | 21=>109 | 22=>110 | 23=>111 | 24=>112 | 25=>113 | 26=>114 | 27=>115 | 28=>116 | 29=>117 | 36=>148 | 31=>149 | 32=>150 | 37=>151 | 38=>152 | 39=>153 | 41=>165 | n=>n,fun | 27=>51 | 29=>9 | 3=>3 | 32=>109 | 26=>51 | 0=>0 | 44=>116 | 46=>145 | 4=>4 | 36=>138 | 35=>137 | 41=>68 | 5=>5 | 9=>9 | 53=>171 | 57=>175 | 63=>185 | 64=>186 | n=>n,fun | n=>n⟩
theorem Tryz.sort62:Go.Proofs.SlLaysM.n6 Tryz.prog Tryz.sort62_ren:={
 mixed:=by kernel_rfl
 f6:=⟨Tryz.f62.name,by decide,Tryz.func62.trans (congrArg some (by kernel_rfl))⟩
 f8:=Tryz.func86.trans (congrArg some (by kernel_rfl))
 f9:=⟨Tryz.f85.name,by decide,Tryz.func85.trans (congrArg some (by kernel_rfl))⟩
 f19:=Tryz.func118.trans (congrArg some (by kernel_rfl))
 f20:=Tryz.func119.trans (congrArg some (by kernel_rfl))
 f21:=⟨Tryz.f109.name,by decide,Tryz.func109.trans (congrArg some (by kernel_rfl))⟩
 f22:=⟨Tryz.f110.name,by decide,Tryz.func110.trans (congrArg some (by kernel_rfl))⟩
 f23:=⟨Tryz.f111.name,by decide,Tryz.func111.trans (congrArg some (by kernel_rfl))⟩
 f24:=⟨Tryz.f112.name,by decide,Tryz.func112.trans (congrArg some (by kernel_rfl))⟩
 f25:=⟨Tryz.f113.name,by decide,Tryz.func113.trans (congrArg some (by kernel_rfl))⟩
 f26:=⟨Tryz.f114.name,by decide,Tryz.func114.trans (congrArg some (by kernel_rfl))⟩
 f27:=⟨Tryz.f115.name,by decide,Tryz.func115.trans (congrArg some (by kernel_rfl))⟩
 f28:=⟨Tryz.f116.name,by decide,Tryz.func116.trans (congrArg some (by kernel_rfl))⟩
 f29:=⟨Tryz.f117.name,by decide,Tryz.func117.trans (congrArg some (by kernel_rfl))⟩
 f31:=Tryz.func149.trans (congrArg some (by kernel_rfl))
 f32:=Tryz.func150.trans (congrArg some (by kernel_rfl))
 f36:=⟨Tryz.f148.name,by decide,Tryz.func148.trans (congrArg some (by kernel_rfl))⟩
 f37:=⟨Tryz.f151.name,by decide,Tryz.func151.trans (congrArg some (by kernel_rfl))⟩
 f38:=⟨Tryz.f152.name,by decide,Tryz.func152.trans (congrArg some (by kernel_rfl))⟩
 f39:=⟨Tryz.f153.name,by decide,Tryz.func153.trans (congrArg some (by kernel_rfl))⟩
 f41:=⟨Tryz.f165.name,by decide,Tryz.func165.trans (congrArg some (by kernel_rfl))⟩
 t0:=Tryz.underlying0
 a0:=Tryz.isAgg0
 z0:=Tryz.sizeOf0
 v0:=Tryz.zeroValue0
 t3:=Tryz.underlying3
 a3:=Tryz.isAgg3
 z3:=Tryz.sizeOf3
 v3:=Tryz.zeroValue3
 t4:=Tryz.underlying4
 a4:=Tryz.isAgg4
 z4:=Tryz.sizeOf4
 v4:=Tryz.zeroValue4
 t5:=Tryz.underlying5
 a5:=Tryz.isAgg5
 z5:=Tryz.sizeOf5
 v5:=Tryz.zeroValue5
 t9:=Tryz.underlying9
 a9:=Tryz.isAgg9
 z9:=Tryz.sizeOf9
 v9:=Tryz.zeroValue9
 t26:=Tryz.underlying51
 a26:=Tryz.isAgg51
 z26:=Tryz.sizeOf51
 v26:=Tryz.zeroValue51
 t27:=Tryz.underlying51
 a27:=Tryz.isAgg51
 z27:=Tryz.sizeOf51
 v27:=Tryz.zeroValue51
 t29:=Tryz.underlying9
 a29:=Tryz.isAgg9
 z29:=Tryz.sizeOf9
 v29:=Tryz.zeroValue9
 t32:=Tryz.underlying109
 a32:=Tryz.isAgg109
 z32:=Tryz.sizeOf109
 v32:=Tryz.zeroValue109
 t35:=Tryz.underlying137
 a35:=Tryz.isAgg137
 z35:=Tryz.sizeOf137
 v35:=Tryz.zeroValue137
 t36:=Tryz.underlying138
 a36:=Tryz.isAgg138
 z36:=Tryz.sizeOf138
 v36:=Tryz.zeroValue138
 t41:=Tryz.underlying68
 a41:=Tryz.isAgg68
 z41:=Tryz.sizeOf68
 v41:=Tryz.zeroValue68
 t44:=Tryz.underlying116
 a44:=Tryz.isAgg116
 z44:=Tryz.sizeOf116
 v44:=Tryz.zeroValue116
 t46:=Tryz.underlying145
 a46:=Tryz.isAgg145
 z46:=Tryz.sizeOf145
 v46:=Tryz.zeroValue145
 t53:=Tryz.underlying171
 a53:=Tryz.isAgg171
 z53:=Tryz.sizeOf171
 v53:=Tryz.zeroValue171
 t57:=Tryz.underlying175
 a57:=Tryz.isAgg175
 z57:=Tryz.sizeOf175
 v57:=Tryz.zeroValue175
 t63:=Tryz.underlying185
 a63:=Tryz.isAgg185
 z63:=Tryz.sizeOf185
 v63:=Tryz.zeroValue185
 t64:=Tryz.underlying186
 a64:=Tryz.isAgg186
 z64:=Tryz.sizeOf186
 v64:=Tryz.zeroValue186 }
def Tryz.sorted42_ren:Go.Shelf.Ren:=⟨fun | 6=>42 | 8=>61 | 9=>62 | 11=>84 | 13=>86 | 12=>85 | 23=>118 | 24=>119 | 14=>109 | 15=>110 | 16=>111 | 17=>112 | 18=>113 | 19=>114 | 20=>115 | 21=>116 | 22=>117 | 25=>148 | 26=>149 | 27=>150 | 28=>151 | 29=>152 | 30=>153 | 31=>165 | n=>n,fun | 26=>9 | 28=>73 | 24=>51 | 0=>0 | 3=>3 | 37=>109 | 48=>116 | 50=>145 | 4=>4 | 40=>138 | 39=>137 | 45=>68 | 5=>5 | 9=>9 | 51=>171 | 55=>175 | 57=>185 | 58=>186 | 33=>89 | n=>n,fun | n=>n⟩
theorem Tryz.sorted42:Go.Proofs.SlLaysZ.n6 Tryz.prog Tryz.sorted42_ren:={
 mixed:=by kernel_rfl
 f6:=⟨Tryz.f42.name,by decide,Tryz.func42.trans (congrArg some (by kernel_rfl))⟩
 f8:=⟨Tryz.f61.name,by decide,Tryz.func61.trans (congrArg some (by kernel_rfl))⟩
 f11:=⟨Tryz.f84.name,by decide,Tryz.func84.trans (congrArg some (by kernel_rfl))⟩
 t0:=Tryz.underlying0
 a0:=Tryz.isAgg0
 z0:=Tryz.sizeOf0
 v0:=Tryz.zeroValue0
 t24:=Tryz.underlying51
 a24:=Tryz.isAgg51
 z24:=Tryz.sizeOf51
 v24:=Tryz.zeroValue51
 t26:=Tryz.underlying9
 a26:=Tryz.isAgg9
 z26:=Tryz.sizeOf9
 v26:=Tryz.zeroValue9
 t28:=Tryz.underlying73
 a28:=Tryz.isAgg73
 z28:=Tryz.sizeOf73
 v28:=Tryz.zeroValue73
 i26:=by kernel_rfl }
def Tryz.keys43_ren:Go.Shelf.Ren:=⟨fun | 7=>43 | 10=>63 | n=>n,fun | 23=>57 | 26=>9 | 3=>35 | 28=>73 | 0=>0 | 27=>72 | 33=>89 | 4=>4 | n=>n,fun | n=>n⟩
theorem Tryz.keys43:Go.Proofs.SlLaysZ.n7 Tryz.prog Tryz.keys43_ren:={
 mixed:=by kernel_rfl
 f7:=⟨Tryz.f43.name,by decide,Tryz.func43.trans (congrArg some (by kernel_rfl))⟩
 f10:=⟨Tryz.f63.name,by decide,Tryz.func63.trans (congrArg some (by kernel_rfl))⟩
 t0:=Tryz.underlying0
 a0:=Tryz.isAgg0
 z0:=Tryz.sizeOf0
 v0:=Tryz.zeroValue0
 t4:=Tryz.underlying4
 a4:=Tryz.isAgg4
 z4:=Tryz.sizeOf4
 v4:=Tryz.zeroValue4
 t23:=Tryz.underlying57
 a23:=Tryz.isAgg57
 z23:=Tryz.sizeOf57
 v23:=Tryz.zeroValue57
 t26:=Tryz.underlying9
 a26:=Tryz.isAgg9
 z26:=Tryz.sizeOf9
 v26:=Tryz.zeroValue9
 t27:=Tryz.underlying72
 a27:=Tryz.isAgg72
 z27:=Tryz.sizeOf72
 v27:=Tryz.zeroValue72
 t28:=Tryz.underlying73
 a28:=Tryz.isAgg73
 z28:=Tryz.sizeOf73
 v28:=Tryz.zeroValue73
 t33:=Tryz.underlying89
 a33:=Tryz.isAgg89
 z33:=Tryz.sizeOf89
 v33:=Tryz.zeroValue89 }
end Go.Proofs
namespace Go.Proofs.YtjfnokmpfekniaaGreatDoor.Q
open Go Go.RowKit Go.Maps Go.Sort Go.Shelf Go.Proofs
set_option linter.unusedVariables false
set_option maxHeartbeats 1000000
theorem R3 {Z:Fz}{v:Value}{vs:List Value}(h:AZ Z [rv v] vs):vs=[v]:=AZ.eq_rv (us:=[v]) h
theorem Uc {T:Type}(enc:T→Rp)(xs:List (Ag×T)):(AH enc xs).map (·.1)=xs.map (·.1):=by simp[AH]
theorem RL (b:Nat):Fn Tryz.prog GE 43 [rv (.map (some b))] [] (λR H=>∃k:Nat,R=rv (.func (.func 63) #[] #[.pointer (some ⟨k,0,none⟩)])∧H=[.blk k [rv (.map (some b))] 57]):=λw Z vs hv hs=>by
 have e:=R3 hv;subst e;have hc:Calls Tryz.prog 43 #[.map (some b)] w (λe w'=>e = .returned (.func (.func 63) #[] #[.pointer (some ⟨w.heap.size,0,none⟩)])∧w'=w.alloc (.cells #[.map (some b)] 57)):=callsIn_wide.1 (AnyZ.keys_in Tryz.keys43 Fence.wide 5 trivial rfl (some b) w);refine hc.mono ?_;rintro e w' ⟨rfl,rfl⟩;exact⟨_,_,_,Z,rfl,⟨w.heap.size,rfl,rfl⟩,rfl,hs.alloc _ ⟨[.map (some b)],by simpa using heap_alloc_new w _,rfl,trivial⟩ rfl⟩
theorem R1 (m:Nat):AnyZ.SortsIn Tryz.prog Tryz.sorted42_ren Fence.wide m:=
  ⟨λblk off cap ss W hH hblk hsz=>callsIn_wide.2 (AnyM.slices_Sort_string Tryz.sort62 blk off cap ss W hH hblk hsz),
   λp cap W=>callsIn_wide.2 (AnyM.slices_Sort_string_none Tryz.sort62 p cap W)⟩
theorem PZ {T:Type}(enc:T→Rp)(xs:List (Ag×T))(k b:Nat)(hk:Nr xs=true):Fn Tryz.prog GE 42 [rv (.func (.func 63) #[] #[.pointer (some ⟨k,0,none⟩)])] [.blk k [rv (.map (some b))] 57,.map b (AH enc xs)] (λR H=>∃v:Value,R=rv v∧H=[.row v 9 1 ((C6 xs).map eS),.blk k [rv (.map (some b))] 57,.map b (AH enc xs)]):=λw Z vs hv hs=>by
 have e:=R3 hv;subst e;obtain⟨us,h1,h2⟩:=hs.ent (i:=0) rfl;have e2:=R3 h2;subst e2;obtain⟨es,ck,h3,h4⟩:=hs.ent (i:=1) rfl;unfold Nr at hk;simp only[Abp,Abh,AbE] at hk;have hlen:(AH enc xs).length=xs.length:=Hb enc xs;have hkl:∀p∈AH enc xs,p.1.length≤maxLen:=λp hp=>by
  obtain⟨y,hy,rfl⟩:=List.mem_map.1 hp;have:=hk.2 y hy;have e:maxLen=9223372036854775807:=rfl;rw[e];simpa[YM] using this
 obtain⟨D0,d1,d2,d3⟩:=XR (k:=9) Tryz.underlying9 h3 h4 hkl (by rw[hlen];have:=hk.1;have e:maxLen=9223372036854775807:=rfl;omega);have hkb:k<w.heap.size:=(Array.getElem?_eq_some_iff.1 h1).1;have hcell:w.cell? ⟨k,0,none⟩=some (.map (some b)):=by simp[World.cell?,h1]
 have hseq:SeqGives Fence.wide 2 Tryz.prog 63 #[.pointer (some ⟨k,0,none⟩)] encStr (λss=>ss.Perm (strKeys D0)) (Maps.size D0) w:=
  AnyZ.keys_gives (ρ:=Tryz.keys43_ren) { Tryz.keys43 with } Fence.wide _ trivial rfl (by omega) k b es.size D0 w hkb hcell d1
 have hc:=AnyZ.sorted_in Tryz.sorted42 Fence.wide 5 trivial trivial trivial trivial rfl (by omega) (R1 _) (enters_of Tryz.func62 (by kernel_rfl) rfl) 63 #[.pointer (some ⟨k,0,none⟩)] trivial (enters_of Tryz.func63 (by kernel_rfl) rfl) _ (Maps.size D0) (by rw[d3,hlen];have:=hk.1;have e:maxLen=9223372036854775807:=rfl;omega) (by rw[d3,hlen];exact hk.1) w hseq;refine(callsIn_wide.1 hc).mono ?_;rintro e w' ⟨v,ss,rfl,hS,hrow,hnil,hb⟩;have hp:ss.Perm (xs.map (·.1)):=hS.trans (by rw[← Uc enc xs];exact d2);have e1:ss.mergeSort (λx y=>decide (x≤y))=C6 xs:=mergeSort_of_perm hp;have e3:ss.length=(C6 xs).length:=by rw[← e1,List.length_mergeSort]
 rw[e1,e3] at hrow;exact⟨_,v,_,Z,rfl,⟨v,rfl,rfl⟩,rfl,hs.newrow hb hrow⟩
open Go Go.RowKit
set_option linter.unusedSimpArgs false
set_option maxRecDepth 100000
set_option maxHeartbeats 4000000
@[reducible] def Ai (x:Ae):List Rp:=[rS x.fKey,rB x.fDelete,AU 4 (AE Ab x.fValue),Am x.fIfVersion]
theorem Ck (x:Ae):(Ai x).length=4:=rfl
theorem Ml (x:Ae):(Ai x).all (·.one)=true:=rfl
@[reducible] def Au (x:Af):List Rp:=[rS x.fKey,AU 4 (AE Ab x.fValue),Am x.fVersion]
theorem JG (x:Af):(Au x).length=3:=rfl
theorem Oa (x:Af):(Au x).all (·.one)=true:=rfl
@[reducible] def Ad (x:Af):Rp:=BC (Au x)
theorem Gn (Z:Fz):(Ad (Af.mk ([]:Ag) ([]:(List Aa)) 0)).p Z (.agg #[(.string ⟨#[]⟩),(.slice none 0 0),(.int .i64 0)]):=⟨[.string ⟨#[]⟩,.slice none 0 0,.int .i64 0],rfl,rfl,Sk.nil _ _,rfl,trivial⟩
theorem ZA:∃inf,Tryz.prog.info? 35=some inf∧inf.zero=some (.agg #[(.string ⟨#[]⟩),(.slice none 0 0),(.int .i64 0)])∧inf.size=3∧inf.bytes=48:=by
  have key:(Tryz.prog.info? 35).map (λi=>(i.zero,i.size,i.bytes))=some (some (.agg #[(.string ⟨#[]⟩),(.slice none 0 0),(.int .i64 0)]),3,48):=by kernel_rfl
  obtain⟨inf,h1,h2⟩:=Option.map_eq_some_iff.1 key;simp only[Prod.mk.injEq] at h2;exact⟨inf,h1,h2.1,h2.2.1,h2.2.2⟩
theorem Tg (parts:List (Nat×Value)):Tryz.prog.built 35 parts=Instr.fill (λi=>(#[(0,1),(1,1),(2,1)]:Array (Nat×Nat))[i]?) #[(.string ⟨#[]⟩),((.slice none 0 0)),(.int .i64 0)] parts:=by kernel_rfl
theorem JX {n:Nat}{c:Cx}{l:Fr}{H:List Ent}{d:Option Nat}{ty:TypeId}{pos:String}{af:Array Edge}{g:Option (Nat×Bool)}:Bb Tryz.prog n c l H { dst:=d,op:=.build 35 #[],type:=ty,pos:=pos,after:=af,guard:=g } (BC [rS ([]:Ag),rv (.slice none 0 0),Am 0]):=λa w Z ha _=>by
  have hb:Tryz.prog.built 35 []=some #[(.string ⟨#[]⟩),((.slice none 0 0)),(.int .i64 0)]:=by
    rw[Tg];simp[Instr.fill,Value.cells]
  refine⟨.agg #[(.string ⟨#[]⟩),((.slice none 0 0)),(.int .i64 0)],⟨[(.string ⟨#[]⟩),((.slice none 0 0)),(.int .i64 0)],rfl,rfl,rfl,rfl,trivial⟩,?_⟩;have:=run_build w 35 #[] _ (by simpa using hb);simp[execOp,this]
theorem Mh {n:Nat}{c:Cx}{l:Fr}{H:List Ent}{d:Option Nat}{ty:TypeId}{pos:String}{af:Array Edge}{g:Option (Nat×Bool)}{x0:Operand}{r0:Rp}(h0:ev l x0=some r0)(u0:r0.one=true){x1:Operand}{r1:Rp}(h1:ev l x1=some r1)(u1:r1.one=true){x2:Operand}{r2:Rp}(h2:ev l x2=some r2)(u2:r2.one=true):Bb Tryz.prog n c l H { dst:=d,op:=.build 35 #[(0,x0),(1,x1),(2,x2)],type:=ty,pos:=pos,after:=af,guard:=g } (BC [r0,r1,r2]):=λa w Z ha _=>by
  have p0:=ha.ev h0;have c0:=B4 (r0.hone u0 Z _ p0);have p1:=ha.ev h1;have c1:=B4 (r1.hone u1 Z _ p1);have p2:=ha.ev h2;have c2:=B4 (r2.hone u2 Z _ p2);have hb:Tryz.prog.built 35 [(0,a.eval x0),(1,a.eval x1),(2,a.eval x2)]=some #[a.eval x0,a.eval x1,a.eval x2]:=by
    rw[Tg];generalize a.eval x0=v0 at *;generalize a.eval x1=v1 at *;generalize a.eval x2=v2 at *;simp[Instr.fill,c0,c1,c2]
  refine⟨.agg #[a.eval x0,a.eval x1,a.eval x2],⟨[a.eval x0,a.eval x1,a.eval x2],rfl,p0,p1,p2,trivial⟩,?_⟩;have:=run_build w 35 #[(0,a.eval x0),(1,a.eval x1),(2,a.eval x2)] _ (by simpa using hb);simp[execOp,this]
theorem YD (parts:List (Nat×Value)):Tryz.prog.built 59 parts=Instr.fill (λi=>(#[(0,1),(1,1)]:Array (Nat×Nat))[i]?) #[((.map none)),((.map none))] parts:=by kernel_rfl
theorem NT {n:Nat}{c:Cx}{l:Fr}{H:List Ent}{d:Option Nat}{ty:TypeId}{pos:String}{af:Array Edge}{g:Option (Nat×Bool)}{x0:Operand}{r0:Rp}(h0:ev l x0=some r0)(u0:r0.one=true){x1:Operand}{r1:Rp}(h1:ev l x1=some r1)(u1:r1.one=true):Bb Tryz.prog n c l H { dst:=d,op:=.build 59 #[(0,x0),(1,x1)],type:=ty,pos:=pos,after:=af,guard:=g } (BC [r0,r1]):=λa w Z ha _=>by
  have p0:=ha.ev h0;have c0:=B4 (r0.hone u0 Z _ p0);have p1:=ha.ev h1;have c1:=B4 (r1.hone u1 Z _ p1);have hb:Tryz.prog.built 59 [(0,a.eval x0),(1,a.eval x1)]=some #[a.eval x0,a.eval x1]:=by
    rw[YD];generalize a.eval x0=v0 at *;generalize a.eval x1=v1 at *;simp[Instr.fill,c0,c1]
  refine⟨.agg #[a.eval x0,a.eval x1],⟨[a.eval x0,a.eval x1],rfl,p0,p1,trivial⟩,?_⟩;have:=run_build w 59 #[(0,a.eval x0),(1,a.eval x1)] _ (by simpa using hb);simp[execOp,this]
theorem Re (ys:(List Aa))(r:(List Aa))(h:L6 ys=some r):Fn Tryz.prog GE 59 [AU 4 (AE Ab ys)] [] (λR H=>R=AU 4 (AE Ab r)∧H=[]):=by
 refine enter (n:=8) Tryz.func59 rfl Tryz.ntmps59 rfl (λw Z=>?_);unfold L6 at h;refine Ah (wa rfl (Aq (Ao (Ah (wm rfl (wv (TO CJ rfl) (Aq (Vb rfl (λc1=>?_) (λc1=>?_)))))))))
 ·have e2:ys=[]:=List.map_eq_nil_iff.1 (c1 rfl);have h3:some ([]:List Aa)=some r:=by rw[e2] at h;exact(Xf h).2
  refine Ah (wa rfl (Aq (Ay (Ac (WK.up (d:=2) (r:=AU 4 (AE Ab ([]:List Aa))) rfl (Up.le (Iw.nil _)) ?_)))));obtain rfl:=Az h3;exact Ax (Ct Tryz.results59 (AL rfl)) sN ⟨rfl,rfl⟩
 ·refine A2 (AP (Ah (AW (ys:=([]:List Aa)) (enc:=Ab) (css:=[]) (xs:=[]) CJ DR Me rfl rfl rfl trivial rfl Bo rfl rfl rfl (λb4=>?_))));refine wm rfl (ck h λg6 h7=>Exists.elim Ie λinf hinf=>Cb (xs:=([]:List Aa)) (ys:=ys) (enc:=Ab) (i:=0) CJ hinf.1 hinf.2.1 hinf.2.2.1 hinf.2.2.2 rfl rfl rfl rfl rfl (LD.z rfl rfl) Bo Cw g6 rfl (λv5=>?_));refine wa rfl (Aq (Ay (WK.freeze (i:=0) rfl (WK.up (d:=2) (r:=AU 4 (AE Ab (([]:List Aa)++ys))) rfl (Up.fact (i:=0) rfl) ?_))));obtain rfl:=Az h7;exact Ax (Ct Tryz.results59 (AL rfl)) (sS sN) ⟨rfl,rfl⟩
theorem Wr (F:Nat)(c:Ae)(r:Int)(h:Id F c=some r):Fn Tryz.prog GE 55 [BC (Ai c)] [] (λR H=>R=Am r∧H=[]):=by
 refine enter (n:=32) Tryz.func55 rfl Tryz.ntmps55 rfl (λw Z=>?_);unfold Id at h;refine Ah (Ej rfl rfl (λb1=>?_));refine wa rfl (Aq (Ao (AK (Ah (vF E1 rfl D1 (vL 0 Eb rfl (IZ (rs:=[rS c.fKey]) (r:=rB (PB c.fKey)) Tryz.call79 rfl (AaQ c.fKey) rfl rfl (wv (Cj rfl) (wa rfl (Aq (cz h rfl (λc2 h3=>?_) (λc2 h4=>?_))))))))))))
 ·refine Ah (wa rfl (Aq (Ay (A0 (Ac ?_)))));obtain rfl:=Az h3;exact Ax (Ct UR (AL rfl)) (sS sN) ⟨rfl,rfl⟩
 ·refine AO [(1,rP b1 0),(8,rB ((decide (c.fIfVersion<(-1)))||(decide (1000000000000<c.fIfVersion))))] [.blk b1 (Ai c) 50] ?_ ?_
  ·refine An (vF E1 rfl CD (vL 0 Du rfl (wv (Dv rfl rfl) (wm rfl (AY (decide (c.fIfVersion<(-1))) (λc5=>?_) (λc5=>?_))))))
   ·refine wf c5 (wf c5 (wf c5 (wv (r:=rB true) (A7 rfl c5 rfl) (wa rfl (At ?_)))));exact D3 c5
   ·refine wo c5 (vF E1 rfl CD (wo c5 (vL 0 Du rfl (wo c5 (wv (DM rfl rfl) (Lf rfl c5 rfl (wa rfl (At ?_))))))));exact D3 c5
  refine cz h4 rfl (λc6 h7=>?_) (λc6 h8=>?_)
  ·refine Ah (wa rfl (Aq (Ay (A0 (Ac ?_)))));obtain rfl:=Az h7;exact Ax (Ct UR (AL rfl)) (sS sN) ⟨rfl,rfl⟩
  ·refine AO [(1,rP b1 0),(17,rB (c.fDelete&&(decide (0<(c.fValue.length:Int)))))] [.blk b1 (Ai c) 50] ?_ ?_
   ·refine An (vF E1 rfl GW (vL 0 PM rfl (wm rfl (AY (c.fDelete) (λc9=>?_) (λc9=>?_)))))
    ·refine wo c9 (vF E1 rfl CS (wo c9 (vL 0 G5 rfl (wo c9 (wv (B8 (ys:=c.fValue) (enc:=Ab) CJ rfl) (wo c9 (wv (DM rfl rfl) (Kf rfl c9 rfl (wa rfl (At ?_))))))))));exact D3 c9
    ·refine wf c9 (wf c9 (wf c9 (wf c9 (wv (r:=rB false) (AM rfl c9 rfl) (wa rfl (At ?_))))));exact D3 c9
   refine cz h8 rfl (λha hb=>?_) (λha hd=>?_)
   ·refine Ah (wa rfl (Aq (Ay (A0 (Ac ?_)))));obtain rfl:=Az hb;exact Ax (Ct UR (AL rfl)) (sS sN) ⟨rfl,rfl⟩
   ·refine Ah (vF E1 rfl GW (vL 0 PM rfl (wa rfl (Aq (cz hd rfl (λhe hf=>?_) (λhe hg=>?_))))))
    ·refine Ah (wa rfl (Aq (Ay (A0 (Ac ?_)))));obtain rfl:=Az hf;exact Ax (Ct UR (AL rfl)) (sS sN) ⟨rfl,rfl⟩
    ·refine A2 (AJ (AP (Ah (vF E1 rfl CS (vL 0 G5 rfl (ob hg λhh hi hj=>Gb Tryz.call80 (MP F c.fValue hh hi) rfl (wa rfl (Aq (Ay ?_)))))))));obtain rfl:=Az hj;exact Ax (Ct UR (AL rfl)) (sS sN) ⟨rfl,rfl⟩
theorem Nu (F:Nat)(l:(List Ae))(r:Int)(h:GJ F l=some r):Fn Tryz.prog GE 35 [AU 4 (AE Ai l)] [] (λR H=>R=Am r∧H=[]):=by
 refine enter (n:=21) Tryz.func35 rfl Tryz.ntmps35 rfl (λw Z=>?_);unfold GJ at h;refine Ah (wa rfl (Aq (Ao (Ah (wm rfl (wv (B8 (ys:=l) (enc:=Ai) Hi rfl) (wv (DM rfl rfl) (Aq (cz h rfl (λc1 h2=>?_) (λc1 h3=>?_))))))))))
 ·refine Ah (wa rfl (Aq (Ay (Ac ?_))));obtain rfl:=Az h2;exact Ax (Ct Tryz.results35 (AL rfl)) sN ⟨rfl,rfl⟩
 ·refine A2 (AP (Ao (Ah (wm rfl (wv (B8 (ys:=l) (enc:=Ai) Hi rfl) (wv (r:=Am 0) (Al rfl) (Aq (AK (ob h3 λhg hh hf=>B0 (S:=Nat×(Int)×(Unit)) (V:=(Unit)×(Unit)) 0 (λσ=>BE (λσ=>CB F l σ) σ.1 σ.2.1=some hg) (λσ=>[(2,Am 0),(9,AU 4 (AE Ai l)),(10,Am (l.length:Int)),(11,Am σ.2.1)]) (λσ=>[]) (λσ=>σ.1) (F,0,()) hh (AD.c rfl (AD.c rfl (AD.c rfl (AD.c rfl AD.nil)))) sN (λσ=>Jp =some r) (λσ=>[(2,Am 0)]) (λσ=>[]) ?_ ?_)))))))))
  ·rintro⟨h5,ha,⟨⟩⟩ hi;refine BY (l':=[(2,Am 0),(9,AU 4 (AE Ai l)),(10,Am (l.length:Int)),(11,Am ha)]) (H':=[]) rfl rfl ?_;obtain⟨hj,rfl,hk,hb,he⟩:=CO hi;replace hb:CB F l ha=some hk:=hb;unfold CB at hb;refine Ah (wv (Dv rfl rfl) (Aq (Ao (cz hb rfl (λhl hm=>?_) (λhl hn=>?_)))))
   ·refine A2 (AP (Ao (AK (Ah (ck hm λho hp=>wv (BB (enc:=Ai) (ys:=l) Hi Dt rfl rfl ho) (wv (EF Kk Dt rfl rfl rfl) (BN (cs:=[rS ([]:Ag),rB false,rv (.slice none 0 0),Am 0]) Lh rfl rfl (λhq=>?_))))))));refine Bh (i:=0) Dt rfl rfl rfl (BK.c rfl) rfl rfl (cs':=[rS ((Ap l ha).fKey),rB ((Ap l ha).fDelete),AU 4 (AE Ab ((Ap l ha).fValue)),Am ((Ap l ha).fIfVersion)]) rfl (H':=[.blk hq (Ai (Ap l ha)) 50]) rfl (Bx (wv (BH (i:=0) Kk Dt rfl rfl rfl rfl) (ob hp λhr hs ht=>Gb Tryz.call55 (Wr F (Ap l ha) hr hs) rfl (wa rfl (Bx (wm rfl (wv (Dj rfl rfl) (Aq (cz ht rfl (λhu hw=>?_) (λhu hx=>?_))))))))))
    ·refine Ah (wm rfl (wa rfl (Aq (Ay (A0 (Ac (Ac (AX ?_))))))));have hy:=B2 hw he hf;refine A0 (Ac ?_);obtain rfl:=Az hy;exact Ax (Ct Tryz.results35 (AL rfl)) (sS sN) ⟨rfl,rfl⟩
    ·refine A2 (AJ (AP (An (ck hx λhz h0=>wv (BL rfl rfl hz) (wm rfl (At ?_))))));have h1:=B6 h0 he;exact A4 (AG (hj,ha+1,()) ⟨h1,Ab1 _⟩ (AD.c rfl (AD.c rfl (AD.c rfl (AD.c rfl AD.nil)))) (sS sN))
   ·refine B1 (A3 ?_);have h4:=Cm hn he hf;exact A3 (Bj (AG ((),()) h4 (AD.c rfl AD.nil) sN))
  ·rintro⟨⟨⟩,⟨⟩⟩ hd;refine CU (l':=[(2,Am 0)]) (H':=[]) rfl rfl ?_;replace hd:Jp =some r:=hd;unfold Jp at hd;refine Be (AP (Ah (wa rfl (Aq (Ay ?_)))));obtain rfl:=Az hd;exact Ax (Ct Tryz.results35 (AL rfl)) sN ⟨rfl,rfl⟩
theorem RS  (r:AB)(h:Um=some r):Fn Tryz.prog GE 11 [] [] (λR H=>∃u0:Nat,∃u0_0:Nat,∃u0_1:Nat,R=rP u0 0∧H=[.blk u0 [rv (.map (some u0_0)),rv (.map (some u0_1))] 59,.map u0_0 (AH Ad r.fItems),.map u0_1 (AH Ad r.fChanged)]):=by
 refine enter (n:=5) Tryz.func11 rfl Tryz.ntmps11 rfl (λw Z=>?_);unfold Um at h;refine Ah (wa rfl (Bx (Of rfl (λb1=>?_))));refine Of rfl (λb2=>?_);refine wv (r:=BC [rv (.map (some b1)),rv (.map (some b2))]) (NT rfl rfl rfl rfl) (Ej rfl rfl (λb3=>?_));refine wa rfl (Aq (Ay (Ca (H2:=[.blk b3 [rv (.map (some b1)),rv (.map (some b2))] 59,.map b1 (AH Ad ([]:List (Ag×Af))),.map b2 (AH Ad ([]:List (Ag×Af)))]) ((Aj (i:=0) rfl).trans (Abn _ ((Aj (i:=1) rfl).trans (Abn _ (Abo _))))) ?_)));obtain rfl:=Az h;exact Ax (Ct Tryz.results11 (AL rfl)) (sC (sC (sC sN))) ⟨b3,b1,b2,rfl,rfl⟩
theorem KO (hd:Nat)(ha:Nat)(hb:Nat)(q:AB)(r:Bool×AB)(h:JF q=some r):Fn Tryz.prog GE 34 [rP hd 0] [.blk hd [rv (.map (some ha)),rv (.map (some hb))] 59,.map ha (AH Ad q.fItems),.map hb (AH Ad q.fChanged)] (λR H=>R=rB r.1∧H=[.blk hd [rv (.map (some ha)),rv (.map (some hb))] 59,.map ha (AH Ad r.2.fItems),.map hb (AH Ad r.2.fChanged)]):=by
 refine enter (n:=12) Tryz.func34 rfl Tryz.ntmps34 rfl (λw Z=>?_);unfold JF at h;refine Ah (wa rfl (Aq (AO [(2,rB true)] [.blk hd [rv (.map (some ha)),rv (.map (some hb))] 59,.map ha (AH Ad q.fItems),.map hb (AH Ad q.fChanged)] ?_ ?_)))
 ·refine An (wm rfl (wv (r:=rB true) (TP ⟨_,X1⟩ rfl) (wm rfl (Bg (b:=true) rfl rfl rfl (wm rfl (Bg (b:=true) rfl rfl rfl (wv (Ar rfl) (Bg (b:=true) rfl rfl rfl (vF JI rfl JJ (Bg (b:=true) rfl rfl rfl (vL 0 JK rfl (Bg (b:=true) rfl rfl rfl (wv (r:=rB true) (TQ (v:=some ha) Kh rfl) (wv (r:=rB true) (A7 (b:=true) rfl rfl rfl) (wa rfl (At ?_))))))))))))))));exact wt
 refine Ay ?_;obtain rfl:=Az h;exact Ax (Ct Tryz.results34 (AL rfl)) (sC (sC (sC sN))) ⟨rfl,rfl⟩
theorem Z5 (hd:Nat)(ha:Nat)(hb:Nat)(q:AB)(key:Ag)(r:Af×AB)(h:Wq q key=some r):Fn Tryz.prog GE 58 [rP hd 0,rS key] [.blk hd [rv (.map (some ha)),rv (.map (some hb))] 59,.map ha (AH Ad q.fItems),.map hb (AH Ad q.fChanged)] (λR H=>R=BC (Au r.1)∧H=[.blk hd [rv (.map (some ha)),rv (.map (some hb))] 59,.map ha (AH Ad r.2.fItems),.map hb (AH Ad r.2.fChanged)]):=by
 refine enter (n:=24) Tryz.func58 rfl Tryz.ntmps58 rfl (λw Z=>?_);unfold Wq at h;refine Ah (BN (cs:=[rS ([]:Ag),rv (.slice none 0 0),Am 0]) Li rfl rfl (λb1=>?_));refine Aq (Ao (Ah (wm rfl (wv (Ar rfl) (vF JI rfl JJ (vL 1 JK rfl (wm rfl (wv (r:=C2 [BC [rS ((Cn q.fChanged key (Af.mk ([]:Ag) ([]:(List Aa)) 0)).fKey),AU 4 (AE Ab ((Cn q.fChanged key (Af.mk ([]:Ag) ([]:(List Aa)) 0)).fValue)),Am ((Cn q.fChanged key (Af.mk ([]:Ag) ([]:(List Aa)) 0)).fVersion)],rB (Ce q.fChanged key)]) (SH (enc:=Ad) (xs:=q.fChanged) (z:=Af.mk ([]:Ag) ([]:(List Aa)) 0) (i:=3) Kh C3 Li Gn rfl rfl rfl) (wm rfl (wv (AF rfl rfl) (wv (AF rfl rfl) (BN (cs:=[rS ([]:Ag),rv (.slice none 0 0),Am 0]) Li rfl rfl (λb2=>?_)))))))))))));refine Bh (i:=0) DS rfl rfl rfl (BK.c rfl) rfl rfl (cs':=[rS ((Cn q.fChanged key (Af.mk ([]:Ag) ([]:(List Aa)) 0)).fKey),AU 4 (AE Ab ((Cn q.fChanged key (Af.mk ([]:Ag) ([]:(List Aa)) 0)).fValue)),Am ((Cn q.fChanged key (Af.mk ([]:Ag) ([]:(List Aa)) 0)).fVersion)]) rfl (H':=[.blk b2 [rS ((Cn q.fChanged key (Af.mk ([]:Ag) ([]:(List Aa)) 0)).fKey),AU 4 (AE Ab ((Cn q.fChanged key (Af.mk ([]:Ag) ([]:(List Aa)) 0)).fValue)),Am ((Cn q.fChanged key (Af.mk ([]:Ag) ([]:(List Aa)) 0)).fVersion)] 35,.blk b1 [rS ([]:Ag),rv (.slice none 0 0),Am 0] 35,.blk hd [rv (.map (some ha)),rv (.map (some hb))] 59,.map ha (AH Ad q.fItems),.map hb (AH Ad q.fChanged)]) rfl (wa rfl (Bx (wm rfl (Aq (cz h rfl (λc3 h4=>?_) (λc3 h5=>?_))))))
 ·refine Ah (wv (BH (i:=0) OT DS rfl rfl rfl rfl) (Bh (i:=1) DS rfl rfl rfl (BK.c rfl) rfl rfl (cs':=[rS ((Cn q.fChanged key (Af.mk ([]:Ag) ([]:(List Aa)) 0)).fKey),AU 4 (AE Ab ((Cn q.fChanged key (Af.mk ([]:Ag) ([]:(List Aa)) 0)).fValue)),Am ((Cn q.fChanged key (Af.mk ([]:Ag) ([]:(List Aa)) 0)).fVersion)]) rfl (H':=[.blk b2 [rS ((Cn q.fChanged key (Af.mk ([]:Ag) ([]:(List Aa)) 0)).fKey),AU 4 (AE Ab ((Cn q.fChanged key (Af.mk ([]:Ag) ([]:(List Aa)) 0)).fValue)),Am ((Cn q.fChanged key (Af.mk ([]:Ag) ([]:(List Aa)) 0)).fVersion)] 35,.blk b1 [rS ((Cn q.fChanged key (Af.mk ([]:Ag) ([]:(List Aa)) 0)).fKey),AU 4 (AE Ab ((Cn q.fChanged key (Af.mk ([]:Ag) ([]:(List Aa)) 0)).fValue)),Am ((Cn q.fChanged key (Af.mk ([]:Ag) ([]:(List Aa)) 0)).fVersion)] 35,.blk hd [rv (.map (some ha)),rv (.map (some hb))] 59,.map ha (AH Ad q.fItems),.map hb (AH Ad q.fChanged)]) rfl (Aq (Ay (Ac ?_)))));obtain rfl:=Az h4;exact Ax (Ct Tryz.results58 (Gh (i:=1) OT DS rfl rfl rfl)) (sS (sS (sC (sC (sC sN))))) ⟨rfl,rfl⟩
 ·refine A2 (AP (Ah (wm rfl (wv (Ar rfl) (vF JI rfl JJ (vL 2 JK rfl (wm rfl (wv (r:=BC [rS ((Cn q.fItems key (Af.mk ([]:Ag) ([]:(List Aa)) 0)).fKey),AU 4 (AE Ab ((Cn q.fItems key (Af.mk ([]:Ag) ([]:(List Aa)) 0)).fValue)),Am ((Cn q.fItems key (Af.mk ([]:Ag) ([]:(List Aa)) 0)).fVersion)]) (VR (enc:=Ad) (xs:=q.fItems) (z:=Af.mk ([]:Ag) ([]:(List Aa)) 0) (i:=3) Kh C3 Li Gn rfl rfl rfl) (Bh (i:=1) DS rfl rfl rfl (BK.c rfl) rfl rfl (cs':=[rS ((Cn q.fItems key (Af.mk ([]:Ag) ([]:(List Aa)) 0)).fKey),AU 4 (AE Ab ((Cn q.fItems key (Af.mk ([]:Ag) ([]:(List Aa)) 0)).fValue)),Am ((Cn q.fItems key (Af.mk ([]:Ag) ([]:(List Aa)) 0)).fVersion)]) rfl (H':=[.blk b2 [rS ((Cn q.fChanged key (Af.mk ([]:Ag) ([]:(List Aa)) 0)).fKey),AU 4 (AE Ab ((Cn q.fChanged key (Af.mk ([]:Ag) ([]:(List Aa)) 0)).fValue)),Am ((Cn q.fChanged key (Af.mk ([]:Ag) ([]:(List Aa)) 0)).fVersion)] 35,.blk b1 [rS ((Cn q.fItems key (Af.mk ([]:Ag) ([]:(List Aa)) 0)).fKey),AU 4 (AE Ab ((Cn q.fItems key (Af.mk ([]:Ag) ([]:(List Aa)) 0)).fValue)),Am ((Cn q.fItems key (Af.mk ([]:Ag) ([]:(List Aa)) 0)).fVersion)] 35,.blk hd [rv (.map (some ha)),rv (.map (some hb))] 59,.map ha (AH Ad q.fItems),.map hb (AH Ad q.fChanged)]) rfl (Aq (Ay ?_)))))))))));obtain rfl:=Az h5;exact Ax (Ct Tryz.results58 (Gh (i:=1) OT DS rfl rfl rfl)) (sS (sS (sC (sC (sC sN))))) ⟨rfl,rfl⟩
theorem Uq (hb:Nat)(hd:Nat)(ha:Nat)(q:AB)(c:Ae)(size:Int)(r:Int×Int×AB)(h:Jr q c size=some r):Fn Tryz.prog GE 36 [rP hb 0,BC (Ai c),Am size] [.blk hb [rv (.map (some hd)),rv (.map (some ha))] 59,.map hd (AH Ad q.fItems),.map ha (AH Ad q.fChanged)] (λR H=>R=C2 [Am r.1,Am r.2.1]∧H=[.blk hb [rv (.map (some hd)),rv (.map (some ha))] 59,.map hd (AH Ad r.2.2.fItems),.map ha (AH Ad r.2.2.fChanged)]):=by
 refine enter (n:=74) Tryz.func36 rfl Tryz.ntmps36 rfl (λw Z=>?_);unfold Jr at h;refine Ah (Ej rfl rfl (λb1=>?_));refine wa rfl (wa rfl (Bx (wm rfl (vF E1 rfl D1 (vL 0 Eb rfl (ob h λr2 e4 h3=>DY (Hr:=[.blk b1 (Ai c) 50]) Tryz.call58 (Z5 hb hd ha q c.fKey r2 e4) rfl ((Aj (i:=1) rfl).trans (Abn _ ((Aj (i:=1) rfl).trans (Abn _ ((Aj (i:=1) rfl).trans (Abn _ (Abo _))))))) rfl ?_))))));rintro _ _ ⟨rfl,rfl⟩;refine BN (cs:=[rS ([]:Ag),rv (.slice none 0 0),Am 0]) Li rfl rfl (λb5=>?_);refine Bh (i:=0) DS rfl rfl rfl (BK.c rfl) rfl rfl (cs':=[rS r2.1.fKey,AU 4 (AE Ab r2.1.fValue),Am r2.1.fVersion]) rfl (H':=[.blk b5 (Au r2.1) 35,.blk hb [rv (.map (some hd)),rv (.map (some ha))] 59,.map hd (AH Ad r2.2.fItems),.map ha (AH Ad r2.2.fChanged),.blk b1 (Ai c) 50]) rfl (Aq (CE (S:=(Int)×(Unit)) (λσ=>EG c r2 σ.1=some r) (λσ=>[(0,rP hb 0),(2,Am σ.1),(4,rP b1 0),(8,rP b5 0)]) (λσ=>[.blk b5 (Au r2.1) 35,.blk hb [rv (.map (some hd)),rv (.map (some ha))] 59,.map hd (AH Ad r2.2.fItems),.map ha (AH Ad r2.2.fChanged),.blk b1 (Ai c) 50]) ?_ ?_))
 ·refine AK (AO [(0,rP hb 0),(2,Am size),(4,rP b1 0),(8,rP b5 0),(13,rB ((decide (0≤c.fIfVersion))&&(!decide (c.fIfVersion=r2.1.fVersion))))] [.blk b5 (Au r2.1) 35,.blk hb [rv (.map (some hd)),rv (.map (some ha))] 59,.map hd (AH Ad r2.2.fItems),.map ha (AH Ad r2.2.fChanged),.blk b1 (Ai c) 50] ?_ ?_)
  ·refine An (vF E1 rfl CD (vL 4 Du rfl (wv (J2 rfl rfl) (wm rfl (AY (decide (0≤c.fIfVersion)) (λhe=>?_) (λhe=>?_))))))
   ·refine wo he (vF E1 rfl CD (wo he (vL 4 Du rfl (wo he (vF GT rfl CD (wo he (vL 0 Du rfl (wo he (wv (Dj rfl rfl) (Kf rfl he rfl (wa rfl (At ?_))))))))))));exact D3 he
   ·refine wf he (wf he (wf he (wf he (wf he (wv (r:=rB false) (AM rfl he rfl) (wa rfl (At ?_)))))));exact D3 he
  refine cz h3 rfl (λhj hk=>?_) (λhj hl=>?_)
  ·refine Ah (wa rfl (wa rfl (Aq (Ay (A0 (Ac ?_))))));obtain rfl:=Az hk;exact Ax (EB Tp (AL rfl) (AL rfl)) (sS (sC (sC (sC (sS sN))))) ⟨rfl,rfl⟩
  ·refine Ah (vF E1 rfl GW (vL 4 PM rfl (wa rfl (Aq (cz hl rfl (λhm hn=>?_) (λhm ho=>?_))))))
   ·refine Ao (Ah (vF GT rfl CD (vL 0 Du rfl (wv (DM rfl rfl) (Aq (cz hn rfl (λc37 hp=>?_) (λc37 hq=>?_)))))))
    ·refine An (wm rfl (ck hp λhr hs=>wv (LQ rfl rfl hr) (wa rfl (Aq (Ao (GX 7 [0,2,4] [⟨[],rP hb 0,none,none,none⟩,⟨[0],rP hb 0,none,none,none⟩,⟨[1],rP hb 1,none,none,none⟩,⟨[2],rv (.map (some ha)),none,none,none⟩,⟨[],rP b1 0,none,none,none⟩,⟨[4],rS c.fKey,none,none,none⟩,⟨[],BC [rS ([]:Ag),rv (.slice none 0 0),Am 0],none,none,none⟩] ?_ (λβ=>?_)))))))
     ·refine Gc (Al rfl) (Gc (Ar rfl) (Gc (A5 JI rfl JJ rfl rfl) (VL (AT (i:=1) JK rfl rfl rfl) (Gc (A5 E1 rfl D1 rfl rfl) (VL (AT (i:=4) Eb rfl rfl rfl) (Gc (JX ) ?_))))));exact YN
     refine HU (H1:=[.blk b5 (Au r2.1) 35,.blk hb [rv (.map (some hd)),rv (.map (some ha))] 59,.map hd (AH Ad r2.2.fItems),.map ha (AH Ad r2.2.fChanged),.blk b1 (Ai c) 50]) [32,33,34,35,36,37,38,0,2,4] ?_;refine WL.up (d:=38) (r:=BC [rS ([]:Ag),AU 4 (AE Ab ([]:List Aa)),Am 0]) rfl (Up.agg ⟨Up.refl _,Up.le (Iw.nil _),Up.refl _,trivial⟩) (Mt (enc:=Ad) (xs:=r2.2.fChanged) (v:=(Af.mk ([]:Ag) ([]:List Aa) 0)) (i:=3) Kh C3 rfl rfl rfl rfl (H':=[.blk b5 (Au r2.1) 35,.blk hb [rv (.map (some hd)),rv (.map (some ha))] 59,.map hd (AH Ad r2.2.fItems),.map ha (AH Ad (mset r2.2.fChanged c.fKey (Af.mk ([]:Ag) ([]:List Aa) 0))),.blk b1 (Ai c) 50]) rfl (Bx (wm rfl (wa rfl (wa rfl (Aq (Ay (A0 (Ac ?_)))))))));obtain rfl:=Az hs;exact Ax (EB Tp (AL rfl) (AL rfl)) (sS (sC (sC (sC (sS sN))))) ⟨rfl,rfl⟩
    ·refine A2 (AP (Ao (GX 7 [0,2,4] [⟨[],rP hb 0,none,none,none⟩,⟨[0],rP hb 0,none,none,none⟩,⟨[1],rP hb 1,none,none,none⟩,⟨[2],rv (.map (some ha)),none,none,none⟩,⟨[],rP b1 0,none,none,none⟩,⟨[4],rS c.fKey,none,none,none⟩,⟨[],BC [rS ([]:Ag),rv (.slice none 0 0),Am 0],none,none,none⟩] ?_ (λβ=>?_))))
     ·refine Gc (Al rfl) (Gc (Ar rfl) (Gc (A5 JI rfl JJ rfl rfl) (VL (AT (i:=1) JK rfl rfl rfl) (Gc (A5 E1 rfl D1 rfl rfl) (VL (AT (i:=4) Eb rfl rfl rfl) (Gc (JX ) ?_))))));exact YN
     refine HU (H1:=[.blk b5 (Au r2.1) 35,.blk hb [rv (.map (some hd)),rv (.map (some ha))] 59,.map hd (AH Ad r2.2.fItems),.map ha (AH Ad r2.2.fChanged),.blk b1 (Ai c) 50]) [32,33,34,35,36,37,38,0,2,4] ?_;refine WL.up (d:=38) (r:=BC [rS ([]:Ag),AU 4 (AE Ab ([]:List Aa)),Am 0]) rfl (Up.agg ⟨Up.refl _,Up.le (Iw.nil _),Up.refl _,trivial⟩) (Mt (enc:=Ad) (xs:=r2.2.fChanged) (v:=(Af.mk ([]:Ag) ([]:List Aa) 0)) (i:=3) Kh C3 rfl rfl rfl rfl (H':=[.blk b5 (Au r2.1) 35,.blk hb [rv (.map (some hd)),rv (.map (some ha))] 59,.map hd (AH Ad r2.2.fItems),.map ha (AH Ad (mset r2.2.fChanged c.fKey (Af.mk ([]:Ag) ([]:List Aa) 0))),.blk b1 (Ai c) 50]) rfl (Bx (wm rfl (wa rfl (wa rfl (Aq (Ay (A0 (Ac ?_)))))))));obtain rfl:=Az hq;exact Ax (EB Tp (AL rfl) (AL rfl)) (sS (sC (sC (sC (sS sN))))) ⟨rfl,rfl⟩
   ·refine AO [(0,rP hb 0),(2,Am size),(4,rP b1 0),(8,rP b5 0),(40,rB ((decide (r2.1.fVersion=0))&&(decide (256≤size))))] [.blk b5 (Au r2.1) 35,.blk hb [rv (.map (some hd)),rv (.map (some ha))] 59,.map hd (AH Ad r2.2.fItems),.map ha (AH Ad r2.2.fChanged),.blk b1 (Ai c) 50] ?_ ?_
    ·refine An (vF GT rfl CD (vL 0 Du rfl (wv (BT rfl rfl) (wm rfl (AY (decide (r2.1.fVersion=0)) (λhf=>?_) (λhf=>?_))))))
     ·refine wo hf (wm rfl (wo hf (wv (J2 rfl rfl) (Kf rfl hf rfl (wa rfl (At ?_))))));exact D3 hf
     ·refine wf hf (wf hf (wv (r:=rB false) (AM rfl hf rfl) (wa rfl (At ?_))));exact D3 hf
    refine cz ho rfl (λht hu=>?_) (λht hw=>?_)
    ·refine Ah (wa rfl (wa rfl (Aq (Ay (A0 (Ac ?_))))));obtain rfl:=Az hu;exact Ax (EB Tp (AL rfl) (AL rfl)) (sS (sC (sC (sC (sS sN))))) ⟨rfl,rfl⟩
    ·refine Ah (vF GT rfl CD (vL 0 Du rfl (wv (J2 rfl rfl) (wa rfl (Aq (cz hw rfl (λhx hy=>?_) (λhx hz=>?_)))))))
     ·refine Ah (wa rfl (wa rfl (Aq (Ay (A0 (Ac ?_))))));obtain rfl:=Az hy;exact Ax (EB Tp (AL rfl) (AL rfl)) (sS (sC (sC (sC (sS sN))))) ⟨rfl,rfl⟩
     ·refine Ah (vF GT rfl CD (vL 0 Du rfl (wv (BT rfl rfl) (wa rfl (Aq (cz hz rfl (λh0 h1=>?_) (λh0 h2=>?_)))))))
      ·exact An (wm rfl (ck h1 λh4 h5=>wv (BL rfl rfl h4) (wa rfl (At (AJ (A4 (AG (size+1,()) h5 (AD.c rfl (AD.c rfl (AD.c rfl (AD.c rfl AD.nil)))) (sC (sC (sC (sC (sC sN))))))))))))
      ·exact A2 (AJ (A4 (AG (size,()) h2 (AD.c rfl (AD.c rfl (AD.c rfl (AD.c rfl AD.nil)))) (sC (sC (sC (sC (sC sN))))))))
 ·rintro⟨hi,⟨⟩⟩ hh;refine BY (l':=[(0,rP hb 0),(2,Am hi),(4,rP b1 0),(8,rP b5 0)]) (H':=[.blk b5 (Au r2.1) 35,.blk hb [rv (.map (some hd)),rv (.map (some ha))] 59,.map hd (AH Ad r2.2.fItems),.map ha (AH Ad r2.2.fChanged),.blk b1 (Ai c) 50]) rfl rfl ?_;replace hh:EG c r2 hi=some r:=hh;unfold EG at hh;refine Ao (ob hh λhg h6 h7=>ck h7 λh8 h9=>GX 15 [0,2,4,8] [⟨[],rP hb 0,none,none,none⟩,⟨[0],rP hb 0,none,none,none⟩,⟨[1],rP hb 1,none,none,none⟩,⟨[2],rv (.map (some ha)),none,none,none⟩,⟨[],rP b1 0,none,none,none⟩,⟨[4],rS c.fKey,none,none,none⟩,⟨[],rP b1 0,none,none,none⟩,⟨[6],rS c.fKey,none,none,none⟩,⟨[],rP b1 2,none,none,none⟩,⟨[8],AU 4 (AE Ab c.fValue),none,none,none⟩,⟨[9],AU 4 (AE Ab hg),none,none,none⟩,⟨[],rP b5 2,none,none,none⟩,⟨[11],Am r2.1.fVersion,none,none,none⟩,⟨[12],Am (r2.1.fVersion+1),none,none,none⟩,⟨[7,10,13],BC [rS c.fKey,AU 4 (AE Ab hg),Am (r2.1.fVersion+1)],none,none,none⟩] ?_ (λβ=>?_))
  ·refine Gc (Al rfl) (Gc (Ar rfl) (Gc (A5 JI rfl JJ rfl rfl) (VL (AT (i:=1) JK rfl rfl rfl) (Gc (A5 E1 rfl D1 rfl rfl) (VL (AT (i:=4) Eb rfl rfl rfl) (Gc (A5 E1 rfl D1 rfl rfl) (VL (AT (i:=4) Eb rfl rfl rfl) (Gc (A5 E1 rfl CS rfl rfl) (VL (AT (i:=4) G5 rfl rfl rfl) (oac (KD Tryz.call59 (Re c.fValue hg h6) rfl) (Gc (A5 GT rfl CD rfl rfl) (VL (AT (i:=0) Du rfl rfl rfl) (Gc (BL rfl rfl h8) (Gc (Mh rfl rfl rfl rfl rfl rfl) ?_))))))))))))));exact YN
  refine HU (H1:=[.blk b5 (Au r2.1) 35,.blk hb [rv (.map (some hd)),rv (.map (some ha))] 59,.map hd (AH Ad r2.2.fItems),.map ha (AH Ad r2.2.fChanged),.blk b1 (Ai c) 50]) [58,59,60,61,62,63,64,65,66,67,68,69,70,71,72,0,2,4,8] ?_;refine Mt (enc:=Ad) (xs:=r2.2.fChanged) (v:=(Af.mk c.fKey hg (r2.1.fVersion+1))) (i:=3) Kh C3 rfl rfl rfl rfl (H':=[.blk b5 (Au r2.1) 35,.blk hb [rv (.map (some hd)),rv (.map (some ha))] 59,.map hd (AH Ad r2.2.fItems),.map ha (AH Ad (mset r2.2.fChanged c.fKey (Af.mk c.fKey hg (r2.1.fVersion+1)))),.blk b1 (Ai c) 50]) rfl (Bx (wm rfl (wa rfl (wa rfl (Aq (Ay ?_))))));obtain rfl:=Az h9;exact Ax (EB Tp (AL rfl) (AL rfl)) (sS (sC (sC (sC (sS sN))))) ⟨rfl,rfl⟩
theorem GM (F:Nat)(hd:Nat)(ha:Nat)(hb:Nat)(q:AB)(l:(List Ae))(r:Int×AB)(h:Gd F q l=some r):Fn Tryz.prog GE 13 [rP hd 0,AU 4 (AE Ai l)] [.blk hd [rv (.map (some ha)),rv (.map (some hb))] 59,.map ha (AH Ad q.fItems),.map hb (AH Ad q.fChanged)] (λR H=>R=Am r.1∧H=[.blk hd [rv (.map (some ha)),rv (.map (some hb))] 59,.map ha (AH Ad r.2.fItems),.map hb (AH Ad r.2.fChanged)]):=by
 refine enter (n:=72) Tryz.func13 rfl Tryz.ntmps13 rfl (λw Z=>?_);unfold Gd at h;refine Ah (wa rfl (Aq (Ao (Ah (wm rfl (ob h λr1 e3 h2=>DY (Hr:=[]) UU (KO hd ha hb q r1 e3) rfl (Abo _) rfl ?_))))));rintro _ _ ⟨rfl,rfl⟩;refine wv (Cj rfl) (Aq (cz h2 rfl (λc4 h5=>?_) (λc4 h6=>?_)))
 ·refine Ah (wa rfl (Aq (Ay (Ac ?_))));obtain rfl:=Az h5;exact Ax (Ct X7 (AL rfl)) (sC (sC (sC sN))) ⟨rfl,rfl⟩
 ·refine A2 (AP (Ao (Ah (wm rfl (ob h6 λr7 e9 h8=>Gb Tryz.call35 (Nu F l r7 e9) rfl (wa rfl (Bx (wm rfl (wv (Dj rfl rfl) (Aq (cz h8 rfl (λh9 hA=>?_) (λh9 hB=>?_))))))))))))
  ·refine Ah (wm rfl (wa rfl (Aq (Ay (Ac ?_)))));obtain rfl:=Az hA;exact Ax (Ct X7 (AL rfl)) (sC (sC (sC sN))) ⟨rfl,rfl⟩
  ·refine A2 (AP (Ah (wm rfl (wv (Ar rfl) (vF JI rfl JJ (vL 0 JK rfl (Vi (i:=2) Kh rfl rfl (H':=[.blk hd [rv (.map (some ha)),rv (.map (some hb))] 59,.map ha (AH Ad r1.2.fItems),.map hb (AH Ad ([]:List (Ag×Af)))]) rfl (Bx (wm rfl (wv (Ar rfl) (vF JI rfl JJ (vL 0 JK rfl (wv (r:=Am (r1.2.fItems.length:Int)) (VQ (N:=r1.2.fItems.length) (i:=1) Kh rfl rfl (Hb _ _)) (wa rfl (Aq (Ao (Ah (wm rfl (wv (B8 (ys:=l) (enc:=Ai) Hi rfl) (wv (r:=Am 0) (Al rfl) (Aq (AK (ob hB λhC hD hz=>?_)))))))))))))))))))))));refine B0 (S:=Nat×(Int×Int×(List (Ag×Af))×(List (Ag×Af)))×(Unit)) (V:=((List (Ag×Af))×(List (Ag×Af)))×(Unit)) 0 (λσ=>BE (λσ=>DO l σ.1 σ.2.1 σ.2.2.1 σ.2.2.2) σ.1 σ.2.1=some hC) (λσ=>[(0,rP hd 0),(4,Am 0),(6,Am σ.2.1.1),(30,AU 4 (AE Ai l)),(31,Am (l.length:Int)),(32,Am σ.2.1.2.1)]) (λσ=>[.blk hd [rv (.map (some ha)),rv (.map (some hb))] 59,.map ha (AH Ad σ.2.1.2.2.1),.map hb (AH Ad σ.2.1.2.2.2)]) (λσ=>σ.1) (F,((r1.2.fItems.length:Int),0,r1.2.fItems,([]:List (Ag×Af))),()) hD (AD.c rfl (AD.c5 rfl rfl rfl rfl rfl AD.nil)) (sC (sC (sC sN))) (λσ=>EH σ.1.1 σ.1.2=some r) (λσ=>[(0,rP hd 0),(4,Am 0)]) (λσ=>[.blk hd [rv (.map (some ha)),rv (.map (some hb))] 59,.map ha (AH Ad σ.1.1),.map hb (AH Ad σ.1.2)]) ?_ ?_
   ·rintro⟨gf,⟨ht,hj,hl,hm⟩,⟨⟩⟩ hE;refine BY (l':=[(0,rP hd 0),(4,Am 0),(6,Am ht),(30,AU 4 (AE Ai l)),(31,Am (l.length:Int)),(32,Am hj)]) (H':=[.blk hd [rv (.map (some ha)),rv (.map (some hb))] 59,.map ha (AH Ad hl),.map hb (AH Ad hm)]) rfl rfl ?_;obtain⟨hG,rfl,hH,hn,hu⟩:=CO hE;replace hn:DO l ht hj hl hm=some hH:=hn;unfold DO at hn;refine Ah (wv (Dv rfl rfl) (Aq (Ao (cz hn rfl (λhI hJ=>?_) (λhI hK=>?_)))))
    ·refine A2 (AP (Ao (AK (Ah (ck hJ λhL hN=>wv (BB (enc:=Ai) (ys:=l) Hi Dt rfl rfl hL) (wv (EF Kk Dt rfl rfl rfl) (BN (cs:=[rS ([]:Ag),rB false,rv (.slice none 0 0),Am 0]) Lh rfl rfl (λh0=>?_))))))));refine Bh (i:=0) Dt rfl rfl rfl (BK.c rfl) rfl rfl (cs':=[rS ((Ap l hj).fKey),rB ((Ap l hj).fDelete),AU 4 (AE Ab ((Ap l hj).fValue)),Am ((Ap l hj).fIfVersion)]) rfl (H':=[.blk h0 (Ai (Ap l hj)) 50,.blk hd [rv (.map (some ha)),rv (.map (some hb))] 59,.map ha (AH Ad hl),.map hb (AH Ad hm)]) rfl (Bx (wm rfl (wv (BH (i:=0) Kk Dt rfl rfl rfl rfl) (wm rfl (ob hN λho hO hP=>DY (Hr:=[.blk h0 (Ai (Ap l hj)) 50]) Tryz.call36 (Uq hd ha hb (AB.mk hl hm) (Ap l hj) ht ho hO) rfl ((Aj (i:=1) rfl).trans (Abn _ ((Aj (i:=1) rfl).trans (Abn _ ((Aj (i:=1) rfl).trans (Abn _ (Abo _))))))) rfl ?_)))));rintro _ _ ⟨rfl,rfl⟩;refine wm rfl (wv (AF rfl rfl) (wv (AF rfl rfl) (wa rfl (wa rfl (Aq (Ao (Ah (wm rfl (wv (Dj rfl rfl) (Aq (cz hP rfl (λc80 hQ=>?_) (λc80 hR=>?_))))))))))))
     ·refine Ah (wm rfl (wa rfl (Aq (Ay (Ac (A0 (Ac (Ac (AX ?_)))))))));have hS:=B2 hQ hu hz;refine A0 (Ac ?_);obtain rfl:=Az hS;exact Ax (Ct X7 (AL rfl)) (sC (sC (sC (sS sN)))) ⟨rfl,rfl⟩
     ·refine A2 (AP (An (wm rfl (wa rfl (At (AJ (AP (An (ck hR λhT hU=>wv (BL rfl rfl hT) (wm rfl (At ?_)))))))))));have hV:=B6 hU hu;exact A4 (AG (hG,(ho.1,hj+1,ho.2.2.fItems,ho.2.2.fChanged),()) ⟨hV,Ab1 _⟩ (AD.c rfl (AD.c5 rfl rfl rfl rfl rfl AD.nil)) (sC (sC (sC (sS sN)))))
    ·refine B1 (A3 ?_);have hW:=Cm hK hu hz;exact A3 (Bj (AG ((hl,hm),()) hW (AD.c rfl (AD.c rfl AD.nil)) (sC (sC (sC sN)))))
   ·rintro⟨⟨hw,hf⟩,⟨⟩⟩ hp;refine CU (l':=[(0,rP hd 0),(4,Am 0)]) (H':=[.blk hd [rv (.map (some ha)),rv (.map (some hb))] 59,.map ha (AH Ad hw),.map hb (AH Ad hf)]) rfl rfl ?_;replace hp:EH hw hf=some r:=hp;unfold EH at hp;refine Be (AP (Ao (Ah (wm rfl (wv (Ar rfl) (vF JI rfl JJ (vL 0 JK rfl (XA (i:=2) Kh rfl rfl rfl (λhi=>?_)))))))));refine Aq (AK ?_);have hX:=Zu hp;refine B0 (S:=(List (Ag×Af))×((List (Ag×Af)))×(Unit)) (V:=((List (Ag×Af)))×(Unit)) 2 (λσ=>∀q:List (Ag×Af),q.Perm σ.1→Bi (Uf (λp τ=>G2 p.1 p.2 τ) q σ.2.1) (By λν=>G1 hf ν)=some r) (λσ=>[(0,rP hd 0),(52,rP hi 0)]) (λσ=>[.blk hd [rv (.map (some ha)),rv (.map (some hb))] 59,.map ha (AH Ad σ.2.1),.mit hb hi (AH Ad hf) (AH Ad σ.1) none]) (λσ=>σ.1.length) (hf,hw,()) hX (AD.c rfl (AD.c rfl AD.nil)) (sC (sC (sC sN))) (λσ=>G1 hf σ.1=some r) (λσ=>[(0,rP hd 0),(52,rP hi 0)]) (λσ=>[.blk hd [rv (.map (some ha)),rv (.map (some hb))] 59,.map ha (AH Ad σ.1),.map hb (AH Ad hf)]) ?_ ?_
    ·rintro⟨h1,hg,⟨⟩⟩ h3;refine BY (l':=[(0,rP hd 0),(52,rP hi 0)]) (H':=[.blk hd [rv (.map (some ha)),rv (.map (some hb))] 59,.map ha (AH Ad hg),.mit hb hi (AH Ad hf) (AH Ad h1) none]) rfl rfl (Ah (Zc (enc:=Ad) (ys:=h1) (i:=2) rfl rfl rfl (λhy=>?_) (λp hk hx=>?_)))
     ·have hY:G1 hf hg=some r:=Yg h3 hy;exact wv (AF rfl rfl) (Aq (Ao (Dp rfl rfl (B1 (A3 (WK.unmit (i:=2) rfl (A3 (Bj (AG (hg,()) hY (AD.c rfl (AD.c rfl AD.nil)) (sC (sC (sC sN))))))))))))
     ·obtain⟨hh,he⟩:=p;obtain⟨hZ,hq,h4⟩:=Aas h3 hx;replace hq:G2 hh he hg=some hZ:=hq;unfold G2 at hq;refine YZ (H':=[.blk hd [rv (.map (some ha)),rv (.map (some hb))] 59,.map ha (AH Ad hg),.mit hb hi (AH Ad hf) (AH Ad hk) (some (hh,Ad he))]) rfl (wv (AF rfl rfl) (Aq (Ao (E8 rfl rfl (A2 (AP (AK (Ah (wv (r:=C2 [rS hh,BC (Au he)]) (XX (i:=2) rfl rfl) (wv (AF rfl rfl) (wv (AF rfl rfl) (BN (cs:=[rS ([]:Ag),rv (.slice none 0 0),Am 0]) Li rfl rfl (λhr=>?_)))))))))))));refine wa rfl (Bh (i:=0) DS rfl rfl rfl (BK.c rfl) rfl rfl (cs':=[rS he.fKey,AU 4 (AE Ab he.fValue),Am he.fVersion]) rfl (H':=[.blk hr (Au he) 35,.blk hd [rv (.map (some ha)),rv (.map (some hb))] 59,.map ha (AH Ad hg),.mit hb hi (AH Ad hf) (AH Ad hk) (some (hh,Ad he))]) rfl (Aq (Ao (Ah (vF GT rfl CD (vL 0 Du rfl (wv (BT rfl rfl) (Aq (cz hq rfl (λga gb=>?_) (λga gc=>?_))))))))))
      ·refine Ah (wm rfl (wv (Ar rfl) (vF JI rfl JJ (vL 1 JK rfl (wm rfl (XG (enc:=Ad) (xs:=hg) (i:=2) Kh C3 rfl rfl rfl (H':=[.blk hr (Au he) 35,.blk hd [rv (.map (some ha)),rv (.map (some hb))] 59,.map ha (AH Ad (mdel hg hh)),.mit hb hi (AH Ad hf) (AH Ad hk) (some (hh,Ad he))]) rfl (Aq (B1 (A3 (Be (WK.uncur (i:=3) rfl ?_)))))))))));have gd:=O7 gb h4;exact A4 (AG (hk,mdel hg hh,()) ⟨gd,SC hx⟩ (AD.c rfl (AD.c rfl AD.nil)) (sS (sC (sC (sC sN)))))
      ·refine A2 (AP (GX 6 [0,11,12,52] [⟨[],rP hd 0,none,none,none⟩,⟨[0],rP hd 0,none,none,none⟩,⟨[1],rP hd 0,none,none,none⟩,⟨[2],rv (.map (some ha)),none,none,none⟩,⟨[],rS hh,none,none,none⟩,⟨[],BC (Au he),none,none,none⟩] ?_ (λβ=>?_)))
       ·refine Gc (Al rfl) (Gc (Ar rfl) (Gc (A5 JI rfl JJ rfl rfl) (VL (AT (i:=1) JK rfl rfl rfl) (Gc (Al rfl) (VL (BH (i:=0) OT DS rfl rfl rfl rfl) ?_)))));exact YN
       refine HU (H1:=[.blk hr (Au he) 35,.blk hd [rv (.map (some ha)),rv (.map (some hb))] 59,.map ha (AH Ad hg),.mit hb hi (AH Ad hf) (AH Ad hk) (some (hh,Ad he))]) [66,67,68,69,70,71,0,11,12,52] ?_;refine Mt (enc:=Ad) (xs:=hg) (v:=he) (i:=2) Kh C3 rfl rfl rfl rfl (H':=[.blk hr (Au he) 35,.blk hd [rv (.map (some ha)),rv (.map (some hb))] 59,.map ha (AH Ad (mset hg hh he)),.mit hb hi (AH Ad hf) (AH Ad hk) (some (hh,Ad he))]) rfl (At (AJ (WK.uncur (i:=3) rfl ?_)));have ge:=O7 gc h4;exact A4 (AG (hk,mset hg hh he,()) ⟨ge,SC hx⟩ (AD.c rfl (AD.c rfl AD.nil)) (sS (sC (sC (sC sN)))))
    ·rintro⟨h7,⟨⟩⟩ hs;refine CU (l':=[(0,rP hd 0),(52,rP hi 0)]) (H':=[.blk hd [rv (.map (some ha)),rv (.map (some hb))] 59,.map ha (AH Ad h7),.map hb (AH Ad hf)]) rfl rfl ?_;replace hs:G1 hf h7=some r:=hs;unfold G1 at hs;refine Be (AP (Ah (wa rfl (Aq (Ay ?_)))));obtain rfl:=Az hs;exact Ax (Ct X7 (AL rfl)) (sC (sC (sC sN))) ⟨rfl,rfl⟩
theorem Wp (x:Af)(r:Af)(h:Ul x=some r):Fn Tryz.prog GE 39 [BC (Au x)] [] (λR H=>R=BC (Au r)∧H=[]):=by
 refine enter (n:=8) Tryz.func39 rfl Tryz.ntmps39 rfl (λw Z=>?_);unfold Ul at h;refine Ah (Ej rfl rfl (λb1=>?_));refine BN (cs:=[rS ([]:Ag),rv (.slice none 0 0),Am 0]) Li rfl rfl (λb2=>?_);refine Bx (vF GT rfl CS (vL 1 G5 rfl (ob h λr3 e5 h4=>Gb Tryz.call59 (Re x.fValue r3 e5) rfl (vF GT rfl CS (B5 (i:=1) CS rfl rfl (Cu rfl) rfl rfl (cs':=[rS x.fKey,AU 4 (AE Ab r3),Am x.fVersion]) rfl (H':=[.blk b2 [rS ([]:Ag),rv (.slice none 0 0),Am 0] 35,.blk b1 [rS x.fKey,AU 4 (AE Ab r3),Am x.fVersion] 35]) rfl (Bx (wv (BH (i:=1) OT DS rfl rfl rfl rfl) (Bh (i:=0) DS rfl rfl rfl (BK.c rfl) rfl rfl (cs':=[rS x.fKey,AU 4 (AE Ab r3),Am x.fVersion]) rfl (H':=[.blk b2 [rS x.fKey,AU 4 (AE Ab r3),Am x.fVersion] 35,.blk b1 [rS x.fKey,AU 4 (AE Ab r3),Am x.fVersion] 35]) rfl (Aq (Ay ?_))))))))));obtain rfl:=Az h4;exact Ax (Ct Tryz.results39 (Gh (i:=0) OT DS rfl rfl rfl)) (sS (sS sN)) ⟨rfl,rfl⟩
theorem Z6 (hd:Nat)(ha:Nat)(hb:Nat)(q:AB)(key:Ag)(r:Af×Bool×AB)(h:Z7 q key=some r):Fn Tryz.prog GE 17 [rP hd 0,rS key] [.blk hd [rv (.map (some ha)),rv (.map (some hb))] 59,.map ha (AH Ad q.fItems),.map hb (AH Ad q.fChanged)] (λR H=>R=C2 [BC (Au r.1),rB r.2.1]∧H=[.blk hd [rv (.map (some ha)),rv (.map (some hb))] 59,.map ha (AH Ad r.2.2.fItems),.map hb (AH Ad r.2.2.fChanged)]):=by
 refine enter (n:=24) Tryz.func17 rfl Tryz.ntmps17 rfl (λw Z=>?_);unfold Z7 at h;refine Ah (BN (cs:=[rS ([]:Ag),rv (.slice none 0 0),Am 0]) Li rfl rfl (λb1=>?_));refine wa rfl (Aq (Ao (Ah (wm rfl (ob h λr2 e4 h3=>DY (Hr:=[.blk b1 [rS ([]:Ag),rv (.slice none 0 0),Am 0] 35]) UU (KO hd ha hb q r2 e4) rfl ((Aj (i:=1) rfl).trans (Abn _ ((Aj (i:=1) rfl).trans (Abn _ ((Aj (i:=1) rfl).trans (Abn _ (Abo _))))))) rfl ?_)))));rintro _ _ ⟨rfl,rfl⟩;refine wv (Cj rfl) (Aq (cz h3 rfl (λc5 h6=>?_) (λc5 h7=>?_)))
 ·refine Ah (wv (r:=BC [rS ([]:Ag),rv (.slice none 0 0),Am 0]) (JX ) (Bh (i:=3) DS rfl rfl rfl (BK.c rfl) rfl rfl (cs':=[rS ([]:Ag),rv (.slice none 0 0),Am 0]) rfl (H':=[.blk hd [rv (.map (some ha)),rv (.map (some hb))] 59,.map ha (AH Ad r2.2.fItems),.map hb (AH Ad r2.2.fChanged),.blk b1 [rS ([]:Ag),rv (.slice none 0 0),Am 0] 35]) rfl (wa rfl (Aq (Ay (Ac (WK.upBlk (i:=3) (cs':=[rS ([]:Ag),AU 4 (AE Ab ([]:List Aa)),Am 0]) rfl ⟨Up.refl _,Up.le (Iw.nil _),Up.refl _,trivial⟩ ?_)))))));obtain rfl:=Az h6;exact Ax (EB Tryz.results17 (Gh (i:=3) OT DS rfl rfl rfl) (AL rfl)) (sC (sC (sC (sS sN)))) ⟨rfl,rfl⟩
 ·refine A2 (AP (Ah (wm rfl (wv (Ar rfl) (vF JI rfl JJ (vL 0 JK rfl (wm rfl (wv (r:=C2 [BC [rS ((Cn r2.2.fItems key (Af.mk ([]:Ag) ([]:(List Aa)) 0)).fKey),AU 4 (AE Ab ((Cn r2.2.fItems key (Af.mk ([]:Ag) ([]:(List Aa)) 0)).fValue)),Am ((Cn r2.2.fItems key (Af.mk ([]:Ag) ([]:(List Aa)) 0)).fVersion)],rB (Ce r2.2.fItems key)]) (SH (enc:=Ad) (xs:=r2.2.fItems) (z:=Af.mk ([]:Ag) ([]:(List Aa)) 0) (i:=1) Kh C3 Li Gn rfl rfl rfl) (wm rfl (wv (AF rfl rfl) (wv (AF rfl rfl) (BN (cs:=[rS ([]:Ag),rv (.slice none 0 0),Am 0]) Li rfl rfl (λb8=>?_)))))))))))));refine Bh (i:=0) DS rfl rfl rfl (BK.c rfl) rfl rfl (cs':=[rS ((Cn r2.2.fItems key (Af.mk ([]:Ag) ([]:(List Aa)) 0)).fKey),AU 4 (AE Ab ((Cn r2.2.fItems key (Af.mk ([]:Ag) ([]:(List Aa)) 0)).fValue)),Am ((Cn r2.2.fItems key (Af.mk ([]:Ag) ([]:(List Aa)) 0)).fVersion)]) rfl (H':=[.blk b8 [rS ((Cn r2.2.fItems key (Af.mk ([]:Ag) ([]:(List Aa)) 0)).fKey),AU 4 (AE Ab ((Cn r2.2.fItems key (Af.mk ([]:Ag) ([]:(List Aa)) 0)).fValue)),Am ((Cn r2.2.fItems key (Af.mk ([]:Ag) ([]:(List Aa)) 0)).fVersion)] 35,.blk hd [rv (.map (some ha)),rv (.map (some hb))] 59,.map ha (AH Ad r2.2.fItems),.map hb (AH Ad r2.2.fChanged),.blk b1 [rS ([]:Ag),rv (.slice none 0 0),Am 0] 35]) rfl (wa rfl (Bx (wv (BH (i:=0) OT DS rfl rfl rfl rfl) (ob h7 λr9 he hf=>Gb Tryz.call39 (Wp (Cn r2.2.fItems key (Af.mk ([]:Ag) ([]:(List Aa)) 0)) r9 he) rfl (wm rfl (Bh (i:=4) DS rfl rfl rfl (BK.c rfl) rfl rfl (cs':=[rS r9.fKey,AU 4 (AE Ab r9.fValue),Am r9.fVersion]) rfl (H':=[.blk b8 [rS ((Cn r2.2.fItems key (Af.mk ([]:Ag) ([]:(List Aa)) 0)).fKey),AU 4 (AE Ab ((Cn r2.2.fItems key (Af.mk ([]:Ag) ([]:(List Aa)) 0)).fValue)),Am ((Cn r2.2.fItems key (Af.mk ([]:Ag) ([]:(List Aa)) 0)).fVersion)] 35,.blk hd [rv (.map (some ha)),rv (.map (some hb))] 59,.map ha (AH Ad r2.2.fItems),.map hb (AH Ad r2.2.fChanged),.blk b1 (Au r9) 35]) rfl (wa rfl (Aq (Ay ?_)))))))));obtain rfl:=Az hf;exact Ax (EB Tryz.results17 (Gh (i:=4) OT DS rfl rfl rfl) (AL rfl)) (sS (sC (sC (sC (sS sN))))) ⟨rfl,rfl⟩
theorem Pu (hd:Nat)(ha:Nat)(hb:Nat)(q:AB)(r:Int×AB)(h:RT q=some r):Fn Tryz.prog GE 15 [rP hd 0] [.blk hd [rv (.map (some ha)),rv (.map (some hb))] 59,.map ha (AH Ad q.fItems),.map hb (AH Ad q.fChanged)] (λR H=>R=Am r.1∧H=[.blk hd [rv (.map (some ha)),rv (.map (some hb))] 59,.map ha (AH Ad r.2.fItems),.map hb (AH Ad r.2.fChanged)]):=by
 refine enter (n:=11) Tryz.func15 rfl Tryz.ntmps15 rfl (λw Z=>?_);unfold RT at h;refine Ah (wa rfl (Aq (Ao (Ah (wm rfl (ob h λr1 e3 h2=>DY (Hr:=[]) UU (KO hd ha hb q r1 e3) rfl (Abo _) rfl ?_))))));rintro _ _ ⟨rfl,rfl⟩;refine wv (Cj rfl) (Aq (cz h2 rfl (λc4 h5=>?_) (λc4 h6=>?_)))
 ·refine Ah (wa rfl (Aq (Ay (Ac ?_))));obtain rfl:=Az h5;exact Ax (Ct Tryz.results15 (AL rfl)) (sC (sC (sC sN))) ⟨rfl,rfl⟩
 ·refine A2 (AP (Ah (wm rfl (wv (Ar rfl) (vF JI rfl JJ (vL 0 JK rfl (wv (r:=Am (r1.2.fItems.length:Int)) (VQ (N:=r1.2.fItems.length) (i:=1) Kh rfl rfl (Hb _ _)) (wa rfl (Aq (Ay ?_))))))))));obtain rfl:=Az h6;exact Ax (Ct Tryz.results15 (AL rfl)) (sC (sC (sC sN))) ⟨rfl,rfl⟩
theorem M4 (F:Nat)(he:Nat)(ha:Nat)(hb:Nat)(q:AB)(pre:Ag)(r:(List Af)×AB)(h:LV F q pre=some r):Fn Tryz.prog GE 20 [rP he 0,rS pre] [.blk he [rv (.map (some ha)),rv (.map (some hb))] 59,.map ha (AH Ad q.fItems),.map hb (AH Ad q.fChanged)] (λR H=>R=AU 3 (AE Au r.1)∧H=[.blk he [rv (.map (some ha)),rv (.map (some hb))] 59,.map ha (AH Ad r.2.fItems),.map hb (AH Ad r.2.fChanged)]):=by
 refine enter (n:=37) Tryz.func20 rfl Tryz.ntmps20 rfl (λw Z=>?_);unfold LV at h;refine Ah (wa rfl (Aq (Ao (Ah (wm rfl (ob h λr1 e3 h2=>DY (Hr:=[]) UU (KO he ha hb q r1 e3) rfl (Abo _) rfl ?_))))));rintro _ _ ⟨rfl,rfl⟩;refine wv (Cj rfl) (Aq (cz h2 rfl (λc4 h5=>?_) (λc4 h6=>?_)))
 ·refine Ah (wa rfl (Aq (Ay (Ac (WK.up (d:=4) (r:=AU 3 (AE Au ([]:List Af))) rfl (Up.le (Iw.nil _)) ?_)))));obtain rfl:=Az h5;exact Ax (Ct Tryz.results20 (AL rfl)) (sC (sC (sC sN))) ⟨rfl,rfl⟩
 ·refine A2 (AP (Ah (wa rfl (Aq (Ao (Ah (wm rfl (wv (Ar rfl) (vF JI rfl JJ (vL 0 JK rfl (Cl (rs:=[rv (.map (some ha))]) (Hin:=[]) (Hr:=[.blk he [rv (.map (some ha)),rv (.map (some hb))] 59,.map ha (AH Ad r1.2.fItems),.map hb (AH Ad r1.2.fChanged)]) Tryz.call43 rfl (Abo _) (RL ha) rfl ?_)))))))))));rintro _ _ ⟨b7,rfl,rfl⟩;refine ck h6 λg8 h9=>Cl (rs:=[rv (.func (.func 63) #[] #[(.pointer (some ⟨b7,0,none⟩))])]) (Hin:=[.blk b7 [rv (.map (some ha))] 57,.map ha (AH Ad r1.2.fItems)]) (Hr:=[.blk he [rv (.map (some ha)),rv (.map (some hb))] 59,.map hb (AH Ad r1.2.fChanged)]) Tryz.call42 rfl ((Aj (i:=0) rfl).trans (Abn _ ((Aj (i:=1) rfl).trans (Abn _ (Abo _))))) (PZ Ad r1.2.fItems b7 ha g8) rfl ?_;rintro _ _ ⟨hf,rfl,rfl⟩;refine wv (C5 (ys:=C6 r1.2.fItems) (enc:=eS) (i:=0) D2 rfl rfl) (wv (r:=Am 0) (Al rfl) (Aq (AK (WC.nilrow (e:=35) (sz:=3) (OW (H2:=[.row hf 9 1 (AE eS (C6 r1.2.fItems)),.map ha (AH Ad r1.2.fItems),.blk he [rv (.map (some ha)),rv (.map (some hb))] 59,.map hb (AH Ad r1.2.fChanged),.row (.slice none 0 0                                   ) 35 3 (AE Au ([]:List Af)),.blk b7 [rv (.map (some ha))] 57]) ((Aj (i:=1) rfl).trans (Abn _ ((Aj (i:=2) rfl).trans (Abn _ ((Aj (i:=2) rfl).trans (Abn _ ((Aj (i:=2) rfl).trans (Abn _ (Abo _))))))))) (ob h9 λhx hy hz=>B0 (S:=Nat×((List Af)×Int)×(Value)) (V:=((List Af))×(Value)) 0 (λσ=>BE (λσ=>EV pre r1 σ.1 σ.2) σ.1 σ.2.1=some hx) (λσ=>[(0,rP he 0),(1,rS pre),(4,rv (.slice none 0 0)),(5,rv σ.2.2),(16,rv hf),(17,Am ((C6 r1.2.fItems).length:Int)),(18,Am σ.2.1.2)]) (λσ=>[.row hf 9 1 (AE eS (C6 r1.2.fItems)),.map ha (AH Ad r1.2.fItems),.blk he [rv (.map (some ha)),rv (.map (some hb))] 59,.map hb (AH Ad r1.2.fChanged),.row σ.2.2 35 3 (AE Au σ.2.1.1)]) (λσ=>σ.1) (F,(([]:List Af),0),(.slice none 0 0                                   )) hy (AD.c rfl (AD.c rfl (AD.c5 rfl rfl rfl rfl rfl AD.nil))) (sC (sC (sC (sC (sC (sS sN)))))) (λσ=>KN r1 σ.1=some r) (λσ=>[(4,rv (.slice none 0 0)),(5,rv σ.2)]) (λσ=>[.map ha (AH Ad r1.2.fItems),.blk he [rv (.map (some ha)),rv (.map (some hb))] 59,.map hb (AH Ad r1.2.fChanged),.row σ.2 35 3 (AE Au σ.1)]) ?_ ?_))))))
  ·rintro⟨hP,⟨hh,hd⟩,hi⟩ h0;refine BY (l':=[(0,rP he 0),(1,rS pre),(4,rv (.slice none 0 0)),(5,rv hi),(16,rv hf),(17,Am ((C6 r1.2.fItems).length:Int)),(18,Am hd)]) (H':=[.row hf 9 1 (AE eS (C6 r1.2.fItems)),.map ha (AH Ad r1.2.fItems),.blk he [rv (.map (some ha)),rv (.map (some hb))] 59,.map hb (AH Ad r1.2.fChanged),.row hi 35 3 (AE Au hh)]) rfl rfl ?_;obtain⟨h1,rfl,hn,hj,hs⟩:=CO h0;replace hj:EV pre r1 hh hd=some hn:=hj;unfold EV at hj;refine Ah (wv (Dv rfl rfl) (Aq (Ao (cz hj rfl (λh3 h4=>?_) (λh3 h7=>?_)))))
   ·refine A2 (AP (CE (S:=((List Af)×Bool)×(Value)) (λσ=>HE hd σ.1.1 σ.1.2=some hn) (λσ=>[(0,rP he 0),(1,rS pre),(4,rv (.slice none 0 0)),(5,rv σ.2),(7,rS (Ap (C6 r1.2.fItems) hd)),(16,rv hf),(17,Am ((C6 r1.2.fItems).length:Int)),(18,Am hd),(19,rB (decide (hd<((C6 r1.2.fItems).length:Int)))),(21,rS (Ap (C6 r1.2.fItems) hd)),(22,rS (Ap (C6 r1.2.fItems) hd)),(23,rS pre),(24,rB σ.1.2)]) (λσ=>[.row hf 9 1 (AE eS (C6 r1.2.fItems)),.map ha (AH Ad r1.2.fItems),.blk he [rv (.map (some ha)),rv (.map (some hb))] 59,.map hb (AH Ad r1.2.fChanged),.row σ.2 35 3 (AE Au σ.1.1)]) ?_ ?_))
    ·refine AK (Ah (ck h4 λht h8=>wv (r:=rv (EY 1 hf (Bt hd) 0)) (JW (i:=0) D2 D1 rfl rfl rfl (BI ht)) (wv (r:=rS (Ap (C6 r1.2.fItems) hd)) (Ib (enc:=eS) (ys:=C6 r1.2.fItems) (i:=0) (j:=hd) Eb rfl rfl ht rfl) (wa rfl (Bx (wm rfl (wm rfl (ob h8 λho hA hB=>Gb Tryz.call44 (IJ (Ap (C6 r1.2.fItems) hd) pre ho hA) rfl (Aq (cz hB rfl (λc212 hC=>?_) (λc212 hD=>?_)))))))))))
     ·refine An (wm rfl (wm rfl (wv (Ar rfl) (vF JI rfl JJ (vL 2 JK rfl (wm rfl (wv (r:=BC (Au (Cn r1.2.fItems (Ap (C6 r1.2.fItems) hd) (Af.mk ([]:Ag) ([]:(List Aa)) 0)))) (VR (enc:=Ad) (xs:=r1.2.fItems) (z:=Af.mk ([]:Ag) ([]:(List Aa)) 0) (i:=1) Kh C3 Li Gn rfl rfl rfl) (ob hC λhg hE hG=>Gb Tryz.call39 (Wp (Cn r1.2.fItems (Ap (C6 r1.2.fItems) hd) (Af.mk ([]:Ag) ([]:(List Aa)) 0)) hg hE) rfl (AW (ys:=([hg]:List Af)) (enc:=Au) (css:=[[rS hg.fKey,AU 4 (AE Ab hg.fValue),Am hg.fVersion]]) (xs:=[.tmp 32]) I3 DS Li rfl rfl rfl ⟨GR.agg ⟨Up.refl _,Up.refl _,Up.refl _,trivial⟩,trivial⟩ rfl JG rfl rfl rfl (λhH=>?_))))))))));refine ck hG λhI hJ=>Exists.elim ZA λinf hinf=>Cb (xs:=hh) (ys:=([hg]:List Af)) (enc:=Au) (i:=5) I3 hinf.1 hinf.2.1 hinf.2.2.1 hinf.2.2.2 rfl rfl rfl rfl rfl (LD.w (i:=0) rfl rfl) JG Oa hI rfl (λhu=>?_);exact wa rfl (At (AJ (Ca (H2:=[.row hf 9 1 (AE eS (C6 r1.2.fItems)),.map ha (AH Ad r1.2.fItems),.blk he [rv (.map (some ha)),rv (.map (some hb))] 59,.map hb (AH Ad r1.2.fChanged),.row hu 35 3 (AE Au (hh++([hg]:List Af))),.row (.slice (some ⟨hH,0,none⟩) 1 1) 35 3 (AE Au ([hg]:List Af))]) ((Aj (i:=2) rfl).trans (Abn _ ((Aj (i:=2) rfl).trans (Abn _ ((Aj (i:=2) rfl).trans (Abn _ ((Aj (i:=2) rfl).trans (Abn _ (Abo _))))))))) (A4 (AG ((hh++([hg]:List Af),ho),hu) hJ (AD.c rfl (AD.c rfl (AD.c rfl (AD.c5 rfl rfl rfl rfl rfl (AD.c5 rfl rfl rfl rfl rfl AD.nil))))) (sC (sC (sC (sC (sC (sS sN)))))))))))
     ·exact A2 (AJ (A4 (AG ((hh,ho),hi) hD (AD.c rfl (AD.c rfl (AD.c rfl (AD.c5 rfl rfl rfl rfl rfl (AD.c5 rfl rfl rfl rfl rfl AD.nil))))) (sC (sC (sC (sC (sC sN))))))))
    ·rintro⟨⟨hp,hw⟩,hq⟩ hk;refine BY (l':=[(0,rP he 0),(1,rS pre),(4,rv (.slice none 0 0)),(5,rv hq),(7,rS (Ap (C6 r1.2.fItems) hd)),(16,rv hf),(17,Am ((C6 r1.2.fItems).length:Int)),(18,Am hd),(19,rB (decide (hd<((C6 r1.2.fItems).length:Int)))),(21,rS (Ap (C6 r1.2.fItems) hd)),(22,rS (Ap (C6 r1.2.fItems) hd)),(23,rS pre),(24,rB hw)]) (H':=[.row hf 9 1 (AE eS (C6 r1.2.fItems)),.map ha (AH Ad r1.2.fItems),.blk he [rv (.map (some ha)),rv (.map (some hb))] 59,.map hb (AH Ad r1.2.fChanged),.row hq 35 3 (AE Au hp)]) rfl rfl ?_;replace hk:HE hd hp hw=some hn:=hk;unfold HE at hk;refine An (ck hk λhK hL=>wv (BL rfl rfl hK) (wm rfl (At ?_)));have hN:=B6 hL hs;exact A4 (AG (h1,(hp,hd+1),hq) ⟨hN,Ab1 _⟩ (AD.c rfl (AD.c rfl (AD.c5 rfl rfl rfl rfl rfl AD.nil))) (sC (sC (sC (sC (sC sN))))))
   ·refine B1 (A3 ?_);have hO:=Cm h7 hs hz;exact A3 (Bj (AG (hh,hi) hO (AD.c rfl (AD.c rfl AD.nil)) (sS (sC (sC (sC (sC sN)))))))
  ·rintro⟨hl,hr⟩ hm;refine CU (l':=[(4,rv (.slice none 0 0)),(5,rv hr)]) (H':=[.map ha (AH Ad r1.2.fItems),.blk he [rv (.map (some ha)),rv (.map (some hb))] 59,.map hb (AH Ad r1.2.fChanged),.row hr 35 3 (AE Au hl)]) rfl rfl ?_;replace hm:KN r1 hl=some r:=hm;unfold KN at hm;refine Be (AP (Ah (wm rfl (wa rfl (Aq (Ay (WK.freeze (i:=3) rfl (WK.up (d:=4) (r:=AU 3 (AE Au hl)) rfl (Up.fact (i:=0) rfl) (Ca (H2:=[.blk he [rv (.map (some ha)),rv (.map (some hb))] 59,.map ha (AH Ad r1.2.fItems),.map hb (AH Ad r1.2.fChanged),.fact hr (AU 3 (AE Au hl))]) ((Aj (i:=2) rfl).trans (Abn _ ((Aj (i:=1) rfl).trans (Abn _ ((Aj (i:=1) rfl).trans (Abn _ (Abo _))))))) ?_)))))))));obtain rfl:=Az hm;exact Ax (Ct Tryz.results20 (AL rfl)) (sC (sC (sC (sS sN)))) ⟨rfl,rfl⟩
end Go.Proofs.YtjfnokmpfekniaaGreatDoor.Q
namespace Go.Proofs.YtjfnokmpfekniaaGreatDoor
open Go
set_option linter.unusedVariables false
def Da (l:(List Ae))(hb:Int)(ha:Int):Option (Stp (Int) (Out (Stp (Int) (Out (Bool) (Unit))) (Int×Bool))):=
 AV (decide (ha<(((Ap l hb).fValue).length:Int))) (AR (CG ha (((Ap l hb).fValue).length:Int))<|AV (decide (5000<(((Ap ((Ap l hb).fValue) ha).fStr).length:Int))) (some (.out (.ret (.out (.ret false))))) (AR (B7 .i64 (ha+1))<|some (.next (ha+1)))) (some (.out (.go (ha,decide (ha<(((Ap l hb).fValue).length:Int))))))
def G0 (ha:Int)(hb:Int)(hd:Bool):Option (Stp (Int) (Out (Bool) (Unit))):=
 AR (B7 .i64 (ha+1))<|some (.next (ha+1))
def CN (F:Nat)(l:(List Ae))(ha:Int):Option (Stp (Int) (Out (Bool) (Unit))):=
 AV (decide (ha<(l.length:Int))) (AR (CG ha (l.length:Int))<|AV (((decide (300<(((Ap l ha).fKey).length:Int)))||(decide (300<(((Ap l ha).fValue).length:Int))))) (some (.out (.ret false))) (Bi (BE (λσ=>Da l ha σ) F 0) (By λν=>G0 ha ν.1 ν.2))) (some (.out (.go ())))
def Jo :Option (Bool):=
 some true
def No (F:Nat)(l:(List Ae)):Option (Bool):=
 AV (decide (300<(l.length:Int))) (some false) (Bi (BE (λσ=>CN F l σ) F 0) (By λν=>Jo ))
def Gp (F:Nat)(l:(List (List Ae)))(ha:Int):Option (Stp (Int) (Out (Bool) (Unit))):=
 AV (decide (ha<(l.length:Int))) (AR (CG ha (l.length:Int))<|Bi (No F (Ap l ha)) λhb=>AV (!hb) (some (.out (.ret false))) (AR (B7 .i64 (ha+1))<|some (.next (ha+1)))) (some (.out (.go ())))
def M1 :Option (Bool):=
 some true
def Wk (F:Nat)(l:(List (List Ae))):Option (Bool):=
 AV (decide (30<(l.length:Int))) (some false) (Bi (BE (λσ=>Gp F l σ) F 0) (By λν=>M1 ))
def RP (n:Int)(version:Int):Option (Ae):=
 some (Ae.mk ([107]:Ag) false ([(Aa.mk 3 n ([]:Ag) 0)]:List Aa) version)
def Jv :Option (Stp (Unit) (Out (Ag×Int) (Unit))):=
 some (.out (.go ()))
def Ju :Option (Ag×Int):=
 some (([]:Ag),0)
def Sd (F:Nat) :Option (Ag×Int):=
 Bi (BE (λσ=>Jv ) F ()) (By λν=>Ju )
def He :Option (Stp (Unit) (Out (Ag×Int) (Unit))):=
 some (.out (.go ()))
def Hd (F:Nat):Option (Ag×Int):=
 Bi (Sd F) λha=>some (ha.1,ha.2)
def Nx (F:Nat) :Option (Ag×Int):=
 Bi (GJ F ([]:List Ae)) λr1=>AV (!decide (r1=0)) (some (([]:Ag),r1)) (Bi (BE (λσ=>He ) F ()) (By λν=>Hd F ))
def Lu (F:Nat) :Option (Bool):=
 Bi (Um) λr1=>Bi (RP 1 0) λr7=>Bi (RP 2 0) λhj=>Bi (Gd F r1 ([r7,hj]:List Ae)) λhb=>AR (!(!decide (hb.1=19)))<|Bi (RT hb.2) λhd=>AR (!(!decide (hd.1=0)))<|Bi (RP 5 0) λhk=>Bi (Gd F hd.2 ([hk]:List Ae)) λhe=>Bi (RP 5 0) λhl=>Bi (Gd F he.2 ([hl]:List Ae)) λhf=>Bi (RP 6 1) λhm=>Bi (Gd F hf.2 ([hm]:List Ae)) λhg=>Bi (Z7 hg.2 ([107]:Ag)) λha=>Bi (Gd F ha.2.2 ([(Ae.mk ([107]:Ag) true ([]:List Aa) 2)]:List Ae)) λhh=>Bi (Nx F) λhi=>AR (decide (he.1=0))<|AR (decide (hf.1=19))<|AR (decide (hg.1=0))<|AR (ha.2.1)<|AR (decide (ha.1.fVersion=2))<|AR (decide (hh.1=0))<|Bi (RT hh.2) λhn=>AR (decide (hn.1=0))<|AR (decide (hi.1=([]:Ag)))<|some (decide (hi.2=0))
end Go.Proofs.YtjfnokmpfekniaaGreatDoor
namespace Go.Proofs.YtjfnokmpfekniaaGreatDoor.Q
open Go Go.RowKit
set_option linter.unusedVariables false
set_option linter.unusedSimpArgs false
set_option maxRecDepth 100000
set_option maxHeartbeats 4000000
@[reducible] def AS (x:(List Ae)):List Rp:=[AU 4 (AE Ai x)]
theorem KY (x:(List Ae)):(AS x).length=1:=rfl
theorem P7 (parts:List (Nat×Value)):Tryz.prog.built 50 parts=Instr.fill (λi=>(#[(0,1),(1,1),(2,1),(3,1)]:Array (Nat×Nat))[i]?) #[(.string ⟨#[]⟩),(.bool false),((.slice none 0 0)),(.int .i64 0)] parts:=by kernel_rfl
theorem Ir {n:Nat}{c:Cx}{l:Fr}{H:List Ent}{d:Option Nat}{ty:TypeId}{pos:String}{af:Array Edge}{g:Option (Nat×Bool)}{x0:Operand}{r0:Rp}(h0:ev l x0=some r0)(u0:r0.one=true){x1:Operand}{r1:Rp}(h1:ev l x1=some r1)(u1:r1.one=true){x3:Operand}{r3:Rp}(h3:ev l x3=some r3)(u3:r3.one=true):Bb Tryz.prog n c l H { dst:=d,op:=.build 50 #[(0,x0),(1,x1),(3,x3)],type:=ty,pos:=pos,after:=af,guard:=g } (BC [r0,r1,rv (.slice none 0 0),r3]):=λa w Z ha _=>by
  have p0:=ha.ev h0;have c0:=B4 (r0.hone u0 Z _ p0);have p1:=ha.ev h1;have c1:=B4 (r1.hone u1 Z _ p1);have p3:=ha.ev h3;have c3:=B4 (r3.hone u3 Z _ p3);have hb:Tryz.prog.built 50 [(0,a.eval x0),(1,a.eval x1),(3,a.eval x3)]=some #[a.eval x0,a.eval x1,((.slice none 0 0)),a.eval x3]:=by
    rw[P7];generalize a.eval x0=v0 at *;generalize a.eval x1=v1 at *;generalize a.eval x3=v3 at *;simp[Instr.fill,c0,c1,c3]
  refine⟨.agg #[a.eval x0,a.eval x1,((.slice none 0 0)),a.eval x3],⟨[a.eval x0,a.eval x1,((.slice none 0 0)),a.eval x3],rfl,p0,p1,rfl,p3,trivial⟩,?_⟩;have:=run_build w 50 #[(0,a.eval x0),(1,a.eval x1),(3,a.eval x3)] _ (by simpa using hb);simp[execOp,this]
theorem Mg {n:Nat}{c:Cx}{l:Fr}{H:List Ent}{d:Option Nat}{ty:TypeId}{pos:String}{af:Array Edge}{g:Option (Nat×Bool)}{x0:Operand}{r0:Rp}(h0:ev l x0=some r0)(u0:r0.one=true){x2:Operand}{r2:Rp}(h2:ev l x2=some r2)(u2:r2.one=true){x3:Operand}{r3:Rp}(h3:ev l x3=some r3)(u3:r3.one=true):Bb Tryz.prog n c l H { dst:=d,op:=.build 50 #[(0,x0),(2,x2),(3,x3)],type:=ty,pos:=pos,after:=af,guard:=g } (BC [r0,rB false,r2,r3]):=λa w Z ha _=>by
  have p0:=ha.ev h0;have c0:=B4 (r0.hone u0 Z _ p0);have p2:=ha.ev h2;have c2:=B4 (r2.hone u2 Z _ p2);have p3:=ha.ev h3;have c3:=B4 (r3.hone u3 Z _ p3);have hb:Tryz.prog.built 50 [(0,a.eval x0),(2,a.eval x2),(3,a.eval x3)]=some #[a.eval x0,(.bool false),a.eval x2,a.eval x3]:=by
    rw[P7];generalize a.eval x0=v0 at *;generalize a.eval x2=v2 at *;generalize a.eval x3=v3 at *;simp[Instr.fill,c0,c2,c3]
  refine⟨.agg #[a.eval x0,(.bool false),a.eval x2,a.eval x3],⟨[a.eval x0,(.bool false),a.eval x2,a.eval x3],rfl,p0,rfl,p2,p3,trivial⟩,?_⟩;have:=run_build w 50 #[(0,a.eval x0),(2,a.eval x2),(3,a.eval x3)] _ (by simpa using hb);simp[execOp,this]
theorem Wi (F:Nat)(l:(List Ae))(r:Bool)(h:No F l=some r):Fn Tryz.prog GE 22 [AU 4 (AE Ai l)] [] (λR H=>R=rB r∧H=[]):=by
 refine enter (n:=51) Tryz.func22 rfl Tryz.ntmps22 rfl (λw Z=>?_);unfold No at h;refine Ah (wa rfl (Aq (Ao (Ah (wm rfl (wv (B8 (ys:=l) (enc:=Ai) Hi rfl) (wv (DM rfl rfl) (Aq (cz h rfl (λc1 h2=>?_) (λc1 h3=>?_))))))))))
 ·refine Ah (wa rfl (Aq (Ay (Ac ?_))));obtain rfl:=Az h2;exact Ax (Ct X6 (AL rfl)) sN ⟨rfl,rfl⟩
 ·refine A2 (AP (Ao (Ah (wm rfl (wv (B8 (ys:=l) (enc:=Ai) Hi rfl) (wv (r:=Am 0) (Al rfl) (Aq (AK (ob h3 λhq hr hk=>B0 (S:=Nat×(Int)×(Unit)) (V:=(Unit)×(Unit)) 0 (λσ=>BE (λσ=>CN F l σ) σ.1 σ.2.1=some hq) (λσ=>[(0,AU 4 (AE Ai l)),(9,Am (l.length:Int)),(10,Am σ.2.1)]) (λσ=>[]) (λσ=>σ.1) (F,0,()) hr (AD.c rfl (AD.c rfl (AD.c rfl AD.nil))) sN (λσ=>Jo =some r) (λσ=>[]) (λσ=>[]) ?_ ?_)))))))))
  ·rintro⟨hU,ha,⟨⟩⟩ hs;refine BY (l':=[(0,AU 4 (AE Ai l)),(9,Am (l.length:Int)),(10,Am ha)]) (H':=[]) rfl rfl ?_;obtain⟨ht,rfl,hl,he,hf⟩:=CO hs;replace he:CN F l ha=some hl:=he;unfold CN at he;refine Ah (wv (Dv rfl rfl) (Aq (Ao (cz he rfl (λhu hw=>?_) (λhu hx=>?_)))))
   ·refine A2 (AP (Ao (AK (Ah (wm rfl (wa rfl (Aq (Ao (ck hw λhg hy=>AO [(0,AU 4 (AE Ai l)),(3,Am ha),(9,Am (l.length:Int)),(10,Am ha),(28,rB ((decide (300<(((Ap l ha).fKey).length:Int)))||(decide (300<(((Ap l ha).fValue).length:Int)))))] [] ?_ ?_)))))))))
    ·refine An (wm rfl (wm rfl (wv (BB (enc:=Ai) (ys:=l) Hi Dt rfl rfl hg) (wv (Bn E1 rfl D1 rfl rfl) (wv (Bu Eb rfl rfl) (wv (Bv C3 rfl) (wv (DM rfl rfl) (wm rfl (AY (decide (300<(((Ap l ha).fKey).length:Int))) (λhb=>?_) (λhb=>?_))))))))))
     ·refine wf hb (wf hb (wf hb (wf hb (wf hb (wf hb (wf hb (wv (r:=rB true) (A7 rfl hb rfl) (At ?_))))))));exact D3 hb
     ·refine wo hb (wm rfl (wo hb (wm rfl (wo hb (wv (BB (enc:=Ai) (ys:=l) Hi Dt rfl rfl hg) (wo hb (wv (Bn E1 rfl CS rfl rfl) (wo hb (wv (Bu G5 rfl rfl) (wo hb (wv (B8 (ys:=(Ap l ha).fValue) (enc:=Ab) CJ rfl) (wo hb (wv (DM rfl rfl) (Lf rfl hb rfl (At ?_)))))))))))))));exact D3 hb
    refine cz hy rfl (λhz h0=>?_) (λhz h1=>?_)
    ·refine Ah (wa rfl (Aq (Ay (Ac (A0 (Ac (Ac (AX ?_))))))));have h4:=B2 h0 hf hk;refine A0 (Ac ?_);obtain rfl:=Az h4;exact Ax (Ct X6 (AL rfl)) sN ⟨rfl,rfl⟩
    ·refine A2 (AP (Ah (wm rfl (wm rfl (wv (BB (enc:=Ai) (ys:=l) Hi Dt rfl rfl hg) (wv (Bn E1 rfl CS rfl rfl) (wv (Bu G5 rfl rfl) (wv (B8 (ys:=(Ap l ha).fValue) (enc:=Ab) CJ rfl) (wv (r:=Am 0) (Al rfl) (Aq (AK (ob h1 λh5 h6 hn=>B0 (S:=Nat×(Int)×(Unit)) (V:=(Int×Bool)×(Unit)) 2 (λσ=>BE (λσ=>Da l ha σ) σ.1 σ.2.1=some h5) (λσ=>[(0,AU 4 (AE Ai l)),(3,Am ha),(9,Am (l.length:Int)),(10,Am ha),(28,rB ((decide (300<(((Ap l ha).fKey).length:Int)))||(decide (300<(((Ap l ha).fValue).length:Int))))),(29,AU 4 (AE Ai l)),(30,Am ha),(33,AU 4 (AE Ab ((Ap l ha).fValue))),(34,Am (((Ap l ha).fValue).length:Int)),(35,Am σ.2.1)]) (λσ=>[]) (λσ=>σ.1) (F,0,()) h6 (AD.c5 rfl rfl rfl rfl rfl (AD.c5 rfl rfl rfl rfl rfl AD.nil)) sN (λσ=>G0 ha σ.1.1 σ.1.2=some hl) (λσ=>[(0,AU 4 (AE Ai l)),(3,Am ha),(9,Am (l.length:Int)),(10,Am ha),(28,rB ((decide (300<(((Ap l ha).fKey).length:Int)))||(decide (300<(((Ap l ha).fValue).length:Int))))),(29,AU 4 (AE Ai l)),(30,Am ha),(33,AU 4 (AE Ab ((Ap l ha).fValue))),(34,Am (((Ap l ha).fValue).length:Int)),(35,Am σ.1.1),(36,rB σ.1.2)]) (λσ=>[]) ?_ ?_))))))))))))
     ·rintro⟨hV,hd,⟨⟩⟩ h7;refine BY (l':=[(0,AU 4 (AE Ai l)),(3,Am ha),(9,Am (l.length:Int)),(10,Am ha),(28,rB ((decide (300<(((Ap l ha).fKey).length:Int)))||(decide (300<(((Ap l ha).fValue).length:Int))))),(29,AU 4 (AE Ai l)),(30,Am ha),(33,AU 4 (AE Ab ((Ap l ha).fValue))),(34,Am (((Ap l ha).fValue).length:Int)),(35,Am hd)]) (H':=[]) rfl rfl ?_;obtain⟨h8,rfl,h9,hh,hm⟩:=CO h7;replace hh:Da l ha hd=some h9:=hh;unfold Da at hh;refine Ah (wv (Dv rfl rfl) (Aq (Ao (cz hh rfl (λhA hB=>?_) (λhA hC=>?_)))))
      ·refine A2 (AP (Ao (AK (Ah (wm rfl (wa rfl (Bx (wm rfl (wm rfl (wv (BB (enc:=Ai) (ys:=l) Hi Dt rfl rfl hg) (wv (Bn E1 rfl CS rfl rfl) (wv (Bu G5 rfl rfl) (wm rfl (ck hB λhD hE=>wv (BB (enc:=Ab) (ys:=(Ap l ha).fValue) CJ DR rfl rfl hD) (wv (Bn Cp rfl D1 rfl rfl) (wv (Bu Eb rfl rfl) (wv (Bv C3 rfl) (wv (DM rfl rfl) (Aq (cz hE rfl (λhG hH=>?_) (λhG hI=>?_)))))))))))))))))))))
       ·refine Ah (wa rfl (Aq (Ay (A0 (Ac (Ac (AX ?_)))))));have hJ:=B2 hH hm hn;refine A0 (A0 (Ac (Ac (AX ?_))));have hK:=B2 hJ hf hk;refine A0 (Ac ?_);obtain rfl:=Az hK;exact Ax (Ct X6 (AL rfl)) sN ⟨rfl,rfl⟩
       ·refine A2 (AJ (AP (An (ck hI λhL hN=>wv (BL rfl rfl hL) (wm rfl (At ?_))))));have hO:=B6 hN hm;exact A4 (AG (h8,hd+1,()) ⟨hO,Ab1 _⟩ (AD.c5 rfl rfl rfl rfl rfl (AD.c5 rfl rfl rfl rfl rfl AD.nil)) sN)
      ·refine B1 (A3 ?_);have hP:=Cm hC hm hn;exact A3 (Bj (AG ((hd,decide (hd<(((Ap l ha).fValue).length:Int))),()) hP (AD.c rfl (AD.c5 rfl rfl rfl rfl rfl (AD.c5 rfl rfl rfl rfl rfl AD.nil))) sN))
     ·rintro⟨⟨ho,hp⟩,⟨⟩⟩ hi;refine CU (l':=[(0,AU 4 (AE Ai l)),(3,Am ha),(9,Am (l.length:Int)),(10,Am ha),(28,rB ((decide (300<(((Ap l ha).fKey).length:Int)))||(decide (300<(((Ap l ha).fValue).length:Int))))),(29,AU 4 (AE Ai l)),(30,Am ha),(33,AU 4 (AE Ab ((Ap l ha).fValue))),(34,Am (((Ap l ha).fValue).length:Int)),(35,Am ho),(36,rB hp)]) (H':=[]) rfl rfl ?_;replace hi:G0 ha ho hp=some hl:=hi;unfold G0 at hi;refine Be (AJ (AP (An (ck hi λhQ hR=>wv (BL rfl rfl hQ) (wm rfl (At ?_))))));have hS:=B6 hR hf;exact A4 (AG (ht,ha+1,()) ⟨hS,Ab1 _⟩ (AD.c rfl (AD.c rfl (AD.c rfl AD.nil))) sN)
   ·refine B1 (A3 ?_);have hT:=Cm hx hf hk;exact A3 (Bj (AG ((),()) hT AD.nil sN))
  ·rintro⟨⟨⟩,⟨⟩⟩ hj;refine CU (l':=[]) (H':=[]) rfl rfl ?_;replace hj:Jo =some r:=hj;unfold Jo at hj;refine Be (AP (Ah (wa rfl (Aq (Ay ?_)))));obtain rfl:=Az hj;exact Ax (Ct X6 (AL rfl)) sN ⟨rfl,rfl⟩
theorem Zy (F:Nat)(l:(List (List Ae)))(r:Bool)(h:Wk F l=some r):Fn Tryz.prog GE 9 [AU 1 (AE AS l)] [] (λR H=>R=rB r∧H=[]):=by
 refine enter (n:=19) Tryz.func9 rfl Tryz.ntmps9 rfl (λw Z=>?_);unfold Wk at h;refine Ah (wa rfl (Aq (Ao (Ah (wm rfl (wv (B8 (ys:=l) (enc:=AS) Tn rfl) (wv (DM rfl rfl) (Aq (cz h rfl (λc1 h2=>?_) (λc1 h3=>?_))))))))))
 ·refine Ah (wa rfl (Aq (Ay (Ac ?_))));obtain rfl:=Az h2;exact Ax (Ct Tryz.results9 (AL rfl)) sN ⟨rfl,rfl⟩
 ·refine A2 (AP (Ao (Ah (wm rfl (wv (B8 (ys:=l) (enc:=AS) Tn rfl) (wv (r:=Am 0) (Al rfl) (Aq (AK (ob h3 λhg hh hf=>B0 (S:=Nat×(Int)×(Unit)) (V:=(Unit)×(Unit)) 0 (λσ=>BE (λσ=>Gp F l σ) σ.1 σ.2.1=some hg) (λσ=>[(0,AU 1 (AE AS l)),(2,rB false),(8,Am (l.length:Int)),(9,Am σ.2.1)]) (λσ=>[]) (λσ=>σ.1) (F,0,()) hh (AD.c rfl (AD.c rfl (AD.c rfl (AD.c rfl AD.nil)))) sN (λσ=>M1 =some r) (λσ=>[(2,rB false)]) (λσ=>[]) ?_ ?_)))))))))
  ·rintro⟨h1,ha,⟨⟩⟩ hi;refine BY (l':=[(0,AU 1 (AE AS l)),(2,rB false),(8,Am (l.length:Int)),(9,Am ha)]) (H':=[]) rfl rfl ?_;obtain⟨hj,rfl,t46,hb,he⟩:=CO hi;replace hb:Gp F l ha=some t46:=hb;unfold Gp at hb;refine Ah (wv (Dv rfl rfl) (Aq (Ao (cz hb rfl (λhk hl=>?_) (λhk hm=>?_)))))
   ·refine A2 (AP (Ao (AK (Ah (wm rfl (wa rfl (Bx (wm rfl (wm rfl (ck hl λhn ho=>wv (BB (enc:=AS) (ys:=l) Tn Tryz.sizeOf31 rfl rfl hn) (wv (Bu Tryz.isAgg31 rfl rfl) (ob ho λhp hq hr=>Gb Tryz.call22 (Wi F (Ap l ha) hp hq) rfl (wv (Cj rfl) (Aq (cz hr rfl (λhs ht=>?_) (λhs hu=>?_))))))))))))))))
    ·refine Ah (wa rfl (Aq (Ay (A0 (Ac (Ac (AX ?_)))))));have hw:=B2 ht he hf;refine A0 (Ac ?_);obtain rfl:=Az hw;exact Ax (Ct Tryz.results9 (AL rfl)) sN ⟨rfl,rfl⟩
    ·refine A2 (AJ (AP (An (ck hu λhx hy=>wv (BL rfl rfl hx) (wm rfl (At ?_))))));have hz:=B6 hy he;exact A4 (AG (hj,ha+1,()) ⟨hz,Ab1 _⟩ (AD.c rfl (AD.c rfl (AD.c rfl (AD.c rfl AD.nil)))) sN)
   ·refine B1 (A3 ?_);have h0:=Cm hm he hf;exact A3 (Bj (AG ((),()) h0 (AD.c rfl AD.nil) sN))
  ·rintro⟨⟨⟩,⟨⟩⟩ hd;refine CU (l':=[(2,rB false)]) (H':=[]) rfl rfl ?_;replace hd:M1 =some r:=hd;unfold M1 at hd;refine Be (AP (Ah (wa rfl (Aq (Ay ?_)))));obtain rfl:=Az hd;exact Ax (Ct Tryz.results9 (AL rfl)) sN ⟨rfl,rfl⟩
theorem Np (n:Int)(version:Int)(r:Ae)(h:RP n version=some r):Fn Tryz.prog GE 33 [Am n,Am version] [] (λR H=>R=BC (Ai r)∧H=[]):=by
 refine enter (n:=10) Tryz.func33 rfl Tryz.ntmps33 rfl (λw Z=>?_);unfold RP at h;refine Ah (BN (cs:=[rS ([]:Ag),rB false,rv (.slice none 0 0),Am 0]) Lh rfl rfl (λb1=>?_));refine Bx (wm rfl (wv (r:=BC [Am 3,Am n,rS ([]:Ag),Am 0]) (Hm rfl rfl rfl rfl) (AW (ys:=([(Aa.mk 3 n ([]:Ag) 0)]:List Aa)) (enc:=Ab) (css:=[[Am 3,Am n,rS ([]:Ag),Am 0]]) (xs:=[.tmp 6]) CJ DR Me rfl rfl rfl ⟨GR.agg ⟨Up.refl _,Up.refl _,Up.refl _,Up.refl _,trivial⟩,trivial⟩ rfl Bo rfl rfl rfl (λb2=>?_))));refine wm rfl (wv (r:=BC [rS ([107]:Ag),rB false,rv (.slice (some ⟨b2,0,none⟩) 1 1),Am version]) (Mg rfl rfl rfl rfl rfl rfl) (Bh (i:=1) Dt rfl rfl rfl ⟨(Cu rfl),(Cu rfl),(DL (i:=0) rfl),(Cu rfl),trivial⟩ rfl rfl (cs':=[rS ([107]:Ag),rB false,rv (.slice (some ⟨b2,0,none⟩) 1 1),Am version]) rfl (H':=[.row (.slice (some ⟨b2,0,none⟩) 1 1) 78 4 (AE Ab ([(Aa.mk 3 n ([]:Ag) 0)]:List Aa)),.blk b1 [rS ([107]:Ag),rB false,rv (.slice (some ⟨b2,0,none⟩) 1 1),Am version] 50]) rfl (Aq (Ay (WK.freeze (i:=0) rfl (WK.upBlk (i:=1) (cs':=[rS ([107]:Ag),rB false,AU 4 (AE Ab ([(Aa.mk 3 n ([]:Ag) 0)]:List Aa)),Am version]) rfl ⟨Up.refl _,Up.refl _,Up.fact (i:=0) rfl,Up.refl _,trivial⟩ ?_))))));obtain rfl:=Az h;exact Ax (Ct Tryz.results33 (Gh (i:=1) Kk Dt rfl rfl rfl)) (sS (sS sN)) ⟨rfl,rfl⟩
theorem WG (F:Nat)  (r:Ag×Int)(h:Sd F=some r):Fn Tryz.prog GE 46 [rv (.slice none 0 0)] [] (λR H=>R=C2 [rS r.1,Am r.2]∧H=[]):=by
 refine enter (n:=36) Tryz.func46 rfl Tryz.ntmps46 rfl (λw Z=>?_);unfold Sd at h;refine Ah (wv (r:=rS ([]:Ag)) (Aw rfl) (wa rfl (Bx (wa rfl (Aq (Ao (Ah (wm rfl (wv (r:=Am 0) (O0 D2 rfl) (wv (r:=Am 0) (Al rfl) (Aq (AK (ob h λo1 eo2 hK3=>B0 (S:=Nat×(Unit)×(Unit)) (V:=(Unit)×(Unit)) 0 (λσ=>BE (λσ=>Jv ) σ.1 σ.2.1=some o1) (λσ=>[(2,rS ([]:Ag)),(3,Am 0),(4,rv (.slice none 0 0)),(9,rv (.slice none 0 0)),(10,Am 0),(11,Am 0)]) (λσ=>[]) (λσ=>σ.1) (F,(),()) eo2 (AD.c rfl (AD.c5 rfl rfl rfl rfl rfl AD.nil)) sN (λσ=>Ju =some r) (λσ=>[(2,rS ([]:Ag)),(3,Am 0),(4,rv (.slice none 0 0))]) (λσ=>[]) ?_ ?_)))))))))))))
 ·rintro⟨n9,⟨⟩,⟨⟩⟩ hi7;refine BY (l':=[(2,rS ([]:Ag)),(3,Am 0),(4,rv (.slice none 0 0)),(9,rv (.slice none 0 0)),(10,Am 0),(11,Am 0)]) (H':=[]) rfl rfl ?_;obtain⟨m6,rfl,t4,h8,ht5⟩:=CO hi7;replace h8:Jv =some t4:=h8;unfold Jv at h8;refine Ah (wv (Dv rfl rfl) (Aq (Ao (Dp rfl (by decide) (B1 (A3 ?_))))));have hb:=Cm h8 ht5 hK3;exact A3 (Bj (AG ((),()) hb (AD.c rfl (AD.c rfl (AD.c rfl AD.nil))) sN))
 ·rintro⟨⟨⟩,⟨⟩⟩ ha;refine CU (l':=[(2,rS ([]:Ag)),(3,Am 0),(4,rv (.slice none 0 0))]) (H':=[]) rfl rfl ?_;replace ha:Ju =some r:=ha;unfold Ju at ha;refine Be (AP (Ah (wm rfl (wv (r:=rS ([]:Ag)) (TS GS C3 Oe rfl) (wa rfl (wa rfl (Aq (Ay ?_))))))));obtain rfl:=Az ha;exact Ax (EB Tryz.results46 (AL rfl) (AL rfl)) sN ⟨rfl,rfl⟩
theorem RW (F:Nat)  (r:Ag×Int)(h:Nx F=some r):Fn Tryz.prog GE 23 [rv (.slice none 0 0)] [] (λR H=>R=C2 [rS r.1,Am r.2]∧H=[]):=by
 refine enter (n:=38) Tryz.func23 rfl Tryz.ntmps23 rfl (λw Z=>?_);unfold Nx at h;refine Ah (wv (r:=rS ([]:Ag)) (Aw rfl) (wa rfl (Aq (Ao (Ah (wm rfl (WL.up (d:=10) (r:=AU 4 (AE Ai ([]:List Ae))) rfl (Up.le (Iw.nil _)) (ob h λr1 e3 h2=>Gb Tryz.call35 (Nu F ([]:List Ae) r1 e3) rfl (wa rfl (Bx (wm rfl (wv (Dj rfl rfl) (Aq (cz h2 rfl (λc4 h5=>?_) (λc4 h6=>?_)))))))))))))))
 ·refine Ah (wm rfl (wv (r:=rS ([]:Ag)) (Aw rfl) (wa rfl (Aq (Ay (Ac ?_))))));obtain rfl:=Az h5;exact Ax (EB US (AL rfl) (AL rfl)) sN ⟨rfl,rfl⟩
 ·refine A2 (AP (Ah (wa rfl (Aq (Ao (Ah (wm rfl (wv (r:=Am 0) (O0 Hi rfl) (wv (r:=Am 0) (Al rfl) (Aq (AK (ob h6 λo7 eo8 hK9=>B0 (S:=Nat×(Unit)×(Unit)) (V:=(Unit)×(Unit)) 0 (λσ=>BE (λσ=>He ) σ.1 σ.2.1=some o7) (λσ=>[(2,rS ([]:Ag)),(3,Am 0),(5,rv (.slice none 0 0)),(15,rv (.slice none 0 0)),(16,Am 0),(17,Am 0)]) (λσ=>[]) (λσ=>σ.1) (F,(),()) eo8 (AD.c rfl (AD.c5 rfl rfl rfl rfl rfl AD.nil)) sN (λσ=>Hd F =some r) (λσ=>[(2,rS ([]:Ag)),(3,Am 0),(5,rv (.slice none 0 0))]) (λσ=>[]) ?_ ?_))))))))))))
  ·rintro⟨hk,⟨⟩,⟨⟩⟩ hd;refine BY (l':=[(2,rS ([]:Ag)),(3,Am 0),(5,rv (.slice none 0 0)),(15,rv (.slice none 0 0)),(16,Am 0),(17,Am 0)]) (H':=[]) rfl rfl ?_;obtain⟨hl,rfl,he,ha,hf⟩:=CO hd;replace ha:He =some he:=ha;unfold He at ha;refine Ah (wv (Dv rfl rfl) (Aq (Ao (Dp rfl (by decide) (B1 (A3 ?_))))));have hg:=Cm ha hf hK9;exact A3 (Bj (AG ((),()) hg (AD.c rfl (AD.c rfl (AD.c rfl AD.nil))) sN))
  ·rintro⟨⟨⟩,⟨⟩⟩ hb;refine CU (l':=[(2,rS ([]:Ag)),(3,Am 0),(5,rv (.slice none 0 0))]) (H':=[]) rfl rfl ?_;replace hb:Hd F =some r:=hb;unfold Hd at hb;refine Be (AP (Ah (wm rfl (ob hb λhh hi hj=>Gb Tryz.call46 (WG F hh hi) rfl (wv (AF rfl rfl) (wv (AF rfl rfl) (wa rfl (wa rfl (Aq (Ay ?_))))))))));obtain rfl:=Az hj;exact Ax (EB US (AL rfl) (AL rfl)) sN ⟨rfl,rfl⟩
theorem Nq (F:Nat)  (r:Bool)(h:Lu F=some r):Fn Tryz.prog GE 10 [] [] (λR H=>R=rB r∧H=[]):=by
 refine enter (n:=86) Tryz.func10 rfl Tryz.ntmps10 rfl (λw Z=>?_);unfold Lu at h;refine Ah (wa rfl (Bx (ob h λr1 e3 h2=>DY (Hr:=[]) Tryz.call11 (RS r1 e3) rfl (Abo _) rfl ?_)));rintro _ _ ⟨b4,b5,b6,rfl,rfl⟩;refine wa rfl (Aq (Ao (Ah (wm rfl (wv (r:=rB false) (Pp ⟨_,X1⟩ rfl) (wm rfl (Bg (b:=false) rfl rfl rfl (wm rfl (Bg (b:=false) rfl rfl rfl (ob h2 λr7 e9 h8=>Gb UV (Np 1 0 r7 e9) rfl (Bg (b:=false) rfl rfl rfl (ob h8 λha h1 h3=>Gb UV (Np 2 0 ha h1) rfl (Bg (b:=false) rfl rfl rfl (AW (ys:=([r7,ha]:List Ae)) (enc:=Ai) (css:=[[rS r7.fKey,rB r7.fDelete,AU 4 (AE Ab r7.fValue),Am r7.fIfVersion],[rS ha.fKey,rB ha.fDelete,AU 4 (AE Ab ha.fValue),Am ha.fIfVersion]]) (xs:=[.tmp 15,.tmp 16]) Hi Dt Lh rfl rfl rfl ⟨GR.agg ⟨Up.refl _,Up.refl _,Up.refl _,Up.refl _,trivial⟩,GR.agg ⟨Up.refl _,Up.refl _,Up.refl _,Up.refl _,trivial⟩,trivial⟩ rfl Ck rfl rfl rfl (λhg=>?_)))))))))))))));refine Bg (b:=false) rfl rfl rfl (WL.freeze (i:=0) rfl (WL.up (d:=17) (r:=AU 4 (AE Ai ([r7,ha]:List Ae))) rfl (Up.fact (i:=0) rfl) (ob h3 λhh h4 h5=>DY (Hr:=[.fact (.slice (some ⟨hg,0,none⟩) 2 2) (AU 4 (AE Ai ([r7,ha]:List Ae)))]) Rq (GM F b4 b5 b6 r1 ([r7,ha]:List Ae) hh h4) rfl ((Aj (i:=1) rfl).trans (Abn _ ((Aj (i:=1) rfl).trans (Abn _ ((Aj (i:=1) rfl).trans (Abn _ (Abo _))))))) rfl ?_)));rintro _ _ ⟨rfl,rfl⟩;refine Bg (b:=false) rfl rfl rfl (wv (Dj rfl rfl) (wv (r:=rB (!decide (hh.1=19))) (AM (b:=false) rfl rfl rfl) (wm rfl (ck h5 λg17 h6=>Bg (b:=!decide (hh.1=19)) rfl rfl (Bool.not_eq_eq_eq_not.1 g17) (wm rfl (Bg (b:=!decide (hh.1=19)) rfl rfl (Bool.not_eq_eq_eq_not.1 g17) (ob h6 λhl h7 h9=>DY (Hr:=[.fact (.slice (some ⟨hg,0,none⟩) 2 2) (AU 4 (AE Ai ([r7,ha]:List Ae)))]) Tryz.call15 (Pu b4 b5 b6 hh.2 hl h7) rfl (Abo _) rfl ?_)))))));rintro _ _ ⟨rfl,rfl⟩;refine Bg (b:=!decide (hh.1=19)) rfl rfl (Bool.not_eq_eq_eq_not.1 g17) (wv (Dj rfl rfl) (wv (r:=rB (!decide (hl.1=0))) (AM (b:=!decide (hh.1=19)) rfl (Bool.not_eq_eq_eq_not.1 g17) rfl) (Aq (ck h9 λhA hB=>Dp (b:=!decide (hl.1=0)) rfl (Bool.not_eq_eq_eq_not.1 hA) (A2 (AP (Ah (wm rfl (ob hB λhb hC hD=>Gb UV (Np 5 0 hb hC) rfl (AW (ys:=([hb]:List Ae)) (enc:=Ai) (css:=[[rS hb.fKey,rB hb.fDelete,AU 4 (AE Ab hb.fValue),Am hb.fIfVersion]]) (xs:=[.tmp 27]) Hi Dt Lh rfl rfl rfl ⟨GR.agg ⟨Up.refl _,Up.refl _,Up.refl _,Up.refl _,trivial⟩,trivial⟩ rfl Ck rfl rfl rfl (λhi=>?_)))))))))));refine WL.freeze (i:=0) rfl (WL.up (d:=28) (r:=AU 4 (AE Ai ([hb]:List Ae))) rfl (Up.fact (i:=0) rfl) (ob hD λhu hE hG=>DY (Hr:=[.fact (.slice (some ⟨hi,0,none⟩) 1 1) (AU 4 (AE Ai ([hb]:List Ae))),.fact (.slice (some ⟨hg,0,none⟩) 2 2) (AU 4 (AE Ai ([r7,ha]:List Ae)))]) Rq (GM F b4 b5 b6 hl.2 ([hb]:List Ae) hu hE) rfl ((Aj (i:=1) rfl).trans (Abn _ ((Aj (i:=1) rfl).trans (Abn _ ((Aj (i:=1) rfl).trans (Abn _ (Abo _))))))) rfl ?_));rintro _ _ ⟨rfl,rfl⟩;refine wa rfl (Bx (wm rfl (ob hG λhd hH hI=>Gb UV (Np 5 0 hd hH) rfl (AW (ys:=([hd]:List Ae)) (enc:=Ai) (css:=[[rS hd.fKey,rB hd.fDelete,AU 4 (AE Ab hd.fValue),Am hd.fIfVersion]]) (xs:=[.tmp 31]) Hi Dt Lh rfl rfl rfl ⟨GR.agg ⟨Up.refl _,Up.refl _,Up.refl _,Up.refl _,trivial⟩,trivial⟩ rfl Ck rfl rfl rfl (λhj=>?_)))));refine WL.freeze (i:=0) rfl (WL.up (d:=32) (r:=AU 4 (AE Ai ([hd]:List Ae))) rfl (Up.fact (i:=0) rfl) (ob hI λhw hJ hK=>DY (Hr:=[.fact (.slice (some ⟨hj,0,none⟩) 1 1) (AU 4 (AE Ai ([hd]:List Ae))),.fact (.slice (some ⟨hi,0,none⟩) 1 1) (AU 4 (AE Ai ([hb]:List Ae))),.fact (.slice (some ⟨hg,0,none⟩) 2 2) (AU 4 (AE Ai ([r7,ha]:List Ae)))]) Rq (GM F b4 b5 b6 hu.2 ([hd]:List Ae) hw hJ) rfl ((Aj (i:=1) rfl).trans (Abn _ ((Aj (i:=1) rfl).trans (Abn _ ((Aj (i:=1) rfl).trans (Abn _ (Abo _))))))) rfl ?_));rintro _ _ ⟨rfl,rfl⟩;refine wa rfl (Bx (wm rfl (ob hK λhe hL hN=>Gb UV (Np 6 1 he hL) rfl (AW (ys:=([he]:List Ae)) (enc:=Ai) (css:=[[rS he.fKey,rB he.fDelete,AU 4 (AE Ab he.fValue),Am he.fIfVersion]]) (xs:=[.tmp 35]) Hi Dt Lh rfl rfl rfl ⟨GR.agg ⟨Up.refl _,Up.refl _,Up.refl _,Up.refl _,trivial⟩,trivial⟩ rfl Ck rfl rfl rfl (λhk=>?_)))));refine WL.freeze (i:=0) rfl (WL.up (d:=36) (r:=AU 4 (AE Ai ([he]:List Ae))) rfl (Up.fact (i:=0) rfl) (ob hN λhx hO hP=>DY (Hr:=[.fact (.slice (some ⟨hk,0,none⟩) 1 1) (AU 4 (AE Ai ([he]:List Ae))),.fact (.slice (some ⟨hj,0,none⟩) 1 1) (AU 4 (AE Ai ([hd]:List Ae))),.fact (.slice (some ⟨hi,0,none⟩) 1 1) (AU 4 (AE Ai ([hb]:List Ae))),.fact (.slice (some ⟨hg,0,none⟩) 2 2) (AU 4 (AE Ai ([r7,ha]:List Ae)))]) Rq (GM F b4 b5 b6 hw.2 ([he]:List Ae) hx hO) rfl ((Aj (i:=1) rfl).trans (Abn _ ((Aj (i:=1) rfl).trans (Abn _ ((Aj (i:=1) rfl).trans (Abn _ (Abo _))))))) rfl ?_));rintro _ _ ⟨rfl,rfl⟩;refine wa rfl (Bx (wm rfl (ob hP λhf hQ hR=>DY (Hr:=[.fact (.slice (some ⟨hk,0,none⟩) 1 1) (AU 4 (AE Ai ([he]:List Ae))),.fact (.slice (some ⟨hj,0,none⟩) 1 1) (AU 4 (AE Ai ([hd]:List Ae))),.fact (.slice (some ⟨hi,0,none⟩) 1 1) (AU 4 (AE Ai ([hb]:List Ae))),.fact (.slice (some ⟨hg,0,none⟩) 2 2) (AU 4 (AE Ai ([r7,ha]:List Ae)))]) Tryz.call17 (Z6 b4 b5 b6 hx.2 ([107]:Ag) hf hQ) rfl (Abo _) rfl ?_)));rintro _ _ ⟨rfl,rfl⟩;refine wm rfl (wv (AF rfl rfl) (wv (AF rfl rfl) (BN (cs:=[rS ([]:Ag),rv (.slice none 0 0),Am 0]) Li rfl rfl (λho=>?_))));refine Bh (i:=0) DS rfl rfl rfl (BK.c rfl) rfl rfl (cs':=[rS hf.1.fKey,AU 4 (AE Ab hf.1.fValue),Am hf.1.fVersion]) rfl (H':=[.blk ho (Au hf.1) 35,.blk b4 [rv (.map (some b5)),rv (.map (some b6))] 59,.map b5 (AH Ad hf.2.2.fItems),.map b6 (AH Ad hf.2.2.fChanged),.fact (.slice (some ⟨hk,0,none⟩) 1 1) (AU 4 (AE Ai ([he]:List Ae))),.fact (.slice (some ⟨hj,0,none⟩) 1 1) (AU 4 (AE Ai ([hd]:List Ae))),.fact (.slice (some ⟨hi,0,none⟩) 1 1) (AU 4 (AE Ai ([hb]:List Ae))),.fact (.slice (some ⟨hg,0,none⟩) 2 2) (AU 4 (AE Ai ([r7,ha]:List Ae)))]) rfl (wa rfl (Bx (wm rfl (wv (r:=BC [rS ([107]:Ag),rB true,rv (.slice none 0 0),Am 2]) (Ir rfl rfl rfl rfl rfl rfl) (AW (ys:=([(Ae.mk ([107]:Ag) true ([]:List Aa) 2)]:List Ae)) (enc:=Ai) (css:=[[rS ([107]:Ag),rB true,AU 4 (AE Ab ([]:List Aa)),Am 2]]) (xs:=[.tmp 44]) Hi Dt Lh rfl rfl rfl ⟨GR.agg ⟨Up.refl _,Up.refl _,Up.le (Iw.nil _),Up.refl _,trivial⟩,trivial⟩ rfl Ck rfl rfl rfl (λhy=>?_))))));refine WL.freeze (i:=0) rfl (WL.up (d:=45) (r:=AU 4 (AE Ai ([(Ae.mk ([107]:Ag) true ([]:List Aa) 2)]:List Ae))) rfl (Up.fact (i:=0) rfl) (ob hR λhz hS hT=>DY (Hr:=[.fact (.slice (some ⟨hy,0,none⟩) 1 1) (AU 4 (AE Ai ([(Ae.mk ([107]:Ag) true ([]:List Aa) 2)]:List Ae))),.blk ho (Au hf.1) 35,.fact (.slice (some ⟨hk,0,none⟩) 1 1) (AU 4 (AE Ai ([he]:List Ae))),.fact (.slice (some ⟨hj,0,none⟩) 1 1) (AU 4 (AE Ai ([hd]:List Ae))),.fact (.slice (some ⟨hi,0,none⟩) 1 1) (AU 4 (AE Ai ([hb]:List Ae))),.fact (.slice (some ⟨hg,0,none⟩) 2 2) (AU 4 (AE Ai ([r7,ha]:List Ae)))]) Rq (GM F b4 b5 b6 hf.2.2 ([(Ae.mk ([107]:Ag) true ([]:List Aa) 2)]:List Ae) hz hS) rfl ((Aj (i:=2) rfl).trans (Abn _ ((Aj (i:=2) rfl).trans (Abn _ ((Aj (i:=2) rfl).trans (Abn _ (Abo _))))))) rfl ?_));rintro _ _ ⟨rfl,rfl⟩;refine wa rfl (Bx (ob hT λhU hV hW=>Gb Tryz.call23 (RW F hU hV) rfl (wm rfl (wv (AF rfl rfl) (wv (AF rfl rfl) (wa rfl (wa rfl (Bx (wm rfl (wv (BT rfl rfl) (wm rfl (ck hW λhp hX=>wo hp (wm rfl (wo hp (wv (BT rfl rfl) (Kf rfl hp rfl (wm rfl (ck hX λhq hY=>wo hq (wm rfl (wo hq ?_))))))))))))))))))));refine wv (BT rfl rfl) (Kf rfl hq rfl (wm rfl (ck hY λh0 hZ=>wo h0 (wm rfl (Kf rfl h0 rfl (wm rfl (ck hZ λhm ga=>wo hm (vF GT rfl CD (wo hm (vL 4 Du rfl (wo hm (wv (BT rfl rfl) (Kf rfl hm rfl (wm rfl (ck ga λhr gb=>wo hr (wm rfl (wo hr (wv (BT rfl rfl) (Kf rfl hr rfl (wm rfl ?_))))))))))))))))))));refine ck gb λhn gc=>wo hn (wm rfl (wo hn (ob gc λgd ge gf=>DY (Hr:=[.fact (.slice (some ⟨hy,0,none⟩) 1 1) (AU 4 (AE Ai ([(Ae.mk ([107]:Ag) true ([]:List Aa) 2)]:List Ae))),.blk ho (Au hf.1) 35,.fact (.slice (some ⟨hk,0,none⟩) 1 1) (AU 4 (AE Ai ([he]:List Ae))),.fact (.slice (some ⟨hj,0,none⟩) 1 1) (AU 4 (AE Ai ([hd]:List Ae))),.fact (.slice (some ⟨hi,0,none⟩) 1 1) (AU 4 (AE Ai ([hb]:List Ae))),.fact (.slice (some ⟨hg,0,none⟩) 2 2) (AU 4 (AE Ai ([r7,ha]:List Ae)))]) Tryz.call15 (Pu b4 b5 b6 hz.2 gd ge) rfl (Abo _) rfl ?_)));rintro _ _ ⟨rfl,rfl⟩;refine wo hn (wv (BT rfl rfl) (Kf rfl hn rfl (wm rfl (ck gf λhs gg=>wo hs (wm rfl (wo hs (wv (H9 rfl rfl) (Kf rfl hs rfl (wm rfl (ck gg λht gh=>wo ht (wm rfl (wo ht (wv (BT rfl rfl) (Kf rfl ht rfl (wa rfl (Aq (Ay ?_)))))))))))))))));obtain rfl:=Az gh;exact Ax (Ct Tryz.results10 (AL rfl)) (sS (sS (sS (sS (sS (sS (sS (sS (sS sN))))))))) ⟨rfl,rfl⟩
end Go.Proofs.YtjfnokmpfekniaaGreatDoor.Q
namespace Go.Proofs.YtjfnokmpfekniaaGreatDoor
open Go
set_option linter.unusedVariables false
structure BR where
 fMade:Bool
 fItems:(List Af)
 deriving DecidableEq,Inhabited
def Gw (l:(List Af))(key:Ag)(ha:Int):Option (Stp (Int) (Out (Int×Bool) (Int))):=
 AR (imp (decide (ha<(l.length:Int))) (CG ha (l.length:Int)))<|AV (((decide (ha<(l.length:Int)))&&(B3 ((Ap l ha).fKey) key))) (AR (B7 .i64 (ha+1))<|some (.next (ha+1))) (some (.out (.go ha)))
def Oq (l:(List Af))(key:Ag)(ha:Int):Option (Int×Bool):=
 AR (imp (decide (ha<(l.length:Int))) (CG ha (l.length:Int)))<|some (ha,((decide (ha<(l.length:Int)))&&(decide (((Ap l ha).fKey)=key))))
def R6 (F:Nat)(l:(List Af))(key:Ag):Option (Int×Bool):=
 Bi (BE (λσ=>Gw l key σ) F 0) (By λν=>Oq l key ν)
def R5 (F:Nat)(c:Ae):Option (Int):=
 Bi (ZF F c.fKey) λr2=>AV (!r2) (some 4) (AV (((decide (c.fIfVersion<(-1)))||(decide (1000000000000<c.fIfVersion)))) (some 2) (AV (!c.fDelete) (Bi (R9 F c.fValue) λha=>some ha) (AV (decide (0<(c.fValue.length:Int))) (some 7) (some 0))))
def GY (F:Nat)(l:(List Ae))(ha:Int):Option (Stp (Int) (Out (Int) (Unit))):=
 AV (decide (ha<(l.length:Int))) (AR (CG ha (l.length:Int))<|Bi (R5 F (Ap l ha)) λhb=>AV (!decide (hb=0)) (some (.out (.ret hb))) (AR (B7 .i64 (ha+1))<|some (.next (ha+1)))) (some (.out (.go ())))
def XN :Option (Int):=
 some 0
def Zk (F:Nat)(l:(List Ae)):Option (Int):=
 AV (decide (256<(l.length:Int))) (some 3) (Bi (BE (λσ=>GY F l σ) F 0) (By λν=>XN ))
def MZ (F:Nat)(l:(List Af))(c:Ae):Option ((List Af)×Int):=
 Bi (R6 F l c.fKey) λr2=>AV (r2.2) (AR (CG r2.1 (l.length:Int))<|AV (((decide (0≤c.fIfVersion))&&(!decide (c.fIfVersion=((Ap l r2.1).fVersion))))) (some (([]:List Af),19)) (AR (GU r2.1 (l.length:Int))<|AR (Dw 48 (([]:List Af).length+(List.take (Int.toNat r2.1) l).length))<|AV (!c.fDelete) (AV (decide (((Ap l r2.1).fVersion)=1000000000000)) (some (([]:List Af),8)) (AR (B7 .i64 (((Ap l r2.1).fVersion)+1))<|AR (Dw 48 ((([]:List Af)++(List.take (Int.toNat r2.1) l)).length+([(Af.mk c.fKey c.fValue (((Ap l r2.1).fVersion)+1))]:List Af).length))<|AR (B7 .i64 (r2.1+1))<|AR (GU (r2.1+1) (l.length:Int))<|AR (Dw 48 (((([]:List Af)++(List.take (Int.toNat r2.1) l))++([(Af.mk c.fKey c.fValue (((Ap l r2.1).fVersion)+1))]:List Af)).length+(List.drop (Int.toNat (r2.1+1)) l).length))<|some (((([]:List Af)++(List.take (Int.toNat r2.1) l))++([(Af.mk c.fKey c.fValue (((Ap l r2.1).fVersion)+1))]:List Af))++(List.drop (Int.toNat (r2.1+1)) l),0))) (AR (B7 .i64 (r2.1+1))<|AR (GU (r2.1+1) (l.length:Int))<|AR (Dw 48 ((([]:List Af)++(List.take (Int.toNat r2.1) l)).length+(List.drop (Int.toNat (r2.1+1)) l).length))<|some ((([]:List Af)++(List.take (Int.toNat r2.1) l))++(List.drop (Int.toNat (r2.1+1)) l),0)))) (AV (((decide (0≤c.fIfVersion))&&(!decide (c.fIfVersion=0)))) (some (([]:List Af),19)) (AR (GU r2.1 (l.length:Int))<|AR (Dw 48 (([]:List Af).length+(List.take (Int.toNat r2.1) l).length))<|AV (!c.fDelete) (AV (decide ((l.length:Int)=256)) (some (([]:List Af),3)) (AR (Dw 48 ((([]:List Af)++(List.take (Int.toNat r2.1) l)).length+([(Af.mk c.fKey c.fValue 1)]:List Af).length))<|AR (Dw 48 (((([]:List Af)++(List.take (Int.toNat r2.1) l))++([(Af.mk c.fKey c.fValue 1)]:List Af)).length+(List.drop (Int.toNat r2.1) l).length))<|some (((([]:List Af)++(List.take (Int.toNat r2.1) l))++([(Af.mk c.fKey c.fValue 1)]:List Af))++(List.drop (Int.toNat r2.1) l),0))) (AR (Dw 48 ((([]:List Af)++(List.take (Int.toNat r2.1) l)).length+(List.drop (Int.toNat r2.1) l).length))<|some ((([]:List Af)++(List.take (Int.toNat r2.1) l))++(List.drop (Int.toNat r2.1) l),0))))
def ED (F:Nat)(q:BR)(l:(List Ae))(hd:(List Af))(ha:Int):Option (Stp ((List Af)×Int) (Out (Int×BR) ((List Af)))):=
 AV (decide (ha<(l.length:Int))) (AR (CG ha (l.length:Int))<|Bi (MZ F hd (Ap l ha)) λhb=>AV (!decide (hb.2=0)) (some (.out (.ret (hb.2,q)))) (AR (B7 .i64 (ha+1))<|some (.next (hb.1,ha+1)))) (some (.out (.go hd)))
def TH (q:BR)(ha:(List Af)):Option (Int×BR):=
 some (0,(BR.mk q.fMade ha))
def V6 (F:Nat)(q:BR)(l:(List Ae)):Option (Int×BR):=
 AV (!q.fMade) (some (10,q)) (Bi (Zk F l) λr4=>AV (!decide (r4=0)) (some (r4,q)) (Bi (BE (λσ=>ED F q l σ.1 σ.2) F (q.fItems,0)) (By λν=>TH q ν)))
def DK (a:(List Aa))(b:(List Aa))(ha:Int):Option (Stp (Int) (Out (Bool) (Unit))):=
 AV (decide (ha<(a.length:Int))) (AR (CG ha (a.length:Int))<|AR (CG ha (b.length:Int))<|AV (!(decide (((Ap a ha).fKind)=((Ap b ha).fKind))&&decide (((Ap a ha).fInt)=((Ap b ha).fInt))&&decide (((Ap a ha).fStr)=((Ap b ha).fStr))&&decide (((Ap a ha).fN)=((Ap b ha).fN)))) (some (.out (.ret false))) (AR (B7 .i64 (ha+1))<|some (.next (ha+1)))) (some (.out (.go ())))
def Je :Option (Bool):=
 some true
def GF (F:Nat)(a:(List Aa))(b:(List Aa)):Option (Bool):=
 AV (!decide ((a.length:Int)=(b.length:Int))) (some false) (Bi (BE (λσ=>DK a b σ) F 0) (By λν=>Je ))
def DI (F:Nat)(a:(List Af))(b:(List Af))(ha:Int):Option (Stp (Int) (Out (Bool) (Unit))):=
 AV (decide (ha<(a.length:Int))) (AR (CG ha (a.length:Int))<|AR (CG ha (b.length:Int))<|AR (imp (!(!decide (((Ap a ha).fKey)=((Ap b ha).fKey)))) (imp (!(!decide (((Ap a ha).fVersion)=((Ap b ha).fVersion)))) ((GF F ((Ap a ha).fValue) ((Ap b ha).fValue)).isSome)))<|AV (((!decide (((Ap a ha).fKey)=((Ap b ha).fKey)))||((!decide (((Ap a ha).fVersion)=((Ap b ha).fVersion)))||(!(ov (GF F ((Ap a ha).fValue) ((Ap b ha).fValue))))))) (some (.out (.ret false))) (AR (B7 .i64 (ha+1))<|some (.next (ha+1)))) (some (.out (.go ())))
def Jd :Option (Bool):=
 some true
def JR (F:Nat)(a:(List Af))(b:(List Af)):Option (Bool):=
 AV (!decide ((a.length:Int)=(b.length:Int))) (some false) (Bi (BE (λσ=>DI F a b σ) F 0) (By λν=>Jd ))
end Go.Proofs.YtjfnokmpfekniaaGreatDoor
namespace Go.Proofs.YtjfnokmpfekniaaGreatDoor.Q
open Go Go.RowKit
set_option linter.unusedVariables false
set_option linter.unusedSimpArgs false
set_option maxRecDepth 100000
set_option maxHeartbeats 4000000
theorem Xt {a0 b0:Int}{a1 b1:Int}{a2 b2:Ag}{a3 b3:Int}(w:World):(Op.equalIn 10000 78 (.agg #[.int .i64 a0,.int .i64 a1,.string (B a2),.int .i64 a3]) (.agg #[.int .i64 b0,.int .i64 b1,.string (B b2),.int .i64 b3])).run Tryz.prog w = .ok (decide (a0=b0)&&decide (a1=b1)&&decide (a2=b2)&&decide (a3=b3)) w:=by
  have hS:Tryz.prog.underlying 78=some (.struct (Tryz.prog.fieldsOf 78)):=by kernel_rfl
  have hp:Tryz.prog.stoodInHeld 78=false:=by kernel_rfl
  have u3:=UM;have ia3:=Du;have so3:=CD;have u9:=C3;have ia9:=Eb;have so9:=D1;have ha:=Tryz.underlying76;have hb:=Kj;have hd:=Ki;rw[show(10000:Nat)=9999+1 from rfl,run_equalIn_agg w 9999 78 _ _ hS hp];simp only[Program.fieldsOf,Cp]
  go_simp
  simp only[E0]
  by_cases h0:a0=b0<;>by_cases h1:a1=b1<;>by_cases h2:a2=b2<;>by_cases h3:a3=b3<;>simp[h0,h1,h2,h3]
theorem Q1 {n:Nat}{c:Cx}{l:Fr}{H:List Ent}{d:Option Nat}{ty rty:TypeId}{pos:String}{af:Array Edge}{g:Option (Nat×Bool)}{x y:Operand}{a0 b0:Int}{a1 b1:Int}{a2 b2:Ag}{a3 b3:Int}(hx:ev l x=some (BC [Am a0,Am a1,rS a2,Am a3]))(hy:ev l y=some (BC [Am b0,Am b1,rS b2,Am b3])):Bb Tryz.prog n c l H { dst:=d,op:=.binOp .neq 78 x y rty,type:=ty,pos:=pos,after:=af,guard:=g } (rB (!(decide (a0=b0)&&decide (a1=b1)&&decide (a2=b2)&&decide (a3=b3)))):=λa w Z ha hw=>by
  obtain⟨us,e1,q1⟩:=ha.ev hx;obtain⟨vs,e2,q2⟩:=ha.ev hy;have k1:=AZ.eq_rv (us:=[.int .i64 a0,.int .i64 a1,.string (B a2),.int .i64 a3]) q1;have k2:=AZ.eq_rv (us:=[.int .i64 b0,.int .i64 b1,.string (B b2),.int .i64 b3]) q2;subst k1;subst k2;have hm:Tryz.prog.eqGuardType Tryz.prog.depth 78=false:=by kernel_rfl
  have hb:=Xt (a0:=a0) (a1:=a1) (a2:=a2) (a3:=a3) (b0:=b0) (b1:=b1) (b2:=b2) (b3:=b3) w;refine⟨.bool (!(decide (a0=b0)&&decide (a1=b1)&&decide (a2=b2)&&decide (a3=b3))),rfl,?_⟩;have hg:=run_eqGuard_agg (P:=Tryz.prog) w .neq 78 x y #[.int .i64 a0,.int .i64 a1,.string (B a2),.int .i64 a3] #[.int .i64 b0,.int .i64 b1,.string (B b2),.int .i64 b3] hm;simp only[execOp,e1,e2,Sem.run_bind,hg,Result.andThen_ok,run_neq_struct,hb,Sem.run_pure]
theorem V5 (F:Nat)(a:(List Aa))(b:(List Aa))(r:Bool)(h:GF F a b=some r):Fn Tryz.prog GE 41 [AU 4 (AE Ab a),AU 4 (AE Ab b)] [] (λR H=>R=rB r∧H=[]):=by
 refine enter (n:=26) Tryz.func41 rfl Tryz.ntmps41 rfl (λw Z=>?_);unfold GF at h;refine Ah (wa rfl (Aq (Ao (Ah (wm rfl (wv (B8 (ys:=a) (enc:=Ab) CJ rfl) (wm rfl (wv (B8 (ys:=b) (enc:=Ab) CJ rfl) (wv (Dj rfl rfl) (Aq (cz h rfl (λc1 h2=>?_) (λc1 h3=>?_))))))))))))
 ·refine Ah (wa rfl (Aq (Ay (Ac ?_))));obtain rfl:=Az h2;exact Ax (Ct Tryz.results41 (AL rfl)) sN ⟨rfl,rfl⟩
 ·refine A2 (AP (Ao (Ah (wm rfl (wv (B8 (ys:=a) (enc:=Ab) CJ rfl) (wv (r:=Am 0) (Al rfl) (Aq (AK (ob h3 λhg hh hf=>B0 (S:=Nat×(Int)×(Unit)) (V:=(Unit)×(Unit)) 0 (λσ=>BE (λσ=>DK a b σ) σ.1 σ.2.1=some hg) (λσ=>[(0,AU 4 (AE Ab a)),(1,AU 4 (AE Ab b)),(12,Am (a.length:Int)),(13,Am σ.2.1)]) (λσ=>[]) (λσ=>σ.1) (F,0,()) hh (AD.c rfl (AD.c rfl (AD.c rfl (AD.c rfl AD.nil)))) sN (λσ=>Je =some r) (λσ=>[]) (λσ=>[]) ?_ ?_)))))))))
  ·rintro⟨h1,ha,⟨⟩⟩ hi;refine BY (l':=[(0,AU 4 (AE Ab a)),(1,AU 4 (AE Ab b)),(12,Am (a.length:Int)),(13,Am ha)]) (H':=[]) rfl rfl ?_;obtain⟨hj,rfl,hk,hb,he⟩:=CO hi;replace hb:DK a b ha=some hk:=hb;unfold DK at hb;refine Ah (wv (Dv rfl rfl) (Aq (Ao (cz hb rfl (λhl hm=>?_) (λhl hn=>?_)))))
   ·refine A2 (AP (Ao (AK (Ah (wm rfl (wa rfl (Aq (Ao (ck hm λho hp=>ck hp λhq hr=>CM [0,1,5,12,13] [⟨[],AU 4 (AE Ab a),0⟩,⟨[],Am ha,0⟩,⟨[0,1],HZ (Ab (Ap a ha)),0⟩,⟨[2],BC (Ab (Ap a ha)),0⟩,⟨[],AU 4 (AE Ab b),0⟩,⟨[],Am ha,0⟩,⟨[4,5],HZ (Ab (Ap b ha)),0⟩,⟨[6],BC (Ab (Ap b ha)),0⟩,⟨[3,7],rB (!(decide (((Ap a ha).fKind)=((Ap b ha).fKind))&&decide (((Ap a ha).fInt)=((Ap b ha).fInt))&&decide (((Ap a ha).fStr)=((Ap b ha).fStr))&&decide (((Ap a ha).fN)=((Ap b ha).fN)))),0⟩] [16,17,18,19,20,21,22,23,24,0,1,12,13] ?_ ?_)))))))))
    ·refine oq (Al rfl) (oq (Al rfl) (oq (BB (enc:=Ab) (ys:=a) CJ DR rfl rfl ho) (oq (EF Tq DR rfl rfl rfl) (oq (Al rfl) (oq (Al rfl) (oq (BB (enc:=Ab) (ys:=b) CJ DR rfl rfl hq) (oq (EF Tq DR rfl rfl rfl) (oq (Q1 rfl rfl) ?_))))))));exact Ci
    refine AP (cz hr rfl (λhs ht=>?_) (λhs hu=>?_))
    ·refine Ah (wa rfl (Aq (Ay (A0 (Ac (Ac (AX ?_)))))));have hw:=B2 ht he hf;refine A0 (Ac ?_);obtain rfl:=Az hw;exact Ax (Ct Tryz.results41 (AL rfl)) sN ⟨rfl,rfl⟩
    ·refine A2 (AJ (AP (An (ck hu λhx hy=>wv (BL rfl rfl hx) (wm rfl (At ?_))))));have hz:=B6 hy he;exact A4 (AG (hj,ha+1,()) ⟨hz,Ab1 _⟩ (AD.c rfl (AD.c rfl (AD.c rfl (AD.c rfl AD.nil)))) sN)
   ·refine B1 (A3 ?_);have h0:=Cm hn he hf;exact A3 (Bj (AG ((),()) h0 AD.nil sN))
  ·rintro⟨⟨⟩,⟨⟩⟩ hd;refine CU (l':=[]) (H':=[]) rfl rfl ?_;replace hd:Je =some r:=hd;unfold Je at hd;refine Be (AP (Ah (wa rfl (Aq (Ay ?_)))));obtain rfl:=Az hd;exact Ax (Ct Tryz.results41 (AL rfl)) sN ⟨rfl,rfl⟩
theorem Qg (F:Nat)(a:(List Af))(b:(List Af))(r:Bool)(h:JR F a b=some r):Fn Tryz.prog GE 19 [AU 3 (AE Au a),AU 3 (AE Au b)] [] (λR H=>R=rB r∧H=[]):=by
 refine enter (n:=55) Tryz.func19 rfl Tryz.ntmps19 rfl (λw Z=>?_);unfold JR at h;refine Ah (wa rfl (Aq (Ao (Ah (wm rfl (wv (B8 (ys:=a) (enc:=Au) I3 rfl) (wm rfl (wv (B8 (ys:=b) (enc:=Au) I3 rfl) (wv (Dj rfl rfl) (Aq (cz h rfl (λc1 h2=>?_) (λc1 h3=>?_))))))))))))
 ·refine Ah (wa rfl (Aq (Ay (Ac ?_))));obtain rfl:=Az h2;exact Ax (Ct Tryz.results19 (AL rfl)) sN ⟨rfl,rfl⟩
 ·refine A2 (AP (Ao (Ah (wm rfl (wv (B8 (ys:=a) (enc:=Au) I3 rfl) (wv (r:=Am 0) (Al rfl) (Aq (AK (ob h3 λhk hl hj=>B0 (S:=Nat×(Int)×(Unit)) (V:=(Unit)×(Unit)) 0 (λσ=>BE (λσ=>DI F a b σ) σ.1 σ.2.1=some hk) (λσ=>[(0,AU 3 (AE Au a)),(1,AU 3 (AE Au b)),(12,Am (a.length:Int)),(13,Am σ.2.1)]) (λσ=>[]) (λσ=>σ.1) (F,0,()) hl (AD.c rfl (AD.c rfl (AD.c rfl (AD.c rfl AD.nil)))) sN (λσ=>Jd =some r) (λσ=>[]) (λσ=>[]) ?_ ?_)))))))))
  ·rintro⟨h7,ha,⟨⟩⟩ hm;refine BY (l':=[(0,AU 3 (AE Au a)),(1,AU 3 (AE Au b)),(12,Am (a.length:Int)),(13,Am ha)]) (H':=[]) rfl rfl ?_;obtain⟨hn,rfl,ho,hg,hi⟩:=CO hm;replace hg:DI F a b ha=some ho:=hg;unfold DI at hg;refine Ah (wv (Dv rfl rfl) (Aq (Ao (cz hg rfl (λhp hq=>?_) (λhp hr=>?_)))))
   ·refine A2 (AP (Ao (AK (Ah (wm rfl (wa rfl (Aq (ck hq λhe hs=>ck hs λhf ht=>ck ht λhu hw=>AO [(0,AU 3 (AE Au a)),(1,AU 3 (AE Au b)),(12,Am (a.length:Int)),(13,Am ha),(16,AU 3 (AE Au a)),(17,Am ha),(18,HZ (Au (Ap a ha))),(19,HZ (Au (Ap a ha))),(20,rS ((Ap a ha).fKey)),(21,AU 3 (AE Au b)),(22,Am ha),(23,HZ (Au (Ap b ha))),(24,HZ (Au (Ap b ha))),(25,rS ((Ap b ha).fKey)),(26,rB (!decide (((Ap a ha).fKey)=((Ap b ha).fKey)))),(27,rB (!decide (((Ap a ha).fKey)=((Ap b ha).fKey)))),(39,rB ((!decide (((Ap a ha).fKey)=((Ap b ha).fKey)))||(!decide (((Ap a ha).fVersion)=((Ap b ha).fVersion))))),(40,rB ((!decide (((Ap a ha).fKey)=((Ap b ha).fKey)))||(!decide (((Ap a ha).fVersion)=((Ap b ha).fVersion))))),(53,rB ((!decide (((Ap a ha).fKey)=((Ap b ha).fKey)))||((!decide (((Ap a ha).fVersion)=((Ap b ha).fVersion)))||(!(ov (GF F ((Ap a ha).fValue) ((Ap b ha).fValue)))))))] [] ?_ ?_))))))))
    ·refine AY (!decide (((Ap a ha).fKey)=((Ap b ha).fKey))) (λhb=>?_) (λhb=>?_)
     ·refine CM [0,1,5,12,13] [⟨[],AU 3 (AE Au a),0⟩,⟨[],Am ha,0⟩,⟨[0,1],HZ (Au (Ap a ha)),0⟩,⟨[2],HZ (Au (Ap a ha)),0⟩,⟨[3],rS ((Ap a ha).fKey),0⟩,⟨[],AU 3 (AE Au b),0⟩,⟨[],Am ha,0⟩,⟨[5,6],HZ (Au (Ap b ha)),0⟩,⟨[7],HZ (Au (Ap b ha)),0⟩,⟨[8],rS ((Ap b ha).fKey),0⟩,⟨[4,9],rB (!decide (((Ap a ha).fKey)=((Ap b ha).fKey))),0⟩,⟨[10],rB (!decide (((Ap a ha).fKey)=((Ap b ha).fKey))),0⟩,⟨[11],rv undef,0⟩,⟨[11],rv undef,0⟩,⟨[12,13,11],rv undef,0⟩,⟨[14,11],rv undef,0⟩,⟨[15,11],rv undef,0⟩,⟨[11],rv undef,0⟩,⟨[11],rv undef,0⟩,⟨[17,18,11],rv undef,0⟩,⟨[19,11],rv undef,0⟩,⟨[20,11],rv undef,0⟩,⟨[16,21,11],rv undef,0⟩,⟨[11,22],rB true,0⟩,⟨[23],rB true,0⟩,⟨[24],rv undef,0⟩,⟨[24],rv undef,0⟩,⟨[25,26,24],rv undef,0⟩,⟨[27,24],rv undef,0⟩,⟨[28,24],rv undef,0⟩,⟨[24],rv undef,0⟩,⟨[24],rv undef,0⟩,⟨[30,31,24],rv undef,0⟩,⟨[32,24],rv undef,0⟩,⟨[33,24],rv undef,0⟩,⟨[29,34,24],rv undef,0⟩,⟨[35,24],rv undef,0⟩,⟨[24,36],rB true,0⟩] [16,17,18,19,20,21,22,23,24,25,26,27,28,29,30,31,32,33,34,35,36,37,38,39,40,41,42,43,44,45,46,47,48,49,50,51,52,53,0,1,12,13] ?_ ?_
      ·refine oq (Al rfl) (oq (Al rfl) (oq (BB (enc:=Au) (ys:=a) I3 DS rfl rfl he) (oq (Bn GT rfl D1 rfl rfl) (oq (Bu Eb rfl rfl) (oq (Al rfl) (oq (Al rfl) (oq (BB (enc:=Au) (ys:=b) I3 DS rfl rfl hf) (oq (Bn GT rfl D1 rfl rfl) (oq (Bu Eb rfl rfl) (oq (KE rfl rfl) (oq (Al rfl) (oz hb (oz hb (oz hb (oz hb (oz hb (oz hb (oz hb (oz hb (oz hb (oz hb (oz hb (oq (A7 (b:=!decide (((Ap a ha).fKey)=((Ap b ha).fKey))) rfl hb rfl) ?_)))))))))))))))))))))));refine oq (Al rfl) (oz rfl (oz rfl (oz rfl (oz rfl (oz rfl (oz rfl (oz rfl (oz rfl (oz rfl (oz rfl (oz rfl (oz rfl (oq (A7 (b:=true) rfl rfl rfl) ?_)))))))))))));exact Ci
      exact D3 hb
     ·refine AY (!decide (((Ap a ha).fVersion)=((Ap b ha).fVersion))) (λhd=>?_) (λhd=>?_)
      ·refine CM [0,1,5,12,13] [⟨[],AU 3 (AE Au a),0⟩,⟨[],Am ha,0⟩,⟨[0,1],HZ (Au (Ap a ha)),0⟩,⟨[2],HZ (Au (Ap a ha)),0⟩,⟨[3],rS ((Ap a ha).fKey),0⟩,⟨[],AU 3 (AE Au b),0⟩,⟨[],Am ha,0⟩,⟨[5,6],HZ (Au (Ap b ha)),0⟩,⟨[7],HZ (Au (Ap b ha)),0⟩,⟨[8],rS ((Ap b ha).fKey),0⟩,⟨[4,9],rB (!decide (((Ap a ha).fKey)=((Ap b ha).fKey))),0⟩,⟨[10],rB (!decide (((Ap a ha).fKey)=((Ap b ha).fKey))),0⟩,⟨[11],AU 3 (AE Au a),0⟩,⟨[11],Am ha,0⟩,⟨[12,13,11],HZ (Au (Ap a ha)),0⟩,⟨[14,11],HZ [Am ((Ap a ha).fVersion)],0⟩,⟨[15,11],Am ((Ap a ha).fVersion),0⟩,⟨[11],AU 3 (AE Au b),0⟩,⟨[11],Am ha,0⟩,⟨[17,18,11],HZ (Au (Ap b ha)),0⟩,⟨[19,11],HZ [Am ((Ap b ha).fVersion)],0⟩,⟨[20,11],Am ((Ap b ha).fVersion),0⟩,⟨[16,21,11],rB (!decide (((Ap a ha).fVersion)=((Ap b ha).fVersion))),0⟩,⟨[11,22],rB (!decide (((Ap a ha).fVersion)=((Ap b ha).fVersion))),0⟩,⟨[23],rB (!decide (((Ap a ha).fVersion)=((Ap b ha).fVersion))),0⟩,⟨[24],rv undef,0⟩,⟨[24],rv undef,0⟩,⟨[25,26,24],rv undef,0⟩,⟨[27,24],rv undef,0⟩,⟨[28,24],rv undef,0⟩,⟨[24],rv undef,0⟩,⟨[24],rv undef,0⟩,⟨[30,31,24],rv undef,0⟩,⟨[32,24],rv undef,0⟩,⟨[33,24],rv undef,0⟩,⟨[29,34,24],rv undef,0⟩,⟨[35,24],rv undef,0⟩,⟨[24,36],rB true,0⟩] [16,17,18,19,20,21,22,23,24,25,26,27,28,29,30,31,32,33,34,35,36,37,38,39,40,41,42,43,44,45,46,47,48,49,50,51,52,53,0,1,12,13] ?_ ?_
       ·refine oq (Al rfl) (oq (Al rfl) (oq (BB (enc:=Au) (ys:=a) I3 DS rfl rfl he) (oq (Bn GT rfl D1 rfl rfl) (oq (Bu Eb rfl rfl) (oq (Al rfl) (oq (Al rfl) (oq (BB (enc:=Au) (ys:=b) I3 DS rfl rfl hf) (oq (Bn GT rfl D1 rfl rfl) (oq (Bu Eb rfl rfl) (oq (KE rfl rfl) (oq (Al rfl) (on hb (oq (Al rfl) (on hb (oq (Al rfl) (on hb (oq (BB (enc:=Au) (ys:=a) I3 DS rfl rfl he) (on hb (oq (Bn GT rfl CD rfl rfl) (on hb (oq (Bu Du rfl rfl) (on hb (oq (Al rfl) ?_)))))))))))))))))))))));refine on hb (oq (Al rfl) (on hb (oq (BB (enc:=Au) (ys:=b) I3 DS rfl rfl hf) (on hb (oq (Bn GT rfl CD rfl rfl) (on hb (oq (Bu Du rfl rfl) (on hb (oq (Dj rfl rfl) (oq (AM rfl hb rfl) (oq (Al rfl) (oz hd (oz hd (oz hd (oz hd (oz hd (oz hd (oz hd (oz hd (oz hd (oz hd (oz hd (oz hd ?_)))))))))))))))))))))));refine oq (A7 (b:=!decide (((Ap a ha).fVersion)=((Ap b ha).fVersion))) rfl hd rfl) ?_;exact Ci
       exact D3 (And.intro hb hd)
      ·refine CM [0,1,5,12,13] [⟨[],AU 3 (AE Au a),0⟩,⟨[],Am ha,0⟩,⟨[0,1],HZ (Au (Ap a ha)),0⟩,⟨[2],HZ (Au (Ap a ha)),0⟩,⟨[3],rS ((Ap a ha).fKey),0⟩,⟨[],AU 3 (AE Au b),0⟩,⟨[],Am ha,0⟩,⟨[5,6],HZ (Au (Ap b ha)),0⟩,⟨[7],HZ (Au (Ap b ha)),0⟩,⟨[8],rS ((Ap b ha).fKey),0⟩,⟨[4,9],rB (!decide (((Ap a ha).fKey)=((Ap b ha).fKey))),0⟩,⟨[10],rB (!decide (((Ap a ha).fKey)=((Ap b ha).fKey))),0⟩,⟨[11],AU 3 (AE Au a),0⟩,⟨[11],Am ha,0⟩,⟨[12,13,11],HZ (Au (Ap a ha)),0⟩,⟨[14,11],HZ [Am ((Ap a ha).fVersion)],0⟩,⟨[15,11],Am ((Ap a ha).fVersion),0⟩,⟨[11],AU 3 (AE Au b),0⟩,⟨[11],Am ha,0⟩,⟨[17,18,11],HZ (Au (Ap b ha)),0⟩,⟨[19,11],HZ [Am ((Ap b ha).fVersion)],0⟩,⟨[20,11],Am ((Ap b ha).fVersion),0⟩,⟨[16,21,11],rB (!decide (((Ap a ha).fVersion)=((Ap b ha).fVersion))),0⟩,⟨[11,22],rB (!decide (((Ap a ha).fVersion)=((Ap b ha).fVersion))),0⟩,⟨[23],rB (!decide (((Ap a ha).fVersion)=((Ap b ha).fVersion))),0⟩,⟨[24],AU 3 (AE Au a),0⟩,⟨[24],Am ha,0⟩,⟨[25,26,24],HZ (Au (Ap a ha)),0⟩,⟨[27,24],HZ [AU 4 (AE Ab ((Ap a ha).fValue)),Am ((Ap a ha).fVersion)],0⟩,⟨[28,24],AU 4 (AE Ab ((Ap a ha).fValue)),0⟩,⟨[24],AU 3 (AE Au b),0⟩,⟨[24],Am ha,0⟩,⟨[30,31,24],HZ (Au (Ap b ha)),0⟩,⟨[32,24],HZ [AU 4 (AE Ab ((Ap b ha).fValue)),Am ((Ap b ha).fVersion)],0⟩,⟨[33,24],AU 4 (AE Ab ((Ap b ha).fValue)),0⟩,⟨[29,34,24],rB (ov (GF F ((Ap a ha).fValue) ((Ap b ha).fValue))),0⟩,⟨[35,24],rB (!(ov (GF F ((Ap a ha).fValue) ((Ap b ha).fValue)))),0⟩,⟨[24,36],rB (!(ov (GF F ((Ap a ha).fValue) ((Ap b ha).fValue)))),0⟩] [16,17,18,19,20,21,22,23,24,25,26,27,28,29,30,31,32,33,34,35,36,37,38,39,40,41,42,43,44,45,46,47,48,49,50,51,52,53,0,1,12,13] ?_ ?_
       ·refine oq (Al rfl) (oq (Al rfl) (oq (BB (enc:=Au) (ys:=a) I3 DS rfl rfl he) (oq (Bn GT rfl D1 rfl rfl) (oq (Bu Eb rfl rfl) (oq (Al rfl) (oq (Al rfl) (oq (BB (enc:=Au) (ys:=b) I3 DS rfl rfl hf) (oq (Bn GT rfl D1 rfl rfl) (oq (Bu Eb rfl rfl) (oq (KE rfl rfl) (oq (Al rfl) (on hb (oq (Al rfl) (on hb (oq (Al rfl) (on hb (oq (BB (enc:=Au) (ys:=a) I3 DS rfl rfl he) (on hb (oq (Bn GT rfl CD rfl rfl) (on hb (oq (Bu Du rfl rfl) (on hb (oq (Al rfl) ?_)))))))))))))))))))))));refine on hb (oq (Al rfl) (on hb (oq (BB (enc:=Au) (ys:=b) I3 DS rfl rfl hf) (on hb (oq (Bn GT rfl CD rfl rfl) (on hb (oq (Bu Du rfl rfl) (on hb (oq (Dj rfl rfl) (oq (AM rfl hb rfl) (oq (Al rfl) (on hd (oq (Al rfl) (on hd (oq (Al rfl) (on hd (oq (BB (enc:=Au) (ys:=a) I3 DS rfl rfl he) (on hd (oq (Bn GT rfl CS rfl rfl) (on hd (oq (Bu G5 rfl rfl) (on hd (oq (Al rfl) ?_)))))))))))))))))))))));refine on hd (oq (Al rfl) (on hd (oq (BB (enc:=Au) (ys:=b) I3 DS rfl rfl hf) (on hd (oq (Bn GT rfl CS rfl rfl) (on hd (oq (Bu G5 rfl rfl) (ET rfl (λH=>SF (b:=!decide (((Ap a ha).fVersion)=((Ap b ha).fVersion))) rfl rfl hd (KD Tryz.call41 (V5 F ((Ap a ha).fValue) ((Ap b ha).fValue) (ov (GF F ((Ap a ha).fValue) ((Ap b ha).fValue))) (Zn (II (II hu hb) hd))) rfl)) ?_))))))));refine on hd (oq (Cj rfl) (oq (AM rfl hd rfl) ?_));exact Ci
       exact D3 (And.intro hb hd)
    refine cz hw rfl (λhx hy=>?_) (λhx hz=>?_)
    ·refine Ah (wa rfl (Aq (Ay (A0 (Ac (Ac (AX ?_)))))));have h0:=B2 hy hi hj;refine A0 (Ac ?_);obtain rfl:=Az h0;exact Ax (Ct Tryz.results19 (AL rfl)) sN ⟨rfl,rfl⟩
    ·refine A2 (AJ (AP (An (ck hz λh1 h4=>wv (BL rfl rfl h1) (wm rfl (At ?_))))));have h5:=B6 h4 hi;exact A4 (AG (hn,ha+1,()) ⟨h5,Ab1 _⟩ (AD.c rfl (AD.c rfl (AD.c rfl (AD.c rfl AD.nil)))) sN)
   ·refine B1 (A3 ?_);have h6:=Cm hr hi hj;exact A3 (Bj (AG ((),()) h6 AD.nil sN))
  ·rintro⟨⟨⟩,⟨⟩⟩ hh;refine CU (l':=[]) (H':=[]) rfl rfl ?_;replace hh:Jd =some r:=hh;unfold Jd at hh;refine Be (AP (Ah (wa rfl (Aq (Ay ?_)))));obtain rfl:=Az hh;exact Ax (Ct Tryz.results19 (AL rfl)) sN ⟨rfl,rfl⟩
end Go.Proofs.YtjfnokmpfekniaaGreatDoor.Q
namespace Go.Proofs.YtjfnokmpfekniaaGreatDoor
open Go
def NW (k:IntKind)(x y:Int):Int:=k.wrap ((BitVec.ofInt k.bits x&&& BitVec.ofInt k.bits y).toNat:Int)
def HT (k:IntKind)(x y:Int):Int:=k.wrap ((BitVec.ofInt k.bits x||| BitVec.ofInt k.bits y).toNat:Int)
def Ge (k:IntKind)(x y:Int):Int:=k.wrap ((BitVec.ofInt k.bits x^^^BitVec.ofInt k.bits y).toNat:Int)
def Uw (k:IntKind)(x:Int):Int:=Ge k (if k.signed then -1 else k.max) x
def C7 (k:IntKind)(x n:Int):Int:=k.wrap (x*2 ^ (min n.toNat k.bits))
def BX (k:IntKind)(x n:Int):Int:=x.fdiv (2 ^ (min n.toNat k.bits))
set_option linter.unusedVariables false
def EI (hb:Int)(ha:Int):Option (Stp (Int×Int) (Out (Stp (Int×(List Int)) (Out ((List Int)) ((List Int)))) (Int×Int×Bool))):=
 AV (decide (ha<8)) (AR (B7 .i64 (ha+1))<|some (.next ((bif decide ((NW .u32 hb 1)=1) then Ge .u32 (BX .u32 hb 1) 3988292384 else BX .u32 hb 1),ha+1))) (some (.out (.go (hb,ha,decide (ha<8)))))
def HG (ha:Int)(hb:(List Int))(hd:Int)(he:Int)(hf:Bool):Option (Stp (Int×(List Int)) (Out ((List Int)) ((List Int)))):=
 AR (CG ha 256)<|AR (CG ha (hb.length:Int))<|AR (B7 .i64 (ha+1))<|some (.next (ha+1,List.set hb (Int.toNat ha) hd))
def EJ (F:Nat)(ha:Int)(hb:(List Int)):Option (Stp (Int×(List Int)) (Out ((List Int)) ((List Int)))):=
 AV (decide (ha<256)) (Bi (BE (λσ=>EI σ.1 σ.2) F (IntKind.wrap .u32 ha,0)) (By λν=>HG ha hb ν.1 ν.2.1 ν.2.2)) (some (.out (.go hb)))
def HH (ha:(List Int)):Option ((List Int)):=
 AR (decide (ha.length=256))<|AR (decide ((List.replicate 256 (0:Int)).length=256))<|some ha
def Nz (F:Nat) :Option ((List Int)):=
 Bi (BE (λσ=>EJ F σ.1 σ.2) F (0,List.replicate 256 (0:Int))) (By λν=>HH ν)
def Gr (s:Ag)(r1:(List Int))(hb:Int)(ha:Int):Option (Stp (Int×Int) (Out (Int) (Int))):=
 AV (decide (ha<(s.length:Int))) (AR (CG ha (s.length:Int))<|AR (CG (Ge .u8 (IntKind.wrap .u8 hb) (Ba s ha)) 256)<|AR (CG (Ge .u8 (IntKind.wrap .u8 hb) (Ba s ha)) (r1.length:Int))<|AR (B7 .i64 (ha+1))<|some (.next (Ge .u32 (Ap r1 (Ge .u8 (IntKind.wrap .u8 hb) (Ba s ha))) (BX .u32 hb 8),ha+1))) (some (.out (.go hb)))
def M5 (ha:Int):Option (Int):=
 some (Uw .u32 ha)
def Uz (F:Nat)(s:Ag):Option (Int):=
 Bi (Nz F) λr1=>AR (decide ((List.replicate 256 (0:Int)).length=256))<|AR (decide (r1.length=256))<|Bi (BE (λσ=>Gr s r1 σ.1 σ.2) F (4294967295,0)) (By λν=>M5 ν)
def Jw (n:Int):Option (Ag):=
 some (NQ ([IntKind.wrap .u8 (BX .u32 n 24),IntKind.wrap .u8 (BX .u32 n 16),IntKind.wrap .u8 (BX .u32 n 8),IntKind.wrap .u8 n]:List Int))
def Jt (s:Ag):Option (Int):=
 AR (CG 0 (s.length:Int))<|AR (CG 1 (s.length:Int))<|AR (CG 2 (s.length:Int))<|AR (CG 3 (s.length:Int))<|some (HT .u32 (HT .u32 (HT .u32 (C7 .u32 (IntKind.wrap .u32 (Ba s 0)) 24) (C7 .u32 (IntKind.wrap .u32 (Ba s 1)) 16)) (C7 .u32 (IntKind.wrap .u32 (Ba s 2)) 8)) (IntKind.wrap .u32 (Ba s 3)))
def EX (fields:(List Ag))(hb:(List Int))(ha:Int):Option (Stp ((List Int)×Int) (Out (Ag×Int) ((List Int)))):=
 AV (decide (ha<(fields.length:Int))) (AR (CG ha (fields.length:Int))<|AV (decide (4000<((Ap fields ha).length:Int))) (some (.out (.ret (([]:Ag),3)))) (AR (Dw 1 (hb.length+([IntKind.wrap .u8 (BX .i64 ((Ap fields ha).length:Int) 8),IntKind.wrap .u8 ((Ap fields ha).length:Int)]:List Int).length))<|AR (Dw 1 ((hb++([IntKind.wrap .u8 (BX .i64 ((Ap fields ha).length:Int) 8),IntKind.wrap .u8 ((Ap fields ha).length:Int)]:List Int)).length+(Ap fields ha).length))<|AR (B7 .i64 (ha+1))<|some (.next ((hb++([IntKind.wrap .u8 (BX .i64 ((Ap fields ha).length:Int) 8),IntKind.wrap .u8 ((Ap fields ha).length:Int)]:List Int))++CC (Ap fields ha),ha+1)))) (some (.out (.go hb)))
def KW (ha:(List Int)):Option (Ag×Int):=
 some (NQ ha,0)
def OG (F:Nat)(fields:(List Ag)):Option (Ag×Int):=
 AV (decide (64<(fields.length:Int))) (some (([]:Ag),3)) (Bi (BE (λσ=>EX fields σ.1 σ.2) F (([IntKind.wrap .u8 (fields.length:Int)]:List Int),0)) (By λν=>KW ν))
def Dm (ha:Int):Option ((List Ag)×Int):=
 some (([]:List Ag),ha)
def Cr (s:Ag)(ha:Ag)(hb:(List Ag))(hh:Int)(hd:Int):Option (Stp (Ag×(List Ag)×Int×Int) (Out ((List Ag)×Int) (Ag×(List Ag)))):=
 AV (decide (hd<(Ba s 0))) (AV (decide ((ha.length:Int)<2)) (Bi (Dm 14) λhe=>some (.out (.ret he))) (AR (CG 0 (ha.length:Int))<|AR (B7 .i64 (Ba ha 0))<|AR (CG 1 (ha.length:Int))<|AR (B7 .i64 (Ba ha 1))<|AR (GU 2 (ha.length:Int))<|AV (decide (4000<(HT .i64 (C7 .i64 (Ba ha 0) 8) (Ba ha 1)))) (Bi (Dm 13) λhf=>some (.out (.ret hf))) (AV (decide (((List.drop (Int.toNat 2) ha).length:Int)<(HT .i64 (C7 .i64 (Ba ha 0) 8) (Ba ha 1)))) (Bi (Dm 14) λhg=>some (.out (.ret hg))) (AR (GU (HT .i64 (C7 .i64 (Ba ha 0) 8) (Ba ha 1)) ((List.drop (Int.toNat 2) ha).length:Int))<|AR (Dw 16 (hb.length+([List.take (Int.toNat (HT .i64 (C7 .i64 (Ba ha 0) 8) (Ba ha 1))) (List.drop (Int.toNat 2) ha)]:List Ag).length))<|AR (B7 .i64 (hd+1))<|some (.next (List.drop (Int.toNat (HT .i64 (C7 .i64 (Ba ha 0) 8) (Ba ha 1))) (List.drop (Int.toNat 2) ha),hb++([List.take (Int.toNat (HT .i64 (C7 .i64 (Ba ha 0) 8) (Ba ha 1))) (List.drop (Int.toNat 2) ha)]:List Ag),HT .i64 (C7 .i64 (Ba ha 0) 8) (Ba ha 1),hd+1)))))) (some (.out (.go (ha,hb))))
def Eg (hb:Ag)(ha:(List Ag)):Option ((List Ag)×Int):=
 AV (!decide (hb=([]:Ag))) (Dm 13) (AR (GU (ha.length:Int) (ha.length:Int))<|some (List.take (Int.toNat (ha.length:Int)) ha,0))
def KV (F:Nat)(s:Ag):Option ((List Ag)×Int):=
 AV (decide (s=([]:Ag))) (Dm 14) (AR (CG 0 (s.length:Int))<|AR (B7 .i64 (Ba s 0))<|AR (GU 1 (s.length:Int))<|AV (decide (64<(Ba s 0))) (Dm 13) (Bi (BE (λσ=>Cr s σ.1 σ.2.1 σ.2.2.1 σ.2.2.2) F (List.drop (Int.toNat 1) s,([]:List Ag),0,0)) (By λν=>Eg ν.1 ν.2)))
def N2 (F:Nat)(body:Ag):Option (Ag×Int):=
 AV (decide (262136<(body.length:Int))) (some (([]:Ag),3)) (Bi (Jw (IntKind.wrap .u32 (body.length:Int))) λr4=>Bi (Uz F body) λr7=>Bi (Jw r7) λha=>AR (B7 .i64 ((r4.length:Int)+(ha.length:Int)))<|AR (B7 .i64 (((r4++ha).length:Int)+(body.length:Int)))<|some ((r4++ha)++body,0))
def QU (F:Nat)(s:Ag):Option (Ag×Int×Int):=
 AV (decide ((s.length:Int)<8)) (some (([]:Ag),0,14)) (Bi (Jt s) λr4=>AV (decide (262136<(IntKind.wrap .i64 r4))) (some (([]:Ag),0,13)) (AR (B7 .i64 ((s.length:Int)-8))<|AV (decide (((s.length:Int)-8)<(IntKind.wrap .i64 r4))) (some (([]:Ag),0,14)) (AR (B7 .i64 (8+(IntKind.wrap .i64 r4)))<|AR (GU 8 (8+(IntKind.wrap .i64 r4)))<|AR (GU (8+(IntKind.wrap .i64 r4)) (s.length:Int))<|Bi (Uz F (List.take (Int.toNat (8+(IntKind.wrap .i64 r4))-Int.toNat 8) (List.drop (Int.toNat 8) s))) λha=>AR (GU 4 (s.length:Int))<|Bi (Jt (List.drop (Int.toNat 4) s)) λhb=>AV (!decide (ha=hb)) (some (([]:Ag),0,13)) (some (List.take (Int.toNat (8+(IntKind.wrap .i64 r4))-Int.toNat 8) (List.drop (Int.toNat 8) s),8+(IntKind.wrap .i64 r4),0)))))
def EK (F:Nat)(s:Ag)(hd:(List Ag))(ha:Int):Option (Stp ((List Ag)×Int) (Out ((List Ag)×Int) ((List Ag)×Int))):=
 AV (decide (ha<(s.length:Int))) (AR (GU ha (s.length:Int))<|Bi (QU F (List.drop (Int.toNat ha) s)) λhb=>AV (!decide (hb.2.2=0)) (some (.out (.go (hd,ha)))) (AR (Dw 16 (hd.length+([hb.1]:List Ag).length))<|AR (B7 .i64 (ha+hb.2.1))<|some (.next (hd++([hb.1]:List Ag),ha+hb.2.1)))) (some (.out (.go (hd,ha))))
def HJ (ha:(List Ag))(hb:Int):Option ((List Ag)×Int):=
 AR (GU (ha.length:Int) (ha.length:Int))<|some (List.take (Int.toNat (ha.length:Int)) ha,hb)
def N1 (F:Nat)(s:Ag):Option ((List Ag)×Int):=
 Bi (BE (λσ=>EK F s σ.1 σ.2) F (([]:List Ag),0)) (By λν=>HJ ν.1 ν.2)
def Ey (F:Nat)(bodies:(List Ag))(hb:(List Int))(hd:Int):Option (Stp ((List Int)×Int) (Out (Ag×Int) ((List Int)))):=
 AV (decide (hd<(bodies.length:Int))) (AR (CG hd (bodies.length:Int))<|Bi (N2 F (Ap bodies hd)) λha=>AR (imp (!(!decide (ha.2=0))) (B7 .i64 ((hb.length:Int)+(ha.1.length:Int))))<|AV (((!decide (ha.2=0))||(decide (262144<((hb.length:Int)+(ha.1.length:Int)))))) (some (.out (.ret (([]:Ag),3)))) (AR (Dw 1 (hb.length+ha.1.length))<|AR (B7 .i64 (hd+1))<|some (.next (hb++CC ha.1,hd+1)))) (some (.out (.go hb)))
def IL (ha:(List Int)):Option (Ag×Int):=
 some (NQ ha,0)
def QV (F:Nat)(bodies:(List Ag)):Option (Ag×Int):=
 Bi (BE (λσ=>Ey F bodies σ.1 σ.2) F (([]:List Int),0)) (By λν=>IL ν)
end Go.Proofs.YtjfnokmpfekniaaGreatDoor
namespace Go.Proofs.YtjfnokmpfekniaaGreatDoor.Q
open Go Go.RowKit
set_option linter.unusedVariables false
set_option linter.unusedSimpArgs false
section
variable {P : Program} {n : Nat} {c : Cx} {l : Fr} {H : List Ent} {d : Option Nat} {x y : Operand} {t t' ty : TypeId} {pos : String} {af : Array Edge} {g : Option (Nat × Bool)} {k k' : IntKind} {p q : Int}
theorem Aap (hx:ev l x=some (rI k p))(hy:ev l y=some (rI k q)):Bb P n c l H { dst:=d,op:=.binOp .and t x y t',type:=ty,pos:=pos,after:=af,guard:=g } (rI k (NW k p q)):=λa w Z ha _=>C9<|by
 simp[execOp,ha.eval hx,ha.eval hy,Bs,binOp,Op.intBits,NW]
theorem XT (hx:ev l x=some (rI k p))(hy:ev l y=some (rI k q)):Bb P n c l H { dst:=d,op:=.binOp .or t x y t',type:=ty,pos:=pos,after:=af,guard:=g } (rI k (HT k p q)):=λa w Z ha _=>C9<|by
 simp[execOp,ha.eval hx,ha.eval hy,Bs,binOp,Op.intBits,HT]
theorem VM (hx:ev l x=some (rI k p))(hy:ev l y=some (rI k q)):Bb P n c l H { dst:=d,op:=.binOp .xor t x y t',type:=ty,pos:=pos,after:=af,guard:=g } (rI k (Ge k p q)):=λa w Z ha _=>C9<|by
 simp[execOp,ha.eval hx,ha.eval hy,Bs,binOp,Op.intBits,Ge]
theorem SG (hx:ev l x=some (rI k p))(hy:ev l y=some (rI k' q))(h0:decide (0≤q)=true):Bb P n c l H { dst:=d,op:=.binOp .shl t x y t',type:=ty,pos:=pos,after:=af,guard:=g } (rI k (C7 k p q)):=λa w Z ha _=>C9<|by
 have h1 : ¬ q<0:=by have:=Abt h0;omega
 simp[execOp,ha.eval hx,ha.eval hy,Bs,binOp,Op.shift,C7,h1]
theorem Oz (hx:ev l x=some (rI k p))(hy:ev l y=some (rI k' q))(h0:decide (0≤q)=true):Bb P n c l H { dst:=d,op:=.binOp .shr t x y t',type:=ty,pos:=pos,after:=af,guard:=g } (rI k (BX k p q)):=λa w Z ha _=>C9<|by
 have h1 : ¬ q<0:=by have:=Abt h0;omega
 simp[execOp,ha.eval hx,ha.eval hy,Bs,binOp,Op.shift,BX,h1]
theorem XY (hx:ev l x=some (rI k p)):Bb P n c l H { dst:=d,op:=.unOp .xor t x,type:=ty,pos:=pos,after:=af,guard:=g } (rI k (Uw k p)):=λa w Z ha _=>C9<|by
 simp[execOp,ha.eval hx,Op.unary,Op.intBits,Uw,Ge]
end
theorem Zv {α:Type}[Inhabited α]{enc:α→Rp}{ys:List α}{j:Int}(hg:CG j (ys.length:Int)=true):(List.map enc ys)[j.toNat]? =some (enc (Ap ys j)):=by
 have h0:=(CA hg).1;have h1:=(CA hg).2;have hl:j.toNat<ys.length:=by omega
 simp[Ap,Abs hl]
theorem Ye {α:Type}{enc:α→Rp}{ys:List α}{j:Int}(hg:CG j (ys.length:Int)=true):Nat.blt j.toNat (List.map enc ys).length=true:=by
 have h0:=(CA hg).1;have h1:=(CA hg).2;simp;omega
section
variable {P : Program} {n : Nat} {c : Cx} {ops : Array Oper} {Q : Exit → Act → World → Prop} {rest : List Oper} {l : Fr} {H H' : List Ent} {d : Nat} {d' : Option Nat} {x y : Operand} {t ty e : TypeId} {pos : String} {af : Array Edge} {g : Option (Nat × Bool)} {k : IntKind} {b i len : Nat} {j : Int}
theorem VT (ht:P.underlying t=some (.array len e))(hz:∀w,(sizeOf e).run P w = .ok 1 w)(hx:ev l x=some (rv (.pointer (some ⟨b,0,none⟩))))(hy:ev l y=some (rI k j))(hg:CG j (len:Int)=true) :
  Bb P n c l H { dst:=d',op:=.indexAddr t x y,type:=ty,pos:=pos,after:=af,guard:=g } (rv (.pointer (some ⟨b,j.toNat,none⟩))):=λa w Z ha hw=>C9<|by
 have h0:=(CA hg).1;have h1:=(CA hg).2;simp[execOp,ha.eval hx,ha.eval hy,Instr.indexAt,Instr.sureAddr,asIntOf,run_underlying ht,h0,h1,hz,I1]
theorem VS {α:Type}[Inhabited α]{enc:α→Rp}{ys:List α}(hag:∀w,(isAgg t).run P w = .ok false w)(hx:ev l x=some (rv (.pointer (some ⟨b,j.toNat,none⟩))))(hi:H[i]? =some (.blk b (List.map enc ys) e))(hg:CG j (ys.length:Int)=true) :
  Bb P n c l H { dst:=d',op:=.load t x,type:=ty,pos:=pos,after:=af,guard:=g } (enc (Ap ys j)):=AT hag hx hi (Zv hg)
theorem T2 {α:Type}[Inhabited α]{enc:α→Rp}{ys:List α}{v:α}(hag:∀w,(sizeOf t).run P w = .ok 1 w)(hx:ev l x=some (rv (.pointer (some ⟨b,j.toNat,none⟩))))(hy:ev l y=some (enc v))(hv:Rk H (enc v))
  (hi:H[i]? =some (.blk b (List.map enc ys) e)) (hg:CG j (ys.length:Int)=true) (hH:H.set i (.blk b (List.map enc (List.set ys j.toNat v)) e)=H')
  (h:WL P n c ops Q rest l H'):WL P n c ops Q ({ dst:=none,op:=.store t x y,type:=ty,pos:=pos,after:=af,guard:=none }::rest) l H:=
 B5 hag hx hy hv hi (Ye hg) (cs':=List.map enc (List.set ys j.toNat v)) (by rw[List.map_set]) hH h
theorem RJ {α:Type}{enc:α→Rp}{ys:List α}{sz:Nat}(hag:∀w,(isAgg t).run P w = .ok true w)(hsz:∀w,(sizeOf t).run P w = .ok sz w)(hx:ev l x=some (rv (.pointer (some ⟨b,0,none⟩))))(hi:H[i]? =some (.blk b (List.map enc ys) e))(hl:decide (ys.length=sz)=true) :
  Bb P n c l H { dst:=d',op:=.load t x,type:=ty,pos:=pos,after:=af,guard:=g } (BC (List.map enc ys)):=BH hag hsz hx hi (by rw[List.drop_zero,List.take_of_length_le (by rw[Abx];have:=Abt hl;omega)]) (by rw[Abx];exact Abt hl)
theorem LN {α:Type}{enc:α→Rp}{ys zs:List α}{sz:Nat}(hsz:∀w,(sizeOf t).run P w = .ok sz w)(hx:ev l x=some (rv (.pointer (some ⟨b,0,none⟩))))(hy:ev l y=some (BC (List.map enc zs)))(h1:∀x,(enc x).one=true)
  (hi:H[i]? =some (.blk b (List.map enc ys) e)) (hl:decide (ys.length=sz)=true) (hl2:decide (zs.length=sz)=true) (hH:H.set i (.blk b (List.map enc zs) e)=H')
  (h:WL P n c ops Q rest l H'):WL P n c ops Q ({ dst:=none,op:=.store t x y,type:=ty,pos:=pos,after:=af,guard:=none }::rest) l H:=
 Bh hsz hx hy (by rw[Abx];exact Abt hl2) (BK.c (by simp[List.all_map,h1])) hi (by have:=Abt hl;simp;omega)
  (cs':=List.map enc zs) (by have:=Abt hl;rw[List.take_zero,AbJ,List.drop_of_length_le (by rw[Abx];omega),AbK]) hH h
theorem Yh {α:Type}{enc:α→Rp}{ys:List α}{sz:Nat}(hl:decide (ys.length=sz)=true):(List.map enc ys).length=sz:=by rw[Abx];exact Abt hl
end
section
variable {P : Program} {n : Nat} {c : Cx} {Q : Exit → Act → World → Prop} {l : Fr} {H : List Ent} {x rest' : Code} {K : Act → World → Prop}
theorem IY {lb:Nat}(h:WK n c (Q (.goto lb)) l H):WC P n c (.goto lb) Q l H:=λa w Z ha hw=>wp_goto (h a w Z ha hw)
theorem BF {lb:Nat}(h:WK n c (Q (.goto lb)) l H):WK n c (Exit.then K Q (.goto lb)) l H:=h
theorem E7 {id lb:Nat}(h:WK n c (Q (.goto lb)) l H):WK n c (Exit.inBlock id Q (.goto lb)) l H:=h
theorem I4 {id lb:Nat}(h:WK n c (Q (.goto lb)) l H):WK n c (Xb id K Q (.goto lb)) l H:=h
theorem X8 {lb:Nat}(h:WK n c (Q .ret) l H):WK n c (Exit.jump lb K Q .ret) l H:=h
theorem IW {lb:Nat}(h:WK n c K l H):WK n c (Exit.jump lb K Q (.goto lb)) l H:=λa w Z ha hw=>⟨rfl,h a w Z ha hw⟩
theorem NL {S:Type}(lb:Nat)(inv:S→Prop)(fr:S→Fr)(hp:S→List Ent)(hf:findLabel x lb=some rest')
  (h1:WC P n c x (Exit.jump lb (Hh n c inv fr hp) Q) l H) (h2:∀s,inv s→WC P n c rest' (Exit.noGoto Q) (fr s) (hp s)):WC P n c (.scope x) Q l H:=λa w Z ha hw=>
 wp_scope_jumps lb (Hh n c inv fr hp) (λ_ _=>0) hf (h1 a w Z ha hw) (by
  rintro a w ⟨s,Z,hi,ha,hw⟩;refine wp_mono (h2 s hi a w Z ha hw) λe a w q=>?_
  cases e with
  | goto _=>exact q.elim
  | _=>exact q)
end
section
variable {P : Program} {n : Nat} {c : Cx} {ops : Array Oper} {Q : Exit → Act → World → Prop} {rest : List Oper} {l : Fr} {H H' : List Ent} {d : Nat} {d' : Option Nat} {x y z3 z4 : Operand} {ty t t' e : TypeId} {pos : String} {af : Array Edge} {g : Option (Nat × Bool)} {v u : Value} {r : Rp} {sz : Nat}
theorem LR {α:Type}{ys:List α}{enc:α→List Rp}{k' k'':IntKind}{j:Int}(ht:P.underlying t=some (.slice e))(hz:∀w,(sizeOf e).run P w = .ok sz w)(h:ev l x=some (AU sz (ys.map enc)))(hj:ev l z3=some (rI k' j))(hm:ev l z4=some (rI k'' j))(hg2:GU j (ys.length:Int)=true) :
  Bb P n c l H { dst:=d',op:=.slice t x none (some z3) (some z4),type:=ty,pos:=pos,after:=af,guard:=g } (AU sz ((ys.take j.toNat).map enc)):=λa w Z ha hw=>by
 obtain⟨A,cap,e1,hc1,hc2,hA,hc⟩:=ha.ev h;have h0:=(CV hg2).1;have h2:=(CV hg2).2;simp only[Abx] at e1 hc1;have h3:j≤(cap:Int):=by omega
 refine⟨.slice A j.toNat j.toNat,⟨A,j.toNat,?_,?_,by omega,?_,λq cl hq=>?_⟩,?_⟩
 ·congr 1
  simp;omega
 ·simp;omega
 ·intro hn;have:=hA hn;omega
 ·rw[AbO,AbV] at hq
  split at hq
  ·exact hc q cl (by rw[AbO];exact hq)
  ·cases hq
 ·have hA':A.map (λb=>b.add 0)=A:=by
   cases A with
   | none=>rfl
   | some ad=>obtain⟨b,o,sp⟩:=ad;cases sp<;>rfl
  simp[execOp,e1,ha.eval hj,ha.eval hm,Instr.sliceAt,Instr.slice,run_underlying ht,Instr.sliceBounds,Bw (m:=cap) _ _ h0 h3,Bw (m:=j.toNat) _ _ h0 (by omega),hz]
  try (intro _;cases A<;>rfl)
end
structure Sx where
 deps:List Nat
 r:Value→Rp
 dyn:Bool:=false
 old:List Nat:=[]
def HR (sp:List Sx)(i:Nat):Sx:=sp.getD i { deps:=[],r:=λ_=>rv undef }
def Xx (sp:List Sx)(u:Value):List Sp:=sp.map λs=>⟨s.deps,s.r u,0⟩
def saU (sp:List Sx)(u:Value):List Sa:=sp.map λs=>{ deps:=s.deps,r:=s.r u }
def NJ:List Sx→Prop
 | []=>True
 | s::r=>(s.dyn=false→∀u u',s.r u=s.r u')∧NJ r
theorem NJ.at:∀{sp:List Sx},NJ sp→∀{i:Nat} {s:Sx},sp[i]? =some s→s.dyn=false→∀u u',s.r u=s.r u'
 | [],_,i,s,h=>by simp at h
 | x::sp,⟨h1,h2⟩,0,s,h=>by simp at h;subst h;exact h1
 | x::sp,⟨h1,h2⟩,i+1,s,h=>NJ.at h2 (by simpa using h)
theorem AaM {ds os:List Nat}{r:Rp}{sp:List Sx}(h:NJ sp):NJ ({ deps:=ds,r:=λ_=>r,old:=os }::sp):=⟨λ_ _ _=>rfl,h⟩
theorem AaL {ds os:List Nat}{r:Value→Rp}{sp:List Sx}(h:NJ sp):NJ ({ deps:=ds,r:=r,dyn:=true,old:=os }::sp):=⟨λh'=>(by cases h'),h⟩
def Iq (lw:Fr):List Nat→Fr→Fr
 | [],l=>l
 | d::r,l=>match look lw d with
  | some q=>(d,q)::Iq lw r l
  | none=>Iq lw r l
theorem Ti {n:Nat}{lw l:Fr}{a:Act}{Z:Fz}(h0:CK n l a Z):∀{ds:List Nat},(∀d∈ds,∀q,look lw d=some q→∃v,a.tmps[d]? =some v∧q.p Z v)→CK n (Iq lw ds l) a Z
 | [],_=>h0
 | d::ds,h=>by
  have ih:=Ti h0 (ds:=ds) (λd' hd'=>h d' (by simp[hd']));unfold Iq
  cases hd:look lw d with
  | none=>exact ih
  | some q=>
   refine⟨ih.size,ih.defers,λi r hi=>?_⟩;rw[Cf] at hi
   split at hi
   ·rename_i e;subst e;simp at hi;subst hi;exact h d (by simp) q hd
   ·exact ih.tm i r hi
theorem AaK:NJ []:=trivial
def okX (n:Nat)(ops:List Oper)(N i0:Nat)(keys:List Nat)(deps:List (List Nat))(dyns:List Bool)(olds:List (List Nat)):Bool:=
 P4 ops N&&decide (N≤ops.length)&&decide (i0<N)&&
 (List.range N).all (λi=>match Cy ops i with
  | some d=>decide (d<n)&&!keys.contains d&&(List.range N).all (λj=>j ==i||Cy ops j !=some d)
  | none=>true)&&
 (List.range N).all (λi=>(deps.getD i []).all (λj=>decide (j<N)&&(Ep (ops.getD i default)).contains j))&&
 (List.range N).all (λi=>!dyns.getD i false||i ==i0||(Ep (ops.getD i default)).any (λe=>decide (e<N)&&(e ==i0||dyns.getD e false)))&&
 (List.range N).all (λi=>(olds.getD i []).all (λd=>(List.range N).all (λw=>Cy ops w !=some d||(Ep (ops.getD w default)).contains i)))
section
variable (P : Program) (n : Nat) (c : Cx) (opsA : Array Oper) (Q : Exit → Act → World → Prop)
def OpX (l:Fr)(H:List Ent)(o:Oper)(H1:Value→List Ent):Prop:=
 ∀a w Z (K:Act→World→Prop),CK n l a Z→St c H Z w→(∀v w' Z',Fz.le Z Z'→St c (H1 v) Z' w'→K (a.put o.dst v) w')→
  Region.wanted o (yielded opsA a.tmps)=true∧o.wp P a w K Q
def LF (ops:List Oper)(sp:List Sx)(l0 lw:Fr)(i0:Nat)(H:List Ent)(H1:Value→List Ent):Nat→List Oper→Prop
 | i,o::rest=>(if i=i0 then(∀u,OpX P n c opsA Q (Iq lw (HR sp i).old (BV ops (Xx sp u) (HR sp i).deps l0)) H o H1) else ∀u H,Ga P n c opsA Q (Iq lw (HR sp i).old (BV ops (Xx sp u) (HR sp i).deps l0)) H o ((HR sp i).r u) H)∧LF ops sp l0 lw i0 H H1 (i+1) rest
 | _,[]=>True
end
section
variable {P : Program} {n : Nat} {c : Cx} {opsA : Array Oper} {Q : Exit → Act → World → Prop} {l l0 lw : Fr} {H : List Ent} {H1 : Value → List Ent} {sp : List Sx} {i0 : Nat}
theorem LF.at {ops:List Oper}:∀{k:Nat} {rest:List Oper},LF P n c opsA Q ops sp l0 lw i0 H H1 k rest→∀(t:Nat) o,rest[t]? =some o→
  (if k+t=i0 then(∀u,OpX P n c opsA Q (Iq lw (HR sp (k+t)).old (BV ops (Xx sp u) (HR sp (k+t)).deps l0)) H o H1) else ∀u H,Ga P n c opsA Q (Iq lw (HR sp (k+t)).old (BV ops (Xx sp u) (HR sp (k+t)).deps l0)) H o ((HR sp (k+t)).r u) H)
 | k,o::rest,⟨h1,h2⟩,t,o',ht=>by
  cases t with
  | zero=>simp at ht;subst ht;exact h1
  | succ t=>
   have:=LF.at h2 t o' (by simpa using ht);rw[show k+(t+1)=k+1+t from by omega];exact this
 | _,[],_,t,o,h=>by simp at h
theorem X9 {id:Nat}{ops:List Oper}(N i0:Nat)(sp:List Sx)(hm:P.follows .mixedOrders=true)(hB:okX n ops N i0 (Ex l0) (sp.map (·.deps)) (sp.map (·.dyn)) (sp.map (·.old))=true)(hl0:UJ l0 l)(hlw:UJ lw l)(hsp:sp.length=N)(hst:NJ sp)(hri:∀u,(HR sp i0).r u=rv u)
  (hob:LF P n c ops.toArray Q ops sp l0 lw i0 H H1 0 (ops.take N)) (h:∀u,WL P n c ops.toArray Q (ops.drop N) (Md (λ_=>0) (ops.take N) (saU sp u) 0 l0) (H1 u)):WC P n c (.region id ops.toArray true) Q l H:=by
 intro a w Z ha hw;simp only[okX,Abp,AbE,List.mem_range,Abh] at hB;obtain⟨⟨⟨⟨⟨⟨b1,bN⟩,b0⟩,b2⟩,b3⟩,b4⟩,b5⟩:=hB;have hget:∀i,i<N→(ops.take N)[i]? =ops[i]?:=λi hi=>by rw[AbV,AbY hi]
 have hsa:∀i,i<N→sp[i]? =some (HR sp i):=λi hi=>by
  simp[HR,Abu,Abs (show i<sp.length by omega)]
 have hspq:∀u i,i<N→(DG (Xx sp u) i)=⟨(HR sp i).deps,(HR sp i).r u,0⟩:=λu i hi=>by
  simp[DG,Xx,Abu,AbO,hsa i hi]
 have hdyn:∀j,j<N→(sp.map (·.dyn)).getD j false=(HR sp j).dyn:=λj hj=>by simp[Abu,AbO,hsa j hj]
 have hdep:∀j,j<N→(sp.map (·.deps)).getD j []=(HR sp j).deps:=λj hj=>by simp[Abu,AbO,hsa j hj]
 have hops:∀j,j<N→∃o,ops[j]? =some o:=λj hj=>⟨ops[j]'(by omega),Abs (by omega)⟩
 have hdst:∀i o d,i<N→ops[i]? =some o→o.dst=some d→(d<n∧d ∉ Ex l0)∧∀j,j<N→j≠i→Cy ops j≠some d:=λi o d hi ho hd=>by
  have h3:=b2 i hi;have:Cy ops i=some d:=by simp[Cy,ho,hd]
  rw[this] at h3;simp only[Abp,Ab0,AbE,List.mem_range,Abh] at h3;refine⟨⟨h3.1.1,λhmem=>by rw[← List.contains_iff_mem] at hmem;rw[hmem] at h3;cases h3.1.2⟩,λj hj hne he=>?_⟩;have:=h3.2 j hj;simp[hne,he] at this
 refine UY (N:=N) hm b1 bN (λS a w=>∃ (u:Value) (Z:Fz),St c (if S i0=true then H1 u else H) Z w∧CK n l0 a Z∧(∀j o d,j<N→S j=true→ops[j]? =some o→o.dst=some d→∃v,a.tmps[d]? =some v∧((HR sp j).r u).p Z v)∧
   (∀j,j<N→(HR sp j).dyn=true→S j=true→S i0=true)∧
   (∀d q,look lw d=some q→(∀wr,wr<N→Cy ops wr=some d→S wr=false)→∃v,a.tmps[d]? =some v∧q.p Z v)∧
   ∀wr i d,wr<N→i<N→Cy ops wr=some d→d∈(HR sp i).old→S wr=true→S i=true)
  (λS S' a w hS hI=>?_) ⟨undef,Z,?_,ha.subL hl0,λj o d _ hS=>(by cases hS),λj _ _ hS=>(by cases hS),λd q hd _=>(ha.subL hlw).tm d q hd,λwr i d _ _ _ _ hS=>(by cases hS)⟩ (λS i o a w hi hun ho hb hI K hK=>?_) (λa w hI=>?_)
 ·obtain⟨u,Z,h1,h2,h3,h4,h5,h6⟩:=hI;refine⟨u,Z,?_,h2,λj o d hj hS'=>h3 j o d hj (by rw[hS j hj];exact hS'),λj hj hd hSj=>?_,λd q hd hw'=>h5 d q hd (λwr hwr hdw=>by rw[hS wr hwr];exact hw' wr hwr hdw),λwr i d hwr hi hdw hold hSw=>by rw[← hS i hi];exact h6 wr i d hwr hi hdw hold (by rw[hS wr hwr];exact hSw)⟩
  ·rw[← hS i0 b0];exact h1
  ·rw[← hS i0 b0];exact h4 j hj hd (by rw[hS j hj];exact hSj)
 ·exact hw.drawn _
 ·obtain⟨u,Z,h1,h2,h3,hx,ho5,ho6⟩:=hI;have hput:∀k u v,a.tmps[k]? =some u→o.dst≠some k→(a.put o.dst v).tmps[k]? =some u:=λk u v hk hne=>by
   cases hd:o.dst with
   | none=>simpa[Act.put] using hk
   | some d=>
    simp only[Act.put,Array.getElem?_setIfInBounds];rw[AbN (λe=>hne (by rw[hd,e]))];exact hk
  have hagr:∀v Z',Fz.le Z Z'→CK n l0 (a.put o.dst v) Z':=λv Z' hz=>by
   refine⟨?_,?_,λk r hk=>?_⟩
   ·cases o.dst<;>simp[Act.put,h2.size]
   ·cases o.dst<;>simp[Act.put,h2.defers]
   ·obtain⟨u,hu,hpu⟩:=h2.tm k r hk;exact⟨u,hput k u v hu (λe=>((hdst i o k hi ho e).1).2 (KJ hk)),r.mono hz hpu⟩
  have hvals:∀(v:Value) (Z':Fz) (u':Value),Fz.le Z Z'→(∀j,j<N→j≠i→S j=true→(HR sp j).r u'=(HR sp j).r u)→(o.dst≠none→((HR sp i).r u').p Z' v)→∀j o' d,j<N→(j ==i||S j)=true→ops[j]? =some o'→o'.dst=some d→∃q,(a.put o.dst v).tmps[d]? =some q∧((HR sp j).r u').p Z' q:=by
   intro v Z' u' hz hβ hp j o' d hj hS' ho' hd
   by_cases hji:j=i
   ·subst hji;rw[ho] at ho';simp at ho';subst ho';refine⟨v,?_,hp (by simp[hd])⟩;have hdn:d<a.tmps.size:=by rw[h2.size];exact(hdst j o d hi ho hd).1.1
    simp[Act.put,hd,hdn]
   ·have hSj:S j=true:=by simpa[hji] using hS'
    obtain⟨q,hu,hpu⟩:=h3 j o' d hj hSj ho' hd;refine⟨q,hput d q v hu (λe=>(hdst i o d hi ho e).2 j hj hji (by simp[Cy,ho',hd])),?_⟩;rw[hβ j hj hji hSj];exact((HR sp j).r u).mono hz hpu
  have hat:=hob.at i o (by rw[hget i hi];exact ho);rw[AbU] at hat;have hold':∀Z',Fz.le Z Z'→∀v d q,look lw d=some q→(∀wr,wr<N→Cy ops wr=some d→(wr ==i||S wr)=false)→∃v',(a.put o.dst v).tmps[d]? =some v'∧q.p Z' v':=λZ' hz v d q hd hw'=>by
   obtain⟨v',e1,e2⟩:=ho5 d q hd (λwr hwr hdw=>by have:=hw' wr hwr hdw;simp only[Ab8] at this;exact this.2);refine⟨v',hput d v' v e1 (λe=>?_),q.mono hz e2⟩;have:=hw' i hi (by simp[Cy,ho,e]);simp at this
  have hord:∀wr k d,wr<N→k<N→Cy ops wr=some d→d∈(HR sp k).old→(wr ==i||S wr)=true→(k ==i||S k)=true:=λwr k d hwr hk hdw hmem hSw=>by
   by_cases hwi:wr=i
   ·subst hwi;have h7:=b5 k hk d (by simpa[Abu,AbO,hsa k hk] using hmem) wr hwr;simp only[AbQ,bne_iff_ne,ne_eq,hdw,not_true_eq_false,false_or] at h7;rw[Abu,ho,AbD,List.contains_iff_mem] at h7;simp[(hb k h7).2]
   ·have:S k=true:=ho6 wr k d hwr hk hdw hmem (by simpa[hwi] using hSw);simp[this]
  have hag':CK n (Iq lw (HR sp i).old (BV ops (Xx sp u) (HR sp i).deps l0)) a Z:=Ti (Ld h2 (λj hj d hd=>by
    obtain⟨h5,h6⟩:=b3 i hi j (by rw[hdep i hi];exact hj);rw[Abu,ho,AbD,List.contains_iff_mem] at h6;obtain⟨o2,ho2⟩:=hops j h5;obtain⟨v,hv1,hv2⟩:=h3 j o2 d h5 (hb j h6).2 ho2 (by simpa[Cy,ho2] using hd);refine⟨v,hv1,?_⟩;rw[hspq u j h5];exact hv2)) (λd hd q hq=>ho5 d q hq (λwr hwr hdw=>by
     cases hS:S wr with
     | false=>rfl
     | true=>have:=ho6 wr i d hwr hi hdw hd hS;rw[this] at hun;cases hun))
  by_cases hi0:i=i0
  ·subst hi0;rw[AbY rfl] at hat;rw[hun] at h1;have h1':St c H Z w:=by simpa using h1
   have key:=λK' hK'=>hat u a w Z K' hag' h1' hK';have h5:∀v w' Z',Fz.le Z Z'→St c (H1 v) Z' w'→K (a.put o.dst v) w':=λv w' Z' hz hs'=>by
    refine hK _ _ ⟨v,Z',by simpa using hs',hagr v Z' hz,hvals v Z' v hz (λj hj hji hSj=>?_) (λ_=>by rw[hri v];rfl),λj _ _ _=>by simp,hold' Z' hz v,hord⟩;refine hst.at (hsa j hj) ?_ v u
    cases hd:(HR sp j).dyn with
    | false=>rfl
    | true=>have:=hx j hj hd hSj;rw[this] at hun;cases hun
   refine⟨λ_=>(key K h5).2,λhw'=>?_⟩;rw[(key K h5).1] at hw';cases hw'
  ·rw[AbN hi0] at hat;refine hat u _ a w Z K hag' h1 (λv w' Z' hz hp hst'=>hK _ _ ⟨u,Z',?_,hagr v Z' hz,hvals v Z' u hz (λ_ _ _ _=>rfl) (λ_=>hp),λj hj hd hSj=>?_,hold' Z' hz v,hord⟩)
   ·have hiS:(i0 ==i||S i0)=S i0:=by
     have:(i0 ==i)=false:=by simpa using λe=>hi0 e.symm
     rw[this];rfl
    show St c (if (i0 ==i||S i0)=true then H1 u else H) Z' w';rw[hiS];exact hst'
   ·have hii:(i0 ==i)=false:=by simpa using λe=>hi0 e.symm
    show(i0 ==i||S i0)=true;rw[hii,Ab5]
    by_cases hji:j=i
    ·subst hji;have h7:=b4 j hj;rw[hdyn j hj,hd] at h7;simp only[Abw,Ab5,AbQ,beq_iff_eq,hi0,false_or,List.any_eq_true,Abp,Abh] at h7;obtain⟨e,he,heN,h8⟩:=h7;rw[Abu,ho,AbD] at he;have hSe:=(hb e he).2;rcases h8 with h8 | h8
     ·subst h8;exact hSe
     ·rw[hdyn e heN] at h8;exact hx e heN h8 hSe
    ·exact hx j hj hd (by simpa[hji] using hSj)
 ·obtain⟨u,Z,h1,h2,h3,_,_,_⟩:=hI;have hsl:(saU sp u).length=N:=by simp[saU,hsp]
  refine h u a w Z (P9 h2 _ _ 0 (λt o s d ht hs hd=>?_)) (by simpa using h1);have htN:t<N:=by have:=(List.getElem?_eq_some_iff.1 hs).1;omega
  have hs':s = { deps:=(HR sp t).deps,r:=(HR sp t).r u }:=by
   simp only[saU,AbO,hsa t htN,Option.map_some,Option.some.injEq] at hs;exact hs.symm
  subst hs';rw[AbU];exact h3 t o d htN rfl (by rw[← hget t htN];exact ht) hd
theorem Za {id:Nat}{ops:List Oper}(N i0:Nat)(ks0 ksw:List Nat)(sp:List Sx)(H1:Value→List Ent)(hob:LF P n c ops.toArray Q ops sp l0 lw i0 H H1 0 (ops.take N))(h:∀u,WL P n c ops.toArray Q (ops.drop N) (Md (λ_=>0) (ops.take N) (saU sp u) 0 l0) (H1 u))
  (h0:Kp ks0 l l0:=by repeat (first | exact NV | (apply Lv;rfl) | (apply Mi;rfl))) (hw:Kp ksw l lw:=by repeat (first | exact NV | (apply Lv;rfl) | (apply Mi;rfl))) (hm:P.follows .mixedOrders=true:=by kernel_rfl) (hB:okX n ops N i0 (Ex l0) (sp.map (·.deps)) (sp.map (·.dyn)) (sp.map (·.old))=true:=by kernel_rfl)
  (hsp:sp.length=N:=by rfl) (hst:NJ sp:=by repeat (first | exact AaK | apply AaM | apply AaL)) (hri:∀u,(HR sp i0).r u=rv u:=by exact λ_=>rfl):WC P n c (.region id ops.toArray true) Q l H:=X9 N i0 sp hm hB h0.one hw.one hsp hst hri hob h
theorem YL {all rest:List Oper}{d:Nat}{op:Op}{ty:TypeId}{pos:String}{af:Array Edge}{i:Nat}(hr:∀{u H},Bb P n c (Iq lw (HR sp i).old (BV all (Xx sp u) (HR sp i).deps l0)) H { dst:=some d,op:=op,type:=ty,pos:=pos,after:=af,guard:=none } ((HR sp i).r u))(h:LF P n c opsA Q all sp l0 lw i0 H H1 (i+1) rest)(hne:Nat.beq i i0=false:=by rfl) :
  LF P n c opsA Q all sp l0 lw i0 H H1 i ({ dst:=some d,op:=op,type:=ty,pos:=pos,after:=af,guard:=none }::rest):=by
 refine⟨?_,h⟩;rw[AbN (λe=>by subst e;simp at hne)];exact λu H=>VG hr
theorem oxc {all rest:List Oper}{o:Oper}{i:Nat}(hr:∀{u H},Ga P n c opsA Q (Iq lw (HR sp i).old (BV all (Xx sp u) (HR sp i).deps l0)) H o ((HR sp i).r u) H)(h:LF P n c opsA Q all sp l0 lw i0 H H1 (i+1) rest)(hne:Nat.beq i i0=false:=by rfl):LF P n c opsA Q all sp l0 lw i0 H H1 i (o::rest):=by
 refine⟨?_,h⟩;rw[AbN (λe=>by subst e;simp at hne)];exact λu H=>hr
theorem oxx {all rest:List Oper}{o:Oper}(hr:∀{u},OpX P n c opsA Q (Iq lw (HR sp i0).old (BV all (Xx sp u) (HR sp i0).deps l0)) H o H1)(h:LF P n c opsA Q all sp l0 lw i0 H H1 (i0+1) rest):LF P n c opsA Q all sp l0 lw i0 H H1 i0 (o::rest):=by
 refine⟨?_,h⟩;rw[AbY rfl];exact λu=>hr
theorem oxe {all:List Oper}{i:Nat}:LF P n c opsA Q all sp l0 lw i0 H H1 i []:=trivial
end
section
variable {P : Program} {n : Nat} {c : Cx} {opsA : Array Oper} {Q : Exit → Act → World → Prop} {l : Fr} {H : List Ent} {d : Nat} {x y : Operand} {ty t e : TypeId} {pos : String} {af : Array Edge} {v : Value} {sz : Nat}
theorem UW {α:Type}{xs ys:List α}{enc:α→List Rp}{i:Nat}{inf:TypeInfo}{z:Value}{bytes:Nat}(ht:P.underlying t=some (.slice e))(hinf:P.info? e=some inf)(hz:inf.zero=some z)(hsize:inf.size=sz)(hby:inf.bytes=bytes)(hzs:z.cells.size=sz)(hsz:Nat.blt 0 sz=true)(hbp:Nat.blt 0 bytes=true)
  (hx:ev l x=some (rv v)) (hi:H[i]? =some (.row v e sz (xs.map enc))) (hy:LD P n c l H y sz ys.length (ys.map enc).flatten) (henc:∀z,(enc z).length=sz) (hone:∀z,(enc z).all (·.one)=true) (hg:Dw bytes (xs.length+ys.length)=true) :
  OpX P n c opsA Q l H { dst:=some d,op:=.call { callee:=.builtin .append,args:=#[x,y],argTypes:=#[t,t] },type:=ty,pos:=pos,after:=af,guard:=none } (λv'=>.row v' e sz ((xs++ys).map enc)::H.eraseIdx i):=λa w Z K ha hw hK=>by
  obtain⟨h0,us,h1,h2⟩:=hw.ent hi;obtain⟨ws,h3,h4⟩:=hy a w Z ha hw;have hsz':0<sz:=by simpa using hsz
  have hbp':0<bytes:=by simpa using hbp
  have hb:(xs.length+ys.length)*bytes≤140737488355328:=by simpa[Dw] using hg
  have hle:xs.length+ys.length≤(xs.length+ys.length)*bytes:=Nat.le_mul_of_pos_right _ hbp';have hws:∀y∈ws,y.oneCell'=true:=AZ.one (rs:=(ys.map enc).flatten) (by
   rw[AbE];intro r hr;obtain⟨cl,hcl,hrc⟩:=List.mem_flatten.1 hr;obtain⟨z',_,rfl⟩:=List.mem_map.1 hcl;exact List.all_eq_true.1 (hone z') r hrc) h3
  have hxl:(xs.map enc).length=xs.length:=Abx ..;rw[hxl] at h1;obtain⟨v',w',e1,e2,e3,e4⟩:=Hk (P:=P) ty ht hinf hz hsize hby hzs hsz' h1 h4 hws hb (by simp only[maxLen];omega);have hent:(Ent.row v' e sz ((xs++ys).map enc)).holds Z w':=⟨λcl hcl=>by obtain⟨z',_,rfl⟩:=List.mem_map.1 hcl;exact henc z',us++ws,by simpa using e2,by rw[Ack,List.flatten_append];exact h2.append h3⟩
  have hst:=hw.callF hi (St.one (e':=.row v' e sz ((xs++ys).map enc)) (M:=(Ent.row v e sz (xs.map enc)).foot) hw.frz hw.env hw.emono e3.os e3.tape e3.output e3.size (λk hk hne=>e3.block k hk (λe1=>hne (by simp[Ent.foot,← e1])))
   (hw.zdis _ (Abv hi)) hent (λk hk=>by
    simp only[Ent.foot,Option.mem_toList] at hk ⊢;rcases e4 with e4 | e4
    ·exact .inl (e4▸hk)
    ·exact .inr (e4 k hk)))
  refine⟨by simp[Region.wanted],?_⟩;unfold Oper.wp;rw[show(execOp a.eval { dst:=some d,op:=.call { callee:=.builtin .append,args:=#[x,y],argTypes:=#[t,t] },type:=ty,pos:=pos,after:=af,guard:=none }).run P w = .ok (.value v') w' from by simp[execOp,resolve,invoke,builtin,ha.eval hx,e1]];exact hK v' w' Z (Fz.le.refl _) hst
end
set_option maxRecDepth 100000
set_option maxHeartbeats 4000000
theorem Wz:∃inf,Tryz.prog.info? 9=some inf∧inf.zero=some (.string ⟨#[]⟩)∧inf.size=1∧inf.bytes=16:=by
  have key:(Tryz.prog.info? 9).map (λi=>(i.zero,i.size,i.bytes))=some (some (.string ⟨#[]⟩),1,16):=by kernel_rfl
  obtain⟨inf,h1,h2⟩:=Option.map_eq_some_iff.1 key;simp only[Prod.mk.injEq] at h2;exact⟨inf,h1,h2.1,h2.2.1,h2.2.2⟩
theorem W3 (F:Nat)  (r:(List Int))(h:Nz F=some r):Fn Tryz.prog GE 126 [] [] (λR H=>R=BC (AE (rI .u32) r)∧H=[]):=by
 refine enter (n:=26) Tryz.func126 rfl Tryz.ntmps126 rfl (λw Z=>?_);unfold Nz at h;refine Ah (BN (cs:=AE (rI .u32) (List.replicate 256 (0:Int))) Tryz.zeroValue151 (by kernel_rfl) rfl (λb1=>?_));refine Bx (BN (cs:=AE (rI .u32) (List.replicate 256 (0:Int))) Tryz.zeroValue151 (by kernel_rfl) rfl (λb2=>?_));refine Aq (Ao (Ah (wv (r:=Am 0) (Al rfl) (Aq (AK (ob h λhs ht hu=>B0 (S:=Nat×(Int×(List Int))×(Unit)) (V:=((List Int))×(Unit)) 0 (λσ=>BE (λσ=>EJ F σ.1 σ.2) σ.1 σ.2.1=some hs) (λσ=>[(0,rP b1 0),(1,rP b2 0),(5,Am σ.2.1.1)]) (λσ=>[.blk b2 (AE (rI .u32) σ.2.1.2) 151,.blk b1 (AE (rI .u32) (List.replicate 256 (0:Int))) 151]) (λσ=>σ.1) (F,(0,List.replicate 256 (0:Int)),()) ht (AD.c rfl (AD.c rfl (AD.c rfl AD.nil))) (sC (sC sN)) (λσ=>HH σ.1=some r) (λσ=>[(0,rP b1 0),(1,rP b2 0)]) (λσ=>[.blk b2 (AE (rI .u32) σ.1) 151,.blk b1 (AE (rI .u32) (List.replicate 256 (0:Int))) 151]) ?_ ?_))))))
 ·rintro⟨hR,⟨ha,hb⟩,⟨⟩⟩ hw;refine BY (l':=[(0,rP b1 0),(1,rP b2 0),(5,Am ha)]) (H':=[.blk b2 (AE (rI .u32) hb) 151,.blk b1 (AE (rI .u32) (List.replicate 256 (0:Int))) 151]) rfl rfl ?_;obtain⟨hx,rfl,hl,hh,ho⟩:=CO hw;replace hh:EJ F ha hb=some hl:=hh;unfold EJ at hh;refine Ah (wv (Dv rfl rfl) (Aq (Ao (cz hh rfl (λhy hz=>?_) (λhy h0=>?_)))))
  ·refine A2 (AP (Ao (AK (Ah (wm rfl (wa rfl (Bx (wm rfl (wv (r:=rI .u32 (IntKind.wrap .u32 ha)) (BQ ⟨_,UM⟩ In rfl) (wa rfl (Aq (Ao (Ah (wv (r:=Am 0) (Al rfl) (Aq (AK (ob hz λh1 h2 h3=>B0 (S:=Nat×(Int×Int)×(Unit)) (V:=(Int×Int×Bool)×(Unit)) 2 (λσ=>BE (λσ=>EI σ.1 σ.2) σ.1 σ.2.1=some h1) (λσ=>[(0,rP b1 0),(1,rP b2 0),(2,Am ha),(3,rI .u32 σ.2.1.1),(5,Am ha),(10,Am σ.2.1.2)]) (λσ=>[.blk b2 (AE (rI .u32) hb) 151,.blk b1 (AE (rI .u32) (List.replicate 256 (0:Int))) 151]) (λσ=>σ.1) (F,(IntKind.wrap .u32 ha,0),()) h2 (AD.c rfl (AD.c5 rfl rfl rfl rfl rfl AD.nil)) (sC (sC sN)) (λσ=>HG ha hb σ.1.1 σ.1.2.1 σ.1.2.2=some hl) (λσ=>[(0,rP b1 0),(1,rP b2 0),(2,Am ha),(3,rI .u32 σ.1.1),(5,Am ha),(10,Am σ.1.2.1),(11,rB σ.1.2.2)]) (λσ=>[.blk b2 (AE (rI .u32) hb) 151,.blk b1 (AE (rI .u32) (List.replicate 256 (0:Int))) 151]) ?_ ?_)))))))))))))))))
   ·rintro⟨hS,⟨hd,hf⟩,⟨⟩⟩ h4;refine BY (l':=[(0,rP b1 0),(1,rP b2 0),(2,Am ha),(3,rI .u32 hd),(5,Am ha),(10,Am hf)]) (H':=[.blk b2 (AE (rI .u32) hb) 151,.blk b1 (AE (rI .u32) (List.replicate 256 (0:Int))) 151]) rfl rfl ?_;obtain⟨h5,rfl,h6,hi,hp⟩:=CO h4;replace hi:EI hd hf=some h6:=hi;unfold EI at hi;refine Ah (wv (Dv rfl rfl) (Aq (Ao (cz hi rfl (λh7 h8=>?_) (λh7 h9=>?_)))))
    ·refine A2 (AP (AO [(0,rP b1 0),(1,rP b2 0),(2,Am ha),(3,rI .u32 (bif decide ((NW .u32 hd 1)=1) then Ge .u32 (BX .u32 hd 1) 3988292384 else BX .u32 hd 1)),(5,Am ha),(10,Am hf)] [.blk b2 (AE (rI .u32) hb) 151,.blk b1 (AE (rI .u32) (List.replicate 256 (0:Int))) 151] ?_ ?_))
     ·refine AK (Ah (wm rfl (wv (r:=rI .u32 (NW .u32 hd 1)) (Aap rfl rfl) (wa rfl (Bx (wm rfl (wv (r:=rI .u32 (BX .u32 hd 1)) (Oz rfl rfl (by decide)) (wa rfl (Bx (wm rfl (wv (BT rfl rfl) (Aq (EN (b:=decide ((NW .u32 hd 1)=1)) rfl (λhm=>?_) (λhm=>?_))))))))))))))
      ·refine An (wm rfl (wv (r:=rI .u32 (Ge .u32 (BX .u32 hd 1) 3988292384)) (VM rfl rfl) (wa rfl (At (AJ ?_)))));exact D3 hm
      ·refine A2 (AJ ?_);exact D3 hm
     refine An (ck h8 λhA hB=>wv (BL rfl rfl hA) (wm rfl (At ?_)));have hC:=B6 hB hp;exact A4 (AG (h5,((bif decide ((NW .u32 hd 1)=1) then Ge .u32 (BX .u32 hd 1) 3988292384 else BX .u32 hd 1),hf+1),()) ⟨hC,Ab1 _⟩ (AD.c rfl (AD.c5 rfl rfl rfl rfl rfl AD.nil)) (sC (sC sN)))
    ·refine B1 (A3 ?_);have hD:=Cm h9 hp h3;exact A3 (Bj (AG ((hd,hf,decide (hf<8)),()) hD (AD.c rfl (AD.c rfl (AD.c5 rfl rfl rfl rfl rfl AD.nil))) (sC (sC sN))))
   ·rintro⟨⟨hg,hq,hr⟩,⟨⟩⟩ hj;refine CU (l':=[(0,rP b1 0),(1,rP b2 0),(2,Am ha),(3,rI .u32 hg),(5,Am ha),(10,Am hq),(11,rB hr)]) (H':=[.blk b2 (AE (rI .u32) hb) 151,.blk b1 (AE (rI .u32) (List.replicate 256 (0:Int))) 151]) rfl rfl ?_;replace hj:HG ha hb hg hq hr=some hl:=hj;unfold HG at hj;refine Be (AP (An (wm rfl (wm rfl (ck hj λhE hG=>wv (r:=rv (.pointer (some ⟨b2,Bt ha,none⟩))) (VT Tryz.underlying151 Tryz.sizeOf116 rfl rfl hE) (ck hG λhH hI=>T2 (enc:=(rI .u32)) (ys:=hb) (v:=hg) (i:=0) Tryz.sizeOf116 rfl rfl (Cu rfl) rfl hH (H':=[.blk b2 (AE (rI .u32) (List.set hb (Bt ha) hg)) 151,.blk b1 (AE (rI .u32) (List.replicate 256 (0:Int))) 151]) rfl (At (AJ (AP (An (ck hI λhJ hK=>wv (BL rfl rfl hJ) (wm rfl (At ?_)))))))))))));have hL:=B6 hK ho;exact A4 (AG (hx,(ha+1,List.set hb (Bt ha) hg),()) ⟨hL,Ab1 _⟩ (AD.c rfl (AD.c rfl (AD.c rfl AD.nil))) (sC (sC sN)))
  ·refine B1 (A3 ?_);have hN:=Cm h0 ho hu;exact A3 (Bj (AG (hb,()) hN (AD.c rfl (AD.c rfl AD.nil)) (sC (sC sN))))
 ·rintro⟨he,⟨⟩⟩ hk;refine CU (l':=[(0,rP b1 0),(1,rP b2 0)]) (H':=[.blk b2 (AE (rI .u32) he) 151,.blk b1 (AE (rI .u32) (List.replicate 256 (0:Int))) 151]) rfl rfl ?_;replace hk:HH he=some r:=hk;unfold HH at hk;refine Be (AP (Ah (ck hk λhn hO=>wv (r:=BC (AE (rI .u32) he)) (RJ (enc:=(rI .u32)) (ys:=he) (i:=0) Tryz.isAgg151 Sn rfl rfl hn) (ck hO λhP hQ=>LN (enc:=(rI .u32)) (ys:=List.replicate 256 (0:Int)) (zs:=he) (i:=1) Sn rfl rfl (λ_=>rfl) rfl hP hn (H':=[.blk b2 (AE (rI .u32) he) 151,.blk b1 (AE (rI .u32) he) 151]) rfl (Aq (Ay ?_))))));obtain rfl:=Az hQ;exact Ax (Ct Tryz.results126 (Gh (i:=1) Tryz.isAgg151 Sn rfl rfl (Yh hn))) (sS (sS sN)) ⟨rfl,rfl⟩
theorem W4 (F:Nat)(s:Ag)(r:Int)(h:Uz F s=some r):Fn Tryz.prog GE 91 [rS s] [] (λR H=>R=rI .u32 r∧H=[]):=by
 refine enter (n:=26) Tryz.func91 rfl Tryz.ntmps91 rfl (λw Z=>?_);unfold Uz at h;refine Ah (wa rfl (Bx (ob h λr1 e3 h2=>Gb Tryz.call126 (W3 F r1 e3) rfl (BN (cs:=AE (rI .u32) (List.replicate 256 (0:Int))) Tryz.zeroValue151 (by kernel_rfl) rfl (λb4=>?_)))));refine ck h2 λg5 h6=>ck h6 λg7 h8=>LN (enc:=(rI .u32)) (ys:=List.replicate 256 (0:Int)) (zs:=r1) (i:=0) Sn rfl rfl (λ_=>rfl) rfl g5 g7 (H':=[.blk b4 (AE (rI .u32) r1) 151]) rfl (Bx (wa rfl (Aq (Ao (Ah (wm rfl (wv (Bv C3 rfl) (wv (r:=Am 0) (Al rfl) (Aq (AK (ob h8 λhh hi hj=>B0 (S:=Nat×(Int×Int)×(Unit)) (V:=(Int)×(Unit)) 0 (λσ=>BE (λσ=>Gr s r1 σ.1 σ.2) σ.1 σ.2.1=some hh) (λσ=>[(0,rS s),(2,rI .u32 0),(3,rP b4 0),(4,rI .u32 σ.2.1.1),(8,Am (s.length:Int)),(9,Am σ.2.1.2)]) (λσ=>[.blk b4 (AE (rI .u32) r1) 151]) (λσ=>σ.1) (F,(4294967295,0),()) hi (AD.c rfl (AD.c5 rfl rfl rfl rfl rfl AD.nil)) (sC sN) (λσ=>M5 σ.1=some r) (λσ=>[(2,rI .u32 0),(4,rI .u32 σ.1)]) (λσ=>[]) ?_ ?_)))))))))))
 ·rintro⟨h1,⟨ha,hb⟩,⟨⟩⟩ hk;refine BY (l':=[(0,rS s),(2,rI .u32 0),(3,rP b4 0),(4,rI .u32 ha),(8,Am (s.length:Int)),(9,Am hb)]) (H':=[.blk b4 (AE (rI .u32) r1) 151]) rfl rfl ?_;obtain⟨hl,rfl,hm,hd,hg⟩:=CO hk;replace hd:Gr s r1 ha hb=some hm:=hd;unfold Gr at hd;refine Ah (wv (Dv rfl rfl) (Aq (Ao (cz hd rfl (λhn ho=>?_) (λhn hp=>?_)))))
  ·refine A2 (AP (Ao (AK (Ah (wm rfl (wa rfl (Aq (An (wm rfl (wv (r:=rI .u8 (IntKind.wrap .u8 ha)) (BQ ⟨_,In⟩ Oe rfl) (wm rfl (wm rfl (ck ho λhq hr=>wv (Bq C3 rfl rfl hq) (wv (r:=rI .u8 (Ge .u8 (IntKind.wrap .u8 ha) (Ba s hb))) (VM rfl rfl) (ck hr λhs ht=>wv (r:=rv (.pointer (some ⟨b4,Bt (Ge .u8 (IntKind.wrap .u8 ha) (Ba s hb)),none⟩))) (VT Tryz.underlying151 Tryz.sizeOf116 rfl rfl hs) (ck ht λhu hw=>wv (r:=rI .u32 (Ap r1 (Ge .u8 (IntKind.wrap .u8 ha) (Ba s hb)))) (VS (enc:=(rI .u32)) (ys:=r1) (i:=0) Tryz.isAgg116 rfl rfl hu) (wm rfl (wv (r:=rI .u32 (BX .u32 ha 8)) (Oz rfl rfl (by decide)) (wv (r:=rI .u32 (Ge .u32 (Ap r1 (Ge .u8 (IntKind.wrap .u8 ha) (Ba s hb))) (BX .u32 ha 8))) (VM rfl rfl) (wa rfl ?_))))))))))))))))))));refine At (AJ (AP (An (ck hw λhx hy=>wv (BL rfl rfl hx) (wm rfl (At ?_))))));have hz:=B6 hy hg;exact A4 (AG (hl,(Ge .u32 (Ap r1 (Ge .u8 (IntKind.wrap .u8 ha) (Ba s hb))) (BX .u32 ha 8),hb+1),()) ⟨hz,Ab1 _⟩ (AD.c rfl (AD.c5 rfl rfl rfl rfl rfl AD.nil)) (sC sN))
  ·refine B1 (A3 ?_);have h0:=Cm hp hg hj;exact A3 (Bj (AG (ha,()) h0 (AD.c rfl (AD.c rfl AD.nil)) (sS sN)))
 ·rintro⟨hf,⟨⟩⟩ he;refine CU (l':=[(2,rI .u32 0),(4,rI .u32 hf)]) (H':=[]) rfl rfl ?_;replace he:M5 hf=some r:=he;unfold M5 at he;refine Be (AP (Ah (wm rfl (wv (r:=rI .u32 (Uw .u32 hf)) (XY rfl) (wa rfl (Aq (Ay ?_)))))));obtain rfl:=Az he;exact Ax (Ct Tryz.results91 (AL rfl)) sN ⟨rfl,rfl⟩
theorem OI (n:Int)(r:Ag)(h:Jw n=some r):Fn Tryz.prog GE 90 [rI .u32 n] [] (λR H=>R=rS r∧H=[]):=by
 refine enter (n:=16) Tryz.func90 rfl Tryz.ntmps90 rfl (λw Z=>?_);unfold Jw at h;refine Ah (wv (r:=rS ([]:Ag)) (Aw rfl) (Bx (wm rfl (wv (r:=rI .u32 (BX .u32 n 24)) (Oz rfl rfl (by decide)) (wv (r:=rI .u8 (IntKind.wrap .u8 (BX .u32 n 24))) (BQ ⟨_,In⟩ Oe rfl) (wm rfl (wv (r:=rI .u32 (BX .u32 n 16)) (Oz rfl rfl (by decide)) (wv (r:=rI .u8 (IntKind.wrap .u8 (BX .u32 n 16))) (BQ ⟨_,In⟩ Oe rfl) (wm rfl (wv (r:=rI .u32 (BX .u32 n 8)) (Oz rfl rfl (by decide)) (wv (r:=rI .u8 (IntKind.wrap .u8 (BX .u32 n 8))) (BQ ⟨_,In⟩ Oe rfl) (wm rfl (wv (r:=rI .u8 (IntKind.wrap .u8 n)) (BQ ⟨_,In⟩ Oe rfl) (AW (ys:=([IntKind.wrap .u8 (BX .u32 n 24),IntKind.wrap .u8 (BX .u32 n 16),IntKind.wrap .u8 (BX .u32 n 8),IntKind.wrap .u8 n]:List Int)) (enc:=Bc) (css:=[[rI .u8 (IntKind.wrap .u8 (BX .u32 n 24))],[rI .u8 (IntKind.wrap .u8 (BX .u32 n 16))],[rI .u8 (IntKind.wrap .u8 (BX .u32 n 8))],[rI .u8 (IntKind.wrap .u8 n)]]) (xs:=[.tmp 5,.tmp 8,.tmp 11,.tmp 13]) GS ys5 ZZ rfl rfl rfl ⟨GR.one rfl (Up.refl _),GR.one rfl (Up.refl _),GR.one rfl (Up.refl _),GR.one rfl (Up.refl _),trivial⟩ rfl Dr rfl rfl rfl (λb1=>?_)))))))))))))));refine wv (r:=rS (NQ ([IntKind.wrap .u8 (BX .u32 n 24),IntKind.wrap .u8 (BX .u32 n 16),IntKind.wrap .u8 (BX .u32 n 8),IntKind.wrap .u8 n]:List Int))) (SJ (xs:=([IntKind.wrap .u8 (BX .u32 n 24),IntKind.wrap .u8 (BX .u32 n 16),IntKind.wrap .u8 (BX .u32 n 8),IntKind.wrap .u8 n]:List Int)) (i:=0) GS C3 Oe rfl rfl) (wa rfl (Aq (Ay ?_)));obtain rfl:=Az h;exact Ax (Ct Tryz.results90 (AL rfl)) (sS sN) ⟨rfl,rfl⟩
theorem OH (s:Ag)(r:Int)(h:Jt s=some r):Fn Tryz.prog GE 96 [rS s] [] (λR H=>R=rI .u32 r∧H=[]):=by
 refine enter (n:=21) Tryz.func96 rfl Tryz.ntmps96 rfl (λw Z=>?_);unfold Jt at h;refine Ah (wa rfl (Aq (Ao (ck h λg1 h2=>ck h2 λg3 h4=>ck h4 λg5 h6=>ck h6 λg7 h8=>CM [0] [⟨[],rS s,0⟩,⟨[0],rI .u8 (Ba s 0),0⟩,⟨[1],rI .u32 (IntKind.wrap .u32 (Ba s 0)),0⟩,⟨[2],rI .u32 (C7 .u32 (IntKind.wrap .u32 (Ba s 0)) 24),0⟩,⟨[],rS s,0⟩,⟨[4],rI .u8 (Ba s 1),0⟩,⟨[5],rI .u32 (IntKind.wrap .u32 (Ba s 1)),0⟩,⟨[6],rI .u32 (C7 .u32 (IntKind.wrap .u32 (Ba s 1)) 16),0⟩,⟨[3,7],rI .u32 (HT .u32 (C7 .u32 (IntKind.wrap .u32 (Ba s 0)) 24) (C7 .u32 (IntKind.wrap .u32 (Ba s 1)) 16)),0⟩,⟨[],rS s,0⟩,⟨[9],rI .u8 (Ba s 2),0⟩,⟨[10],rI .u32 (IntKind.wrap .u32 (Ba s 2)),0⟩,⟨[11],rI .u32 (C7 .u32 (IntKind.wrap .u32 (Ba s 2)) 8),0⟩,⟨[8,12],rI .u32 (HT .u32 (HT .u32 (C7 .u32 (IntKind.wrap .u32 (Ba s 0)) 24) (C7 .u32 (IntKind.wrap .u32 (Ba s 1)) 16)) (C7 .u32 (IntKind.wrap .u32 (Ba s 2)) 8)),0⟩,⟨[],rS s,0⟩,⟨[14],rI .u8 (Ba s 3),0⟩,⟨[15],rI .u32 (IntKind.wrap .u32 (Ba s 3)),0⟩,⟨[13,16],rI .u32 (HT .u32 (HT .u32 (HT .u32 (C7 .u32 (IntKind.wrap .u32 (Ba s 0)) 24) (C7 .u32 (IntKind.wrap .u32 (Ba s 1)) 16)) (C7 .u32 (IntKind.wrap .u32 (Ba s 2)) 8)) (IntKind.wrap .u32 (Ba s 3))),0⟩,⟨[17],rI .u32 (HT .u32 (HT .u32 (HT .u32 (C7 .u32 (IntKind.wrap .u32 (Ba s 0)) 24) (C7 .u32 (IntKind.wrap .u32 (Ba s 1)) 16)) (C7 .u32 (IntKind.wrap .u32 (Ba s 2)) 8)) (IntKind.wrap .u32 (Ba s 3))),0⟩] [2] ?_ ?_))))
 ·refine oq (Al rfl) (oq (Bq C3 rfl rfl g1) (oq (BQ ⟨_,Oe⟩ In rfl) (oq (SG rfl rfl (by decide)) (oq (Al rfl) (oq (Bq C3 rfl rfl g3) (oq (BQ ⟨_,Oe⟩ In rfl) (oq (SG rfl rfl (by decide)) (oq (XT rfl rfl) (oq (Al rfl) (oq (Bq C3 rfl rfl g5) (oq (BQ ⟨_,Oe⟩ In rfl) (oq (SG rfl rfl (by decide)) (oq (XT rfl rfl) (oq (Al rfl) (oq (Bq C3 rfl rfl g7) (oq (BQ ⟨_,Oe⟩ In rfl) (oq (XT rfl rfl) (oq (Aw rfl) ?_))))))))))))))))));exact Ci
 refine AP (Ay ?_);obtain rfl:=Az h8;exact Ax (Ct Tryz.results96 (AL rfl)) sN ⟨rfl,rfl⟩
theorem SZ (F:Nat)(fields:(List Ag))(r:Ag×Int)(h:OG F fields=some r):Fn Tryz.prog GE 66 [AU 1 (AE eS fields)] [] (λR H=>R=C2 [rS r.1,Am r.2]∧H=[]):=by
 refine enter (n:=39) Tryz.func66 rfl Tryz.ntmps66 rfl (λw Z=>?_);unfold OG at h;refine Ah (wv (r:=rS ([]:Ag)) (Aw rfl) (wa rfl (Aq (Ao (Ah (wm rfl (wv (B8 (ys:=fields) (enc:=eS) D2 rfl) (wv (DM rfl rfl) (Aq (cz h rfl (λc1 h2=>?_) (λc1 h3=>?_)))))))))))
 ·refine Ah (wv (r:=rS ([]:Ag)) (Aw rfl) (wa rfl (Aq (Ay (Ac ?_)))));obtain rfl:=Az h2;exact Ax (EB Tryz.results66 (AL rfl) (AL rfl)) sN ⟨rfl,rfl⟩
 ·refine A2 (AP (Ah (wm rfl (wv (B8 (ys:=fields) (enc:=eS) D2 rfl) (wv (r:=rI .u8 (IntKind.wrap .u8 (fields.length:Int))) (BQ ⟨_,UM⟩ Oe rfl) (AW (ys:=([IntKind.wrap .u8 (fields.length:Int)]:List Int)) (enc:=Bc) (css:=[[rI .u8 (IntKind.wrap .u8 (fields.length:Int))]]) (xs:=[.tmp 12]) GS ys5 ZZ rfl rfl rfl ⟨GR.one rfl (Up.refl _),trivial⟩ rfl Dr rfl rfl rfl (λb4=>?_)))))));refine wa rfl (Aq (Ao (Ah (wm rfl (wv (B8 (ys:=fields) (enc:=eS) D2 rfl) (wv (r:=Am 0) (Al rfl) (Aq (AK (ob h3 λhj hk hh=>B0 (S:=Nat×((List Int)×Int)×(Value)) (V:=((List Int))×(Value)) 0 (λσ=>BE (λσ=>EX fields σ.1 σ.2) σ.1 σ.2.1=some hj) (λσ=>[(2,rS ([]:Ag)),(3,Am 0),(4,rv σ.2.2),(14,AU 1 (AE eS fields)),(15,Am (fields.length:Int)),(16,Am σ.2.1.2)]) (λσ=>[.row σ.2.2 5 1 (AE Bc σ.2.1.1)]) (λσ=>σ.1) (F,(([IntKind.wrap .u8 (fields.length:Int)]:List Int),0),(.slice (some ⟨b4,0,none⟩) 1 1)) hk (AD.c rfl (AD.c5 rfl rfl rfl rfl rfl AD.nil)) (sC sN) (λσ=>KW σ.1=some r) (λσ=>[(2,rS ([]:Ag)),(3,Am 0),(4,rv σ.2)]) (λσ=>[.row σ.2 5 1 (AE Bc σ.1)]) ?_ ?_)))))))))
  ·rintro⟨h8,⟨hb,ha⟩,v41⟩ hl;refine BY (l':=[(2,rS ([]:Ag)),(3,Am 0),(4,rv v41),(14,AU 1 (AE eS fields)),(15,Am (fields.length:Int)),(16,Am ha)]) (H':=[.row v41 5 1 (AE Bc hb)]) rfl rfl ?_;obtain⟨hm,rfl,hn,hd,hg⟩:=CO hl;replace hd:EX fields hb ha=some hn:=hd;unfold EX at hd;refine Ah (wv (Dv rfl rfl) (Aq (Ao (cz hd rfl (λho hp=>?_) (λho hq=>?_)))))
   ·refine A2 (AP (Ao (AK (Ah (ck hp λhr hs=>wv (BB (enc:=eS) (ys:=fields) D2 D1 rfl rfl hr) (wv (Bu Eb rfl rfl) (wa rfl (Aq (Ao (Ah (wm rfl (wv (Bv C3 rfl) (wv (DM rfl rfl) (Aq (cz hs rfl (λc75 ht=>?_) (λc75 hu=>?_))))))))))))))))
    ·refine Ah (wv (r:=rS ([]:Ag)) (Aw rfl) (wa rfl (Aq (Ay (Ac (A0 (Ac (Ac (AX ?_)))))))));have hw:=B2 ht hg hh;refine A0 (Ac ?_);obtain rfl:=Az hw;exact Ax (EB Tryz.results66 (AL rfl) (AL rfl)) (sS sN) ⟨rfl,rfl⟩
    ·refine A2 (AP (Ah (wm rfl (wm rfl (wv (Bv C3 rfl) (wv (r:=Am (BX .i64 ((Ap fields ha).length:Int) 8)) (Oz rfl rfl (by decide)) (wv (r:=rI .u8 (IntKind.wrap .u8 (BX .i64 ((Ap fields ha).length:Int) 8))) (BQ ⟨_,UM⟩ Oe rfl) (wm rfl (wv (Bv C3 rfl) (wv (r:=rI .u8 (IntKind.wrap .u8 ((Ap fields ha).length:Int))) (BQ ⟨_,UM⟩ Oe rfl) (AW (ys:=([IntKind.wrap .u8 (BX .i64 ((Ap fields ha).length:Int) 8),IntKind.wrap .u8 ((Ap fields ha).length:Int)]:List Int)) (enc:=Bc) (css:=[[rI .u8 (IntKind.wrap .u8 (BX .i64 ((Ap fields ha).length:Int) 8))],[rI .u8 (IntKind.wrap .u8 ((Ap fields ha).length:Int))]]) (xs:=[.tmp 27,.tmp 30]) GS ys5 ZZ rfl rfl rfl ⟨GR.one rfl (Up.refl _),GR.one rfl (Up.refl _),trivial⟩ rfl Dr rfl rfl rfl (λh9=>?_))))))))))));refine ck hu λhx hy=>Exists.elim LW λinf hinf=>Cb (xs:=hb) (ys:=([IntKind.wrap .u8 (BX .i64 ((Ap fields ha).length:Int) 8),IntKind.wrap .u8 ((Ap fields ha).length:Int)]:List Int)) (enc:=Bc) (i:=1) GS hinf.1 hinf.2.1 hinf.2.2.1 hinf.2.2.2 rfl rfl rfl rfl rfl (LD.w (i:=0) rfl rfl) Dr Jx hx rfl (λv80=>?_);refine wa rfl (Aq (An (wm rfl (wm rfl (ck hy λhz h0=>Exists.elim LW λinf hinf=>Gj (xs:=hb++([IntKind.wrap .u8 (BX .i64 ((Ap fields ha).length:Int) 8),IntKind.wrap .u8 ((Ap fields ha).length:Int)]:List Int)) (i:=0) GS C3 hinf.1 hinf.2.1 hinf.2.2.1 hinf.2.2.2 rfl rfl rfl hz rfl (λh1=>?_))))));refine wa rfl (At (AJ (AP (An (ck h0 λh4 h5=>wv (BL rfl rfl h4) (wm rfl (At ?_)))))));have h6:=B6 h5 hg;exact A4 (AG (hm,((hb++([IntKind.wrap .u8 (BX .i64 ((Ap fields ha).length:Int) 8),IntKind.wrap .u8 ((Ap fields ha).length:Int)]:List Int))++CC (Ap fields ha),ha+1),h1) ⟨h6,Ab1 _⟩ (AD.c rfl (AD.c5 rfl rfl rfl rfl rfl AD.nil)) (sC (sS sN)))
   ·refine B1 (A3 ?_);have h7:=Cm hq hg hh;exact A3 (Bj (AG (hb,v41) h7 (AD.c rfl (AD.c rfl (AD.c rfl AD.nil))) (sC sN)))
  ·rintro⟨he,hi⟩ hf;refine CU (l':=[(2,rS ([]:Ag)),(3,Am 0),(4,rv hi)]) (H':=[.row hi 5 1 (AE Bc he)]) rfl rfl ?_;replace hf:KW he=some r:=hf;unfold KW at hf;refine Be (AP (Ah (wm rfl (wv (r:=rS (NQ he)) (SJ (xs:=he) (i:=0) GS C3 Oe rfl rfl) (wa rfl (wa rfl (Aq (Ay ?_))))))));obtain rfl:=Az hf;exact Ax (EB Tryz.results66 (AL rfl) (AL rfl)) (sS sN) ⟨rfl,rfl⟩
theorem U1 (F:Nat)(s:Ag)(r:(List Ag)×Int)(h:KV F s=some r):Fn Tryz.prog GE 72 [rS s] [] (λR H=>R=C2 [AU 1 (AE eS r.1),Am r.2]∧H=[]):=by
 refine enter (n:=58) Tryz.func72 rfl Tryz.ntmps72 rfl (λw Z=>?_);unfold KV at h;refine Ah (wa rfl (wa rfl (Aq (NL (S:=(Int)×(Unit)) 0 (λσ=>Dm σ.1=some r) (λσ=>[(2,rv (.slice none 0 0)),(3,Am 0),(7,Am σ.1)]) (λσ=>[]) rfl ?_ ?_))))
 ·refine Ah (wa rfl (Bx (wa rfl (wa rfl (Bx (wa rfl (Aq (Ao (Ah (wm rfl (wv (H9 rfl rfl) (Aq (cz h rfl (λhq hr=>?_) (λhq hs=>?_))))))))))))))
  ·exact IY (BF (IW (AG (14,()) hr (AD.c rfl (AD.c rfl (AD.c rfl AD.nil))) sN)))
  ·refine A2 (AP (Ao (ck hs λht hu=>ck hu λhw hx=>ck hx λhy hz=>GX 6 [0,2,3,4,6,7] [⟨[],rS s,none,none,none⟩,⟨[0],rI .u8 (Ba s 0),none,none,none⟩,⟨[1],Am (Ba s 0),none,none,none⟩,⟨[],rS s,none,none,none⟩,⟨[3],rS (List.drop (Bt 1) s),none,none,none⟩,⟨[2],Am (Ba s 0),none,none,none⟩] ?_ (λβ=>?_))))
   ·refine Gc (Al rfl) (Gc (Bq C3 rfl rfl ht) (Gc (Ic ⟨_,Oe⟩ UM rfl hw) (Gc (Al rfl) (Gc (Di C3 rfl rfl hy) (Gc (Aw rfl) ?_)))));exact YN
   refine HU (H1:=[]) [10,11,12,13,14,5,0,2,3,4,6,7] ?_;refine wa rfl (Aq (Ao (Ah (wm rfl (wv (DM rfl rfl) (Aq (cz hz rfl (λc167 h0=>?_) (λc167 h1=>?_))))))))
   ·exact Ah (wa rfl (Aq (IY (BF (IW (AG (13,()) h0 (AD.c rfl (AD.c rfl (AD.c rfl AD.nil))) sN))))))
   ·refine A2 (AP (Ao (Ah (wm rfl (wv (r:=Am 0) (Al rfl) (Aq (AK (WC.nilrow (e:=9) (sz:=1) (ob h1 λh2 h3 hg=>B0 (S:=Nat×(Ag×(List Ag)×Int×Int)×(Value)) (V:=(Ag×(List Ag))×(Value)) 0 (λσ=>BE (λσ=>Cr s σ.1 σ.2.1 σ.2.2.1 σ.2.2.2) σ.1 σ.2.1=some h2) (λσ=>[(0,rS σ.2.1.1),(2,rv (.slice none 0 0)),(3,Am 0),(4,rv σ.2.2),(6,Am σ.2.1.2.2.1),(7,Am 14),(17,Am (Ba s 0)),(18,Am σ.2.1.2.2.2)]) (λσ=>[.row σ.2.2 9 1 (AE eS σ.2.1.2.1)]) (λσ=>σ.1) (F,(List.drop (Bt 1) s,([]:List Ag),0,0),(.slice none 0 0         )) h3 (AD.c rfl (AD.c rfl (AD.c rfl (AD.c5 rfl rfl rfl rfl rfl AD.nil)))) (sC sN) (λσ=>Eg σ.1.1 σ.1.2=some r) (λσ=>[(0,rS σ.1.1),(2,rv (.slice none 0 0)),(3,Am 0),(4,rv σ.2),(7,Am 14)]) (λσ=>[.row σ.2 9 1 (AE eS σ.1.2)]) ?_ ?_)))))))))
    ·rintro⟨gr,⟨ha,hd,hl,hk⟩,v233⟩ h4;refine BY (l':=[(0,rS ha),(2,rv (.slice none 0 0)),(3,Am 0),(4,rv v233),(6,Am hl),(7,Am 14),(17,Am (Ba s 0)),(18,Am hk)]) (H':=[.row v233 9 1 (AE eS hd)]) rfl rfl ?_;obtain⟨h5,rfl,h6,hh,hf⟩:=CO h4;replace hh:Cr s ha hd hl hk=some h6:=hh;unfold Cr at hh;refine Ah (wv (Dv rfl rfl) (Aq (Ao (cz hh rfl (λh7 h8=>?_) (λh7 h9=>?_)))))
     ·refine A2 (AP (Ao (AK (Ao (Ah (wm rfl (wv (Bv C3 rfl) (wv (Dv rfl rfl) (Aq (cz h8 rfl (λhA hB=>?_) (λhA hC=>?_)))))))))))
      ·refine IY (BF (E7 (BF (BF (I4 (E7 (BF (IW (ob hB λgs hD hE=>?_)))))))));have hG:=B2 hE hf hg;obtain rfl:=Az hG;exact AG (14,()) hD (AD.c rfl (AD.c rfl (AD.c rfl AD.nil))) (sS sN)
      ·refine A2 (AP (Ao (ck hC λhH hI=>ck hI λhJ hK=>ck hK λhL hN=>ck hN λhO hP=>ck hP λhQ hR=>GX 11 [0,2,3,4,7,17,18,19,20,21,22] [⟨[],rS ha,none,none,none⟩,⟨[0],rI .u8 (Ba ha 0),none,none,none⟩,⟨[1],Am (Ba ha 0),none,none,none⟩,⟨[2],Am (C7 .i64 (Ba ha 0) 8),none,none,none⟩,⟨[],rS ha,none,none,none⟩,⟨[4],rI .u8 (Ba ha 1),none,none,none⟩,⟨[5],Am (Ba ha 1),none,none,none⟩,⟨[3,6],Am (HT .i64 (C7 .i64 (Ba ha 0) 8) (Ba ha 1)),none,none,none⟩,⟨[],rS ha,none,none,none⟩,⟨[8],rS (List.drop (Bt 2) ha),none,none,none⟩,⟨[7],Am (HT .i64 (C7 .i64 (Ba ha 0) 8) (Ba ha 1)),none,none,none⟩] ?_ (λβ=>?_))))
       ·refine Gc (Al rfl) (Gc (Bq C3 rfl rfl hH) (Gc (Ic ⟨_,Oe⟩ UM rfl hJ) (Gc (SG rfl rfl (by decide)) (Gc (Al rfl) (Gc (Bq C3 rfl rfl hL) (Gc (Ic ⟨_,Oe⟩ UM rfl hO) (Gc (XT rfl rfl) (Gc (Al rfl) (Gc (Di C3 rfl rfl hQ) (Gc (Aw rfl) ?_))))))))));exact YN
       refine HU (H1:=[.row v233 9 1 (AE eS hd)]) [23,24,25,26,27,28,29,30,31,32,6,0,2,3,4,7,17,18,19,20,21,22] ?_;refine wa rfl (Aq (Ao (Ah (wm rfl (wv (DM rfl rfl) (Aq (cz hR rfl (λhS hT=>?_) (λhS hU=>?_))))))))
       ·refine Ah (wa rfl (Aq (IY (BF (E7 (BF (BF (I4 (E7 (BF (IW (ob hT λgt hV hW=>?_))))))))))));have hX:=B2 hW hf hg;obtain rfl:=Az hX;exact AG (13,()) hV (AD.c rfl (AD.c rfl (AD.c rfl AD.nil))) (sS sN)
       ·refine A2 (AP (Ao (Ah (wm rfl (wv (Bv C3 rfl) (wm rfl (wv (Dv rfl rfl) (Aq (cz hU rfl (λhY hZ=>?_) (λhY ga=>?_))))))))))
        ·refine IY (BF (E7 (BF (BF (I4 (E7 (BF (IW (ob hZ λgu gb gc=>?_)))))))));have gd:=B2 gc hf hg;obtain rfl:=Az gd;exact AG (14,()) gb (AD.c rfl (AD.c rfl (AD.c rfl AD.nil))) (sS sN)
        ·refine A2 (AP (ck ga λhm ge=>ck ge λgf gg=>Exists.elim Wz λinf hinf=>Za 10 5 [0,2,3,6,7,17,18,20,21,22,23,24,25,26,27,28,29,30,31,32,33,34,35,36,37,38] [4] [{ deps:=[],r:=λ_=>rv v233,old:=[4] },{ deps:=[],r:=λ_=>rS (List.drop (Bt 2) ha) },{ deps:=[],r:=λ_=>Am (HT .i64 (C7 .i64 (Ba ha 0) 8) (Ba ha 1)) },{ deps:=[1,2],r:=λ_=>rS (List.take (Bt (HT .i64 (C7 .i64 (Ba ha 0) 8) (Ba ha 1))) (List.drop (Bt 2) ha)) },{ deps:=[3],r:=λ_=>AU 1 (AE eS ([List.take (Bt (HT .i64 (C7 .i64 (Ba ha 0) 8) (Ba ha 1))) (List.drop (Bt 2) ha)]:List Ag)) },{ deps:=[0,4],r:=λhb=>rv hb,dyn:=true },{ deps:=[],r:=λ_=>rS (List.drop (Bt 2) ha) },{ deps:=[],r:=λ_=>Am (HT .i64 (C7 .i64 (Ba ha 0) 8) (Ba ha 1)) },{ deps:=[6,7],r:=λ_=>rS (List.drop (Bt (HT .i64 (C7 .i64 (Ba ha 0) 8) (Ba ha 1))) (List.drop (Bt 2) ha)) },{ deps:=[5],r:=λhb=>rv hb,dyn:=true }] (λhb=>[.row hb 9 1 (AE eS (hd++([List.take (Bt (HT .i64 (C7 .i64 (Ba ha 0) 8) (Ba ha 1))) (List.drop (Bt 2) ha)]:List Ag)))]) ?_ (λhb=>?_)))
         ·refine YL (Al rfl) (YL (Al rfl) (YL (Al rfl) (YL (JV C3 rfl rfl hm) (oxc (EO (ys:=([List.take (Bt (HT .i64 (C7 .i64 (Ba ha 0) 8) (Ba ha 1))) (List.drop (Bt 2) ha)]:List Ag)) (enc:=eS) (css:=[[rS (List.take (Bt (HT .i64 (C7 .i64 (Ba ha 0) 8) (Ba ha 1))) (List.drop (Bt 2) ha))]]) (xs:=[.tmp 42]) D2 D1 ZY rfl rfl rfl ⟨GR.one rfl (Up.refl _),trivial⟩ rfl Ih rfl rfl) (oxx (UW (xs:=hd) (ys:=([List.take (Bt (HT .i64 (C7 .i64 (Ba ha 0) 8) (Ba ha 1))) (List.drop (Bt 2) ha)]:List Ag)) (enc:=eS) (i:=0) D2 hinf.1 hinf.2.1 hinf.2.2.1 hinf.2.2.2 rfl rfl rfl rfl rfl (LD.z rfl rfl) Ih Se gf) (YL (Al rfl) (YL (Al rfl) (YL (Di C3 rfl rfl hm) (YL (fun {hb _}=>(Aw rfl)) ?_)))))))));exact oxe
         refine HU (H1:=[.row hb 9 1 (AE eS (hd++([List.take (Bt (HT .i64 (C7 .i64 (Ba ha 0) 8) (Ba ha 1))) (List.drop (Bt 2) ha)]:List Ag)))]) [39,40,41,42,43,44,45,46,47,4,0,2,3,6,7,17,18,20,21,22,23,24,25,26,27,28,29,30,31,32,33,34,35,36,37,38] ?_;refine wa rfl (At (AJ (AP (An (ck gg λgh gi=>wv (BL rfl rfl gh) (wm rfl (At ?_)))))));have gj:=B6 gi hf;exact A4 (AG (h5,(List.drop (Bt (HT .i64 (C7 .i64 (Ba ha 0) 8) (Ba ha 1))) (List.drop (Bt 2) ha),hd++([List.take (Bt (HT .i64 (C7 .i64 (Ba ha 0) 8) (Ba ha 1))) (List.drop (Bt 2) ha)]:List Ag),HT .i64 (C7 .i64 (Ba ha 0) 8) (Ba ha 1),hk+1),hb) ⟨gj,Ab1 _⟩ (AD.c rfl (AD.c rfl (AD.c rfl (AD.c5 rfl rfl rfl rfl rfl AD.nil)))) (sC sN))
     ·refine B1 (A3 ?_);have gk:=Cm h9 hf hg;exact A3 (Bj (AG ((ha,hd),v233) gk (AD.c5 rfl rfl rfl rfl rfl AD.nil) (sC sN)))
    ·rintro⟨⟨hn,he⟩,ho⟩ hi;refine CU (l':=[(0,rS hn),(2,rv (.slice none 0 0)),(3,Am 0),(4,rv ho),(7,Am 14)]) (H':=[.row ho 9 1 (AE eS he)]) rfl rfl ?_;replace hi:Eg hn he=some r:=hi;unfold Eg at hi;refine Be (AP (Ao (Ah (wm rfl (wv (KE rfl rfl) (Aq (cz hi rfl (λgl gm=>?_) (λgl gn=>?_))))))))
     ·exact Ah (wa rfl (Aq (IY (BF (IW (AG (13,()) gm (AD.c rfl (AD.c rfl (AD.c rfl AD.nil))) (sS sN)))))))
     ·refine A2 (AP (Ao (Ah (wm rfl (wm rfl (wv (C5 (ys:=he) (enc:=eS) (i:=0) D2 rfl rfl) (wm rfl (wv (C5 (ys:=he) (enc:=eS) (i:=0) D2 rfl rfl) (WL.freeze (i:=0) rfl (WL.up (d:=51) (r:=AU 1 (AE eS he)) rfl (Up.fact (i:=0) rfl) (ck gn λgp gq=>wv (r:=AU 1 (AE eS (List.take (Bt (he.length:Int)) he))) (LR D2 D1 rfl rfl rfl gp) (wa rfl (wa rfl (Aq (Ay (Ac (X8 ?_)))))))))))))))));obtain rfl:=Az gq;exact Ax (EB Tryz.results72 (AL rfl) (AL rfl)) (sS sN) ⟨rfl,rfl⟩
 ·rintro⟨hp,⟨⟩⟩ hj;refine BY (l':=[(2,rv (.slice none 0 0)),(3,Am 0),(7,Am hp)]) (H':=[]) rfl rfl ?_;replace hj:Dm hp=some r:=hj;unfold Dm at hj;refine Ao (A2 (AP (Ah (wm rfl (wa rfl (wa rfl (Aq (Ay (IV (WK.up (d:=2) (r:=AU 1 (AE eS ([]:List Ag))) rfl (Up.le (Iw.nil _)) ?_))))))))));obtain rfl:=Az hj;exact Ax (EB Tryz.results72 (AL rfl) (AL rfl)) sN ⟨rfl,rfl⟩
theorem Yz (F:Nat)(body:Ag)(r:Ag×Int)(h:N2 F body=some r):Fn Tryz.prog GE 68 [rS body] [] (λR H=>R=C2 [rS r.1,Am r.2]∧H=[]):=by
 refine enter (n:=17) Tryz.func68 rfl Tryz.ntmps68 rfl (λw Z=>?_);unfold N2 at h;refine Ah (wv (r:=rS ([]:Ag)) (Aw rfl) (wa rfl (Aq (Ao (Ah (wm rfl (wv (Bv C3 rfl) (wv (DM rfl rfl) (Aq (cz h rfl (λc1 h2=>?_) (λc1 h3=>?_)))))))))))
 ·refine Ah (wv (r:=rS ([]:Ag)) (Aw rfl) (wa rfl (Aq (Ay (Ac ?_)))));obtain rfl:=Az h2;exact Ax (EB Tryz.results68 (AL rfl) (AL rfl)) sN ⟨rfl,rfl⟩
 ·refine A2 (AP (Ah (wm rfl (wv (Bv C3 rfl) (wv (r:=rI .u32 (IntKind.wrap .u32 (body.length:Int))) (BQ ⟨_,UM⟩ In rfl) (ob h3 λr4 e6 h5=>Gb Tryz.call90 (OI (IntKind.wrap .u32 (body.length:Int)) r4 e6) rfl (wm rfl (ob h5 λr7 e9 h8=>Gb Tryz.call91 (W4 F body r7 e9) rfl (ob h8 λha hb hd=>Gb Tryz.call90 (OI r7 ha hb) rfl (ck hd λhe hf=>wv (RH rfl rfl he) (wm rfl (ck hf λg15 hg=>wv (RH rfl rfl g15) (wa rfl (wa rfl (Aq (Ay ?_))))))))))))))));obtain rfl:=Az hg;exact Ax (EB Tryz.results68 (AL rfl) (AL rfl)) sN ⟨rfl,rfl⟩
theorem Y0 (F:Nat)(s:Ag)(r:Ag×Int×Int)(h:QU F s=some r):Fn Tryz.prog GE 71 [rS s] [] (λR H=>R=C2 [rS r.1,Am r.2.1,Am r.2.2]∧H=[]):=by
 refine enter (n:=35) Tryz.func71 rfl Tryz.ntmps71 rfl (λw Z=>?_);unfold QU at h;refine Ah (wv (r:=rS ([]:Ag)) (Aw rfl) (wa rfl (wa rfl (Aq (Ao (Ah (wm rfl (wv (Bv C3 rfl) (wv (Dv rfl rfl) (Aq (cz h rfl (λc1 h2=>?_) (λc1 h3=>?_))))))))))))
 ·refine Ah (wv (r:=rS ([]:Ag)) (Aw rfl) (wa rfl (wa rfl (Aq (Ay (Ac ?_))))));obtain rfl:=Az h2;exact Ax (V0 UQ (AL rfl) (AL rfl) (AL rfl)) sN ⟨rfl,rfl⟩
 ·refine A2 (AP (Ah (wm rfl (ob h3 λr4 e6 h5=>Gb Tryz.call96 (OH s r4 e6) rfl (wv (r:=Am (IntKind.wrap .i64 r4)) (BQ ⟨_,In⟩ UM rfl) (wa rfl (Aq (Ao (AK (Ah (wm rfl (wv (DM rfl rfl) (wa rfl (Aq (cz h5 rfl (λc7 h8=>?_) (λc7 h9=>?_))))))))))))))))
  ·refine Ah (wv (r:=rS ([]:Ag)) (Aw rfl) (wa rfl (wa rfl (Aq (Ay (A0 (Ac ?_)))))));obtain rfl:=Az h8;exact Ax (V0 UQ (AL rfl) (AL rfl) (AL rfl)) sN ⟨rfl,rfl⟩
  ·refine Ah (wm rfl (wm rfl (wv (Bv C3 rfl) (ck h9 λhb hd=>wv (LQ rfl rfl hb) (wv (DM rfl rfl) (wa rfl (Aq (cz hd rfl (λhe hf=>?_) (λhe hg=>?_)))))))))
   ·refine Ah (wv (r:=rS ([]:Ag)) (Aw rfl) (wa rfl (wa rfl (Aq (Ay (A0 (Ac ?_)))))));obtain rfl:=Az hf;exact Ax (V0 UQ (AL rfl) (AL rfl) (AL rfl)) sN ⟨rfl,rfl⟩
   ·refine A2 (AJ (AP (Ah (wm rfl (wm rfl (ck hg λg15 hh=>wv (BL rfl rfl g15) (ck hh λg17 hi=>ck hi λg19 hj=>wv (JU C3 rfl rfl rfl g17 g19) (wa rfl (Aq (Ao (Ao (ob hj λha hk hl=>ck hl λhm hn=>GX 4 [0,5,6] [⟨[],rS (List.take (Bt (8+(IntKind.wrap .i64 r4))-Bt 8) (List.drop (Bt 8) s)),none,none,none⟩,⟨[0],rI .u32 ha,none,none,none⟩,⟨[],rS s,none,none,none⟩,⟨[2],rS (List.drop (Bt 4) s),none,none,none⟩] ?_ (λβ=>?_)))))))))))))
    ·refine Gc (Al rfl) (oac (KD Tryz.call91 (W4 F (List.take (Bt (8+(IntKind.wrap .i64 r4))-Bt 8) (List.drop (Bt 8) s)) ha hk) rfl) (Gc (Al rfl) (Gc (Di C3 rfl rfl hm) ?_)));exact YN
    refine HU (H1:=[]) [26,27,28,29,0,5,6] ?_;refine ob hn λho hp hq=>Gb Tryz.call96 (OH (List.drop (Bt 4) s) ho hp) rfl (wv (Dj rfl rfl) (Aq (cz hq rfl (λhr hs=>?_) (λhr ht=>?_))))
    ·refine Ah (wv (r:=rS ([]:Ag)) (Aw rfl) (wa rfl (wa rfl (Aq (Ay (Ac ?_))))));obtain rfl:=Az hs;exact Ax (V0 UQ (AL rfl) (AL rfl) (AL rfl)) sN ⟨rfl,rfl⟩
    ·refine A2 (AP (Ah (wm rfl (wm rfl (wv (BL rfl rfl g15) (wa rfl (wa rfl (wa rfl (Aq (Ay ?_))))))))));obtain rfl:=Az ht;exact Ax (V0 UQ (AL rfl) (AL rfl) (AL rfl)) sN ⟨rfl,rfl⟩
theorem WD (F:Nat)(s:Ag)(r:(List Ag)×Int)(h:N1 F s=some r):Fn Tryz.prog GE 51 [rS s] [] (λR H=>R=C2 [AU 1 (AE eS r.1),Am r.2]∧H=[]):=by
 refine enter (n:=37) Tryz.func51 rfl Tryz.ntmps51 rfl (λw Z=>?_);unfold N1 at h;refine Ah (wa rfl (wa rfl (Bx (wa rfl (Bx (wa rfl (Aq (Ao (AK (WC.nilrow (e:=9) (sz:=1) (ob h λhm hn hj=>B0 (S:=Nat×((List Ag)×Int)×(Value)) (V:=((List Ag)×Int)×(Value)) 0 (λσ=>BE (λσ=>EK F s σ.1 σ.2) σ.1 σ.2.1=some hm) (λσ=>[(0,rS s),(2,rv (.slice none 0 0)),(3,Am 0),(4,rv σ.2.2),(5,Am σ.2.1.2)]) (λσ=>[.row σ.2.2 9 1 (AE eS σ.2.1.1)]) (λσ=>σ.1) (F,(([]:List Ag),0),(.slice none 0 0         )) hn (AD.c5 rfl rfl rfl rfl rfl AD.nil) (sC sN) (λσ=>HJ σ.1.1 σ.1.2=some r) (λσ=>[(2,rv (.slice none 0 0)),(3,Am 0),(4,rv σ.2),(5,Am σ.1.2)]) (λσ=>[.row σ.2 9 1 (AE eS σ.1.1)]) ?_ ?_)))))))))))
 ·rintro⟨hB,⟨hb,hd⟩,hf⟩ ho;refine BY (l':=[(0,rS s),(2,rv (.slice none 0 0)),(3,Am 0),(4,rv hf),(5,Am hd)]) (H':=[.row hf 9 1 (AE eS hb)]) rfl rfl ?_;obtain⟨hp,rfl,hq,hg,hi⟩:=CO ho;replace hg:EK F s hb hd=some hq:=hg;unfold EK at hg;refine Ao (Ah (wm rfl (wm rfl (wv (Bv C3 rfl) (wv (Dv rfl rfl) (Aq (cz hg rfl (λhr hs=>?_) (λhr ht=>?_))))))))
  ·refine A2 (AP (AK (Ah (wm rfl (wm rfl (ck hs λhu hw=>wv (Di C3 rfl rfl hu) (ob hw λhe hx hy=>Gb Tryz.call71 (Y0 F (List.drop (Bt hd) s) he hx) rfl (wm rfl (wv (AF rfl rfl) (wv (AF rfl rfl) (wv (AF rfl rfl) (wa rfl (wa rfl (wa rfl (Aq (Ao (Ah (wm rfl (wv (Dj rfl rfl) (Aq (cz hy rfl (λc167 hz=>?_) (λc167 h0=>?_))))))))))))))))))))))
   ·refine B1 (A3 (ME rfl ?_));have h1:=Cm hz hi hj;exact A3 (Bj (AG ((hb,hd),hf) h1 (AD.c rfl (AD.c rfl (AD.c rfl (AD.c rfl AD.nil)))) (sC sN)))
   ·refine A2 (AP (An (wm rfl (wm rfl (AW (ys:=([he.1]:List Ag)) (enc:=eS) (css:=[[rS he.1]]) (xs:=[.tmp 24]) D2 D1 ZY rfl rfl rfl ⟨GR.one rfl (Up.refl _),trivial⟩ rfl Ih rfl rfl rfl (λhC=>?_))))));refine ck h0 λh2 h3=>Exists.elim Wz λinf hinf=>Cb (xs:=hb) (ys:=([he.1]:List Ag)) (enc:=eS) (i:=1) D2 hinf.1 hinf.2.1 hinf.2.2.1 hinf.2.2.2 rfl rfl rfl rfl rfl (LD.w (i:=0) rfl rfl) Ih Se h2 rfl (λh4=>?_);refine wm rfl (wm rfl (ck h3 λh5 h6=>wv (BL rfl rfl h5) (wa rfl (wa rfl (At (AJ ?_))))));have h7:=B6 h6 hi;exact A4 (AG (hp,(hb++([he.1]:List Ag),hd+he.2.1),h4) ⟨h7,Ab1 _⟩ (AD.c5 rfl rfl rfl rfl rfl AD.nil) (sC (sS sN)))
  ·refine B1 (A3 ?_);have h8:=Cm ht hi hj;exact A3 (Bj (AG ((hb,hd),hf) h8 (AD.c rfl (AD.c rfl (AD.c rfl (AD.c rfl AD.nil)))) (sC sN)))
 ·rintro⟨⟨ha,hk⟩,hl⟩ hh;refine CU (l':=[(2,rv (.slice none 0 0)),(3,Am 0),(4,rv hl),(5,Am hk)]) (H':=[.row hl 9 1 (AE eS ha)]) rfl rfl ?_;replace hh:HJ ha hk=some r:=hh;unfold HJ at hh;refine Be (AP (Ah (wm rfl (wm rfl (wv (C5 (ys:=ha) (enc:=eS) (i:=0) D2 rfl rfl) (wm rfl (wv (C5 (ys:=ha) (enc:=eS) (i:=0) D2 rfl rfl) (WL.freeze (i:=0) rfl (WL.up (d:=30) (r:=AU 1 (AE eS ha)) rfl (Up.fact (i:=0) rfl) (ck hh λh9 hA=>wv (r:=AU 1 (AE eS (List.take (Bt (ha.length:Int)) ha))) (LR D2 D1 rfl rfl rfl h9) (wm rfl (wa rfl (wa rfl (Aq (Ay ?_)))))))))))))));obtain rfl:=Az hA;exact Ax (EB Tryz.results51 (AL rfl) (AL rfl)) (sS sN) ⟨rfl,rfl⟩
theorem Y1 (F:Nat)(bodies:(List Ag))(r:Ag×Int)(h:QV F bodies=some r):Fn Tryz.prog GE 46 [AU 1 (AE eS bodies)] [] (λR H=>R=C2 [rS r.1,Am r.2]∧H=[]):=by
 refine enter (n:=36) Tryz.func46 rfl Tryz.ntmps46 rfl (λw Z=>?_);unfold QV at h;refine Ah (wv (r:=rS ([]:Ag)) (Aw rfl) (wa rfl (Bx (wa rfl (Aq (Ao (Ah (wm rfl (wv (B8 (ys:=bodies) (enc:=eS) D2 rfl) (wv (r:=Am 0) (Al rfl) (Aq (AK (WC.nilrow (e:=5) (sz:=1) (ob h λhk hl hj=>B0 (S:=Nat×((List Int)×Int)×(Value)) (V:=((List Int))×(Value)) 0 (λσ=>BE (λσ=>Ey F bodies σ.1 σ.2) σ.1 σ.2.1=some hk) (λσ=>[(4,rv σ.2.2),(9,AU 1 (AE eS bodies)),(10,Am (bodies.length:Int)),(11,Am σ.2.1.2)]) (λσ=>[.row σ.2.2 5 1 (AE Bc σ.2.1.1)]) (λσ=>σ.1) (F,(([]:List Int),0),(.slice none 0 0     )) hl (AD.c rfl (AD.c rfl (AD.c rfl (AD.c rfl AD.nil)))) (sC sN) (λσ=>IL σ.1=some r) (λσ=>[(4,rv σ.2)]) (λσ=>[.row σ.2 5 1 (AE Bc σ.1)]) ?_ ?_))))))))))))))
 ·rintro⟨hA,⟨hb,he⟩,v41⟩ hm;refine BY (l':=[(4,rv v41),(9,AU 1 (AE eS bodies)),(10,Am (bodies.length:Int)),(11,Am he)]) (H':=[.row v41 5 1 (AE Bc hb)]) rfl rfl ?_;obtain⟨hn,rfl,ho,hf,hi⟩:=CO hm;replace hf:Ey F bodies hb he=some ho:=hf;unfold Ey at hf;refine Ah (wv (Dv rfl rfl) (Aq (Ao (cz hf rfl (λhp hq=>?_) (λhp hr=>?_)))))
  ·refine A2 (AP (Ao (AK (Ah (ck hq λhs ht=>wv (BB (enc:=eS) (ys:=bodies) D2 D1 rfl rfl hs) (wv (Bu Eb rfl rfl) (wa rfl (Bx (wm rfl (ob ht λhd hu hw=>Gb Tryz.call68 (Yz F (Ap bodies he) hd hu) rfl (wm rfl (wv (AF rfl rfl) (wv (AF rfl rfl) (wa rfl (wa rfl (Aq (Ao (ck hw λhx hy=>AO [(4,rv v41),(7,rS hd.1),(9,AU 1 (AE eS bodies)),(10,Am (bodies.length:Int)),(11,Am he),(29,rB ((!decide (hd.2=0))||(decide (262144<((hb.length:Int)+(hd.1.length:Int))))))] [.row v41 5 1 (AE Bc hb)] ?_ ?_))))))))))))))))))
   ·refine An (wm rfl (wv (Dj rfl rfl) (wm rfl (AY (!decide (hd.2=0)) (λha=>?_) (λha=>?_)))))
    ·refine wf ha (wf ha (wf ha (wf ha (wf ha (wf ha (wv (r:=rB true) (A7 rfl ha rfl) (At ?_)))))));exact D3 ha
    ·refine wo ha (wm rfl (wo ha (wv (C5 (ys:=hb) (enc:=Bc) (i:=0) GS rfl rfl) (wo ha (wm rfl (wo ha (wv (Bv C3 rfl) (wo ha (wv (BL rfl rfl (II hx ha)) (wo ha (wv (DM rfl rfl) (Lf rfl ha rfl (At ?_)))))))))))));exact D3 ha
   refine cz hy rfl (λhz h0=>?_) (λhz h1=>?_)
   ·refine Ah (wv (r:=rS ([]:Ag)) (Aw rfl) (wa rfl (Aq (Ay (Ac (A0 (Ac (Ac (AX ?_)))))))));have h2:=B2 h0 hi hj;refine A0 (Ac ?_);obtain rfl:=Az h2;exact Ax (EB Tryz.results46 (AL rfl) (AL rfl)) (sS sN) ⟨rfl,rfl⟩
   ·refine A2 (AP (An (wm rfl (wm rfl (ck h1 λh3 h4=>Exists.elim LW λinf hinf=>Gj (xs:=hb) (i:=0) GS C3 hinf.1 hinf.2.1 hinf.2.2.1 hinf.2.2.2 rfl rfl rfl h3 rfl (λh5=>?_))))));refine wa rfl (At (AJ (AP (An (ck h4 λh6 h7=>wv (BL rfl rfl h6) (wm rfl (At ?_)))))));have h8:=B6 h7 hi;exact A4 (AG (hn,(hb++CC hd.1,he+1),h5) ⟨h8,Ab1 _⟩ (AD.c rfl (AD.c rfl (AD.c rfl (AD.c rfl AD.nil)))) (sC sN))
  ·refine B1 (A3 ?_);have h9:=Cm hr hi hj;exact A3 (Bj (AG (hb,v41) h9 (AD.c rfl AD.nil) (sC sN)))
 ·rintro⟨hg,v63⟩ hh;refine CU (l':=[(4,rv v63)]) (H':=[.row v63 5 1 (AE Bc hg)]) rfl rfl ?_;replace hh:IL hg=some r:=hh;unfold IL at hh;refine Be (AP (Ah (wm rfl (wv (r:=rS (NQ hg)) (SJ (xs:=hg) (i:=0) GS C3 Oe rfl rfl) (wa rfl (wa rfl (Aq (Ay ?_))))))));obtain rfl:=Az hh;exact Ax (EB Tryz.results46 (AL rfl) (AL rfl)) (sS sN) ⟨rfl,rfl⟩
end Go.Proofs.YtjfnokmpfekniaaGreatDoor.Q
namespace Go.Proofs.YtjfnokmpfekniaaGreatDoor
open Go
set_option linter.unusedVariables false
def QJ (F:Nat)(c:Ae):Option (Ag×Int):=
 AV (!c.fDelete) (Bi (Kr F c.fValue) λr4=>AV (!decide (r4.2=0)) (some (([]:Ag),r4.2)) (AR (B7 .i64 c.fIfVersion)<|Bi (OG F ([c.fKey,([48]:Ag),r4.1,Lib.itoa c.fIfVersion]:List Ag)) λha=>some (ha.1,ha.2))) (AR (B7 .i64 c.fIfVersion)<|Bi (OG F ([c.fKey,([49]:Ag),([]:Ag),Lib.itoa c.fIfVersion]:List Ag)) λhb=>some (hb.1,hb.2))
def Dk (F:Nat)(l:(List Ae))(hd:(List Ag))(ha:Int):Option (Stp ((List Ag)×Int) (Out (Ag×Int) ((List Ag)))):=
 AV (decide (ha<(l.length:Int))) (AR (CG ha (l.length:Int))<|Bi (QJ F (Ap l ha)) λhb=>AV (!decide (hb.2=0)) (some (.out (.ret (([]:Ag),hb.2)))) (AR (Dw 16 (hd.length+([hb.1]:List Ag).length))<|AR (B7 .i64 (ha+1))<|some (.next (hd++([hb.1]:List Ag),ha+1)))) (some (.out (.go hd)))
def GK (F:Nat)(hb:(List Ag)):Option (Ag×Int):=
 Bi (QV F hb) λha=>some (ha.1,ha.2)
def Jq (F:Nat)(l:(List Ae)):Option (Ag×Int):=
 Bi (GJ F l) λr1=>AV (!decide (r1=0)) (some (([]:Ag),r1)) (Bi (BE (λσ=>Dk F l σ.1 σ.2) F (([]:List Ag),0)) (By λν=>GK F ν))
def KM (F:Nat)(s:Ag):Option (Ae×Bool):=
 Bi (KV F s) λr2=>AR (imp (!(!decide (r2.2=0))) (imp (!(!decide ((r2.1.length:Int)=4))) (CG 1 (r2.1.length:Int))))<|AV (((!decide (r2.2=0))||((!decide ((r2.1.length:Int)=4))||((!decide ((Ap r2.1 1)=([48]:Ag)))&&(!decide ((Ap r2.1 1)=([49]:Ag))))))) (some ((Ae.mk ([]:Ag) false ([]:List Aa) 0),false)) (AR (CG 3 (r2.1.length:Int))<|AR (Dw 1 (Ap r2.1 3).length)<|AV (!decide ((BD (Ap r2.1 3))=0)) (some ((Ae.mk ([]:Ag) false ([]:List Aa) 0),false)) (AR (CG 0 (r2.1.length:Int))<|AR (CG 1 (r2.1.length:Int))<|AV (decide ((Ap r2.1 1)=([49]:Ag))) (AR (CG 2 (r2.1.length:Int))<|some ((Ae.mk (Ap r2.1 0) (decide ((Ap r2.1 1)=([49]:Ag))) ([]:List Aa) (Bm (Ap r2.1 3))),decide ((Ap r2.1 2)=([]:Ag)))) (AR (CG 2 (r2.1.length:Int))<|Bi (Ks F (Ap r2.1 2)) λha=>some ((Ae.mk (Ap r2.1 0) (decide ((Ap r2.1 1)=([49]:Ag))) ha.1 (Bm (Ap r2.1 3))),decide (ha.2=0)))))
def Dl (F:Nat)(r1:(List Ag)×Int)(hb:(List Ae))(ha:Int):Option (Stp ((List Ae)×Int) (Out ((List Ae)×Int) ((List Ae)))):=
 AV (decide (ha<(r1.1.length:Int))) (AR (CG ha (r1.1.length:Int))<|Bi (KM F (Ap r1.1 ha)) λhd=>AV (!hd.2) (some (.out (.ret (([]:List Ae),13)))) (AR (Dw 56 (hb.length+([hd.1]:List Ae).length))<|AR (B7 .i64 (ha+1))<|some (.next (hb++([hd.1]:List Ae),ha+1)))) (some (.out (.go hb)))
def GL (F:Nat)(rc:Ag)(ha:(List Ae)):Option ((List Ae)×Int):=
 Bi (Jq F ha) λhb=>AV (((!decide (hb.2=0))||(!decide (hb.1=rc)))) (some (([]:List Ae),13)) (some (ha,0))
def KP (F:Nat)(rc:Ag):Option ((List Ae)×Int):=
 Bi (N1 F rc) λr1=>AV (!decide (r1.2=(rc.length:Int))) (some (([]:List Ae),13)) (Bi (BE (λσ=>Dl F r1 σ.1 σ.2) F (([]:List Ae),0)) (By λν=>GL F rc ν))
def QK (F:Nat)(q:AB)(rc:Ag):Option (Int×AB):=
 Bi (JF q) λr1=>AV (!r1.1) (some (10,r1.2)) (Bi (KP F rc) λr7=>AV (!decide (r7.2=0)) (some (r7.2,r1.2)) (Bi (Gd F r1.2 r7.1) λha=>some (ha.1,ha.2)))
end Go.Proofs.YtjfnokmpfekniaaGreatDoor
