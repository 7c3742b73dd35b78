/-
  Texts of the proof, put together: QU, QT, WVg, PVh, QN, WVh, PFa, QW, PM, QM, QV, PH, QJ, QX, QL, WFa, PI, PFb, QF, GrowL, QGr.
-/
import Derived.Test.YtghdglcmblpbeaaGreatDoorFI2
import Derived.Laws.Cover3
import Derived.MapKept
import Derived.Maps.RangeRun
import GoSem.Op.IntBits
import GoSem.Op.Shift
import Derived.ScopeJumps
import Derived.Laws.CopyRow
import Derived.Laws.IdiomCopy
import Derived.Laws.OwnMore
import Derived.Shelf.Spec.SlicesGrow
import Derived.Test.YtghdglcmblpbeaaGreatDoorProg
namespace Go.Proofs.YtghdglcmblpbeaaGreatDoor.Q
open Go Go.RowKit
set_option linter.unusedVariables false
set_option linter.unusedSimpArgs false
def O9 (ops:List Oper)(N:Nat):Bool:=
 let cl:=L4 ops []
 (List.range ops.length).all (λi=>(DU (ops.getD i default)).all (·<i))&&
 (List.range ops.length).all (λi=>i<N||(List.range i).all (λj=>(cl.getD i 0).testBit j))
section
variable {P : Program} {Q : Exit → Act → World → Prop}
theorem NR {listed:Array Bool}{len m:Nat}(hs:listed.size=len)(hm:m≤len)(h:∀j,j<len→(listed.getD j true=true↔j<m)):listed.toList.count false=len-m:=by
 have:listed.toList=List.replicate m true++List.replicate (len-m) false:=by
  apply List.ext_getElem
  ·simp[hs];omega
  ·intro j h1 h2;have hj:j<len:=by simpa[hs] using h1
   have:=h j hj;rw[Array.getD_eq_getD_getElem?,Array.getElem?_eq_getElem (by omega)] at this;simp only[Wh] at this;rw[Array.getElem_toList,List.getElem_append]
   split
   ·rename_i h3
    simp at h3;simp[this.2 h3]
   ·rename_i h3
    simp at h3;simp only[List.getElem_replicate]
    cases hb:listed[j] with
    | false=>rfl
    | true=>have:=this.1 hb;omega
 rw[this];simp[List.count_append,List.count_replicate]
theorem Pp {listed:Array Bool}{j:Nat}(h:j<listed.size)(d d':Bool):listed.getD j d=listed.getD j d':=by
 simp[Array.getD_eq_getD_getElem?,Array.getElem?_eq_getElem h]
theorem L7 {ops:List Oper}{listed:Array Bool}{i:Nat}{o:Oper}(ho:ops[i]? =some o)(hb:∀e∈DU o,listed.getD e true=true)
  (hcl:∀j o,ops[j]? =some o→listed.getD j true=true→∀e∈DU o,listed.getD e true=true) (j:Nat) (h:((L4 ops []).getD i 0).testBit j=true):j=i∨listed.getD j true=true:=
 GB ops (λk=>k=i∨listed.getD k true=true) ops [] (λt o' ht e he hF=>by
  rcases hF with hF | hF
  ·simp at hF;subst hF;rw[ho] at ht;simp at ht;subst ht;exact .inr (hb e he)
  ·exact .inr (hcl t o' ht (by simpa using hF) e he)) (λj i hb=>by simp at hb) i j h (.inl rfl)
theorem Is {ops:List Oper}{listed:Array Bool}{i:Nat}(hsz:listed.size=ops.length)(hlt:∀i,i<ops.length→∀e∈DU (ops.getD i default),e<i)(h:i∈Region.ready .any ops.toArray listed) :
  listed.getD i true=false∧i<ops.length∧∃o,ops[i]? =some o∧∀e∈DU o,listed.getD e true=true:=by
 obtain⟨h1,o,ho,h2⟩:=mem_ready.1 h;have ho':ops[i]? =some o:=by simpa using ho
 have hil:=(List.getElem?_eq_some_iff.1 ho').1;refine⟨h1,hil,o,ho',λe he=>?_⟩;have hei:=hlt i hil e (by rw[VQ,ho'];exact he);simp only[DU,List.mem_map,List.mem_filter] at he;obtain⟨x,⟨hx1,hx2⟩,rfl⟩:=he;have h3:=h2 x (by simpa using hx1) hx2;rw[Pp (by omega) true false];exact h3
theorem Il {ops:List Oper}{listed:Array Bool}(hsz:listed.size=ops.length)(hlt:∀i,i<ops.length→∀e∈DU (ops.getD i default),e<i)(h:Region.ready .any ops.toArray listed=[]) :
  ∀j,j<ops.length→listed.getD j true=true:=by
 intro j
 induction j using Nat.strongRecOn with
 | ind j ih=>
  intro hj
  cases hb:listed.getD j true with
  | true=>rfl
  | false=>
   have:j∈Region.ready .any ops.toArray listed:=mem_ready.2 ⟨hb,ops[j],by simp[hj],λe he hbn=>by
    have hel:e.on<j:=hlt j hj e.on (by
     rw[VQ,VP hj];simp only[DU,Wh,List.mem_map,List.mem_filter];exact⟨e,⟨by simpa using he,hbn⟩,rfl⟩)
    rw[Pp (by omega) false true];exact ih e.on hel (by omega)⟩
   rw[h] at this;cases this
theorem Ks {listed:Array Bool}{i j:Nat}(hi:i<listed.size):(listed.setIfInBounds i true).getD j true=true↔(j=i∨listed.getD j true=true):=by
 by_cases hj:i=j
 ·subst hj;simp[hi]
 ·rw[getD_set_ne true hj];exact⟨.inr,λh=>h.elim (λh=>absurd h.symm hj) id⟩
theorem PM {listed:Array Bool}{i fuel:Nat}(hi:i<listed.size)(hun:listed.getD i true=false)(hc:listed.toList.count false=fuel+1):(listed.setIfInBounds i true).toList.count false=fuel:=by
 have hfi:listed.toList[i]? =some false:=by
  rw[Array.getD_eq_getD_getElem?,Array.getElem?_eq_getElem hi] at hun;simp at hun;simp[hi,hun]
 rw[Array.toList_setIfInBounds];have h1:=List.count_set (a:=true) (b:=false) (l:=listed.toList) (i:=i) (by simpa using hi);have h2:listed.toList[i]'(by simpa using hi)=false:=by
  have:=List.getElem?_eq_some_iff.1 hfi;exact this.2
 rw[h1,h2,hc];rfl
theorem JM {ops:List Oper}{N:Nat}(hlt:∀i,i<ops.length→∀e∈DU (ops.getD i default),e<i)
  (hch:∀i,N≤i→i<ops.length→∀j,j<i→((L4 ops []).getD i 0).testBit j=true):∀(k m:Nat) (listed:Array Bool) (a:Act) (w:World),m+k=ops.length→N≤m→listed.size=ops.length→
   (∀j,j<ops.length→(listed.getD j true=true↔j<m))→(∀j o,ops[j]? =some o→listed.getD j true=true→∀e∈DU o,listed.getD e true=true)→wpList P ops.toArray Q (ops.drop m) a w→wpAny P .any ops.toArray Q k listed a w
 | 0,m,listed,a,w,hk,hN,hsz,hl,hcl,h=>by
  refine⟨?_,?_⟩
  ·cases hr:Region.ready .any ops.toArray listed with
   | nil=>rfl
   | cons i r=>
    obtain⟨h1,h2,_⟩:=Is hsz hlt (i:=i) (by rw[hr];simp);rw[(hl i h2).2 (by omega)] at h1;cases h1
  ·rw[List.drop_of_length_le (by omega)] at h;exact h
 | k+1,m,listed,a,w,hk,hN,hsz,hl,hcl,h=>by
  refine⟨λhr=>?_,λi hi=>?_⟩
  ·have:=(hl m (by omega)).1 (Il hsz hlt hr m (by omega));omega
  ·obtain⟨h1,h2,o,ho,hb⟩:=Is hsz hlt hi;have him:i=m:=by
    have hmi : ¬ i<m:=λh'=>by rw[(hl i h2).2 h'] at h1;cases h1
    by_cases e:i=m
    ·exact e
    ·rcases L7 ho hb hcl m (hch i (by omega) h2 m (by omega)) with h3 | h3
     ·exact h3.symm
     ·have:=(hl m (by omega)).1 h3;omega
   subst him;have hd:ops.drop i=o::ops.drop (i+1):=by
    rw[List.drop_eq_getElem_cons h2]
    congr 1
    exact(List.getElem?_eq_some_iff.1 ho).2
   rw[hd] at h;have ih:∀a' w',wpList P ops.toArray Q (ops.drop (i+1)) a' w'→wpAny P .any ops.toArray Q k (listed.setIfInBounds i true) a' w':=λa' w' h'=>by
    refine JM hlt hch k (i+1) _ a' w' (by omega) (by omega) (by simpa using hsz) (λj hj=>?_) (λj o' hj hlj e he=>?_) h'
    ·rw[Ks (by omega),hl j hj];omega
    ·rw[Ks (by omega)] at hlj ⊢;rcases hlj with rfl | hlj
     ·rw[ho] at hj;simp at hj;subst hj;exact .inr (hb e he)
     ·exact .inr (hcl j o' hj hlj e he)
   unfold wpOp;have hoA:ops.toArray[i]? =some o:=by simpa using ho
   simp only[hoA];simp only[wpList] at h
   split
   ·rename_i hw'
    rw[if_pos hw'] at h;exact h.imp (λh=>Oper.wp_mono ih h) (λh=>h)
   ·rename_i hw'
    rw[W1 hw'] at h;exact ih _ _ h
theorem TM {id:Nat}{ops:List Oper}{N:Nat}(hm:P.follows .mixedOrders=true)(hB:O9 ops N=true)(hN:N≤ops.length)(I:(Nat→Bool)→Act→World→Prop)
  (hext:∀S S' a w,(∀j,j<N→S j=S' j)→I S a w→I S' a w) {a:Act} {w:World} (h0:I (λ_=>false) a { w with drawn:=w.drawn+1 })
  (step:∀S i o a w,i<N→S i=false→ops[i]? =some o→(∀e∈DU o,e<i∧S e=true)→I S a w→∀K:Act→World→Prop,(∀a' w',I (λj=>j ==i||S j) a' w'→K a' w')→
   (Region.wanted o (yielded ops.toArray a.tmps)=true→o.wp P a w K Q)∧(Region.wanted o (yielded ops.toArray a.tmps)=false→K (a.put o.dst undef) w))
  (fin:∀a w,I (λ_=>true) a w→wpList P ops.toArray Q (ops.drop N) a w):(Code.region id ops.toArray true).wp P Q a w:=by
 simp only[O9,VJ,Wn,List.mem_range,VH,Ww] at hB;obtain⟨hlt,hch0⟩:=hB;have hch:∀i,N≤i→i<ops.length→∀j,j<i→((L4 ops []).getD i 0).testBit j=true:=λi h1 h2 j hj=>by
  rcases hch0 i h2 with h3 | h3
  ·omega
  ·exact h3 j hj
 refine wp_region_any hm ?_;have main:∀(fuel:Nat) (listed:Array Bool) (a:Act) (w:World),listed.size=ops.length→listed.toList.count false=fuel→I (λj=>listed.getD j true) a w→
   (∀j o,ops[j]? =some o→listed.getD j true=true→∀e∈DU o,listed.getD e true=true)→(∀j,N≤j→j<ops.length→listed.getD j true=false)→wpAny P .any ops.toArray Q fuel listed a w:=by
  intro fuel;have allin:∀(fuel:Nat) (listed:Array Bool) (a:Act) (w:World),listed.size=ops.length→listed.toList.count false=fuel→I (λj=>listed.getD j true) a w→
   (∀j o,ops[j]? =some o→listed.getD j true=true→∀e∈DU o,listed.getD e true=true)→(∀j,N≤j→j<ops.length→listed.getD j true=false)→(∀j,j<N→listed.getD j true=true)→wpAny P .any ops.toArray Q fuel listed a w:=by
   intro fuel listed a w hsz hc hI hcl hlast hall;have hl:∀j,j<ops.length→(listed.getD j true=true↔j<N):=λj hj=>by
    constructor
    ·intro h
     by_cases hjN:j<N
     ·exact hjN
     ·rw[hlast j (by omega) hj] at h;cases h
    ·exact hall j
   have:=NR hsz hN hl;refine JM hlt hch fuel N listed a w (by omega) (VZ _) hsz hl hcl (fin a w (hext _ _ a w (λj hj=>hall j hj) hI))
  induction fuel with
  | zero=>
   intro listed a w hsz hc hI hcl hlast;refine allin 0 listed a w hsz hc hI hcl hlast (λj hj=>?_)
   cases hb:listed.getD j true with
   | true=>rfl
   | false=>
    have:false∈listed.toList:=by
     rw[Array.getD_eq_getD_getElem?,Array.getElem?_eq_getElem (by omega)] at hb;simp at hb;rw[← hb];simp
    have:=List.count_pos_iff.2 this;omega
  | succ fuel ih=>
   intro listed a w hsz hc hI hcl hlast
   by_cases hall:∀j,j<N→listed.getD j true=true
   ·exact allin (fuel+1) listed a w hsz hc hI hcl hlast hall
   ·refine⟨λhr=>absurd (λj hj=>Il hsz hlt hr j (by omega)) hall,λi hi=>?_⟩;obtain⟨h1,h2,o,ho,hb⟩:=Is hsz hlt hi;have hiN:i<N:=by
     by_cases h:i<N
     ·exact h
     ·refine absurd (λj hj=>?_) hall;rcases L7 ho hb hcl j (hch i (by omega) h2 j (by omega)) with h3 | h3
      ·omega
      ·exact h3
    have K':∀a' w',I (λj=>j ==i||listed.getD j true) a' w'→wpAny P .any ops.toArray Q fuel (listed.setIfInBounds i true) a' w':=λa' w' hI'=>by
     refine ih _ a' w' (by simpa using hsz) (PM (by omega) h1 hc) (hext _ _ a' w' (λj hj=>?_) hI') (λj o' hj hlj e he=>?_) (λj h3 h4=>?_)
     ·have:=Ks (listed:=listed) (i:=i) (j:=j) (by omega)
      cases hq:(listed.setIfInBounds i true).getD j true with
      | true=>
       rw[hq] at this;rcases this.1 rfl with h | h
       ·simp[h]
       ·simp[h]
      | false=>
       rw[hq] at this;have h5 : ¬ (j=i∨listed.getD j true=true):=λh=>by have:=this.2 h;cases this
       cases hz:listed.getD j true with
       | true=>exact absurd (.inr hz) h5
       | false=>
        have:j≠i:=λh=>h5 (.inl h);simp[this]
     ·rw[Ks (by omega)] at hlj ⊢;rcases hlj with rfl | hlj
      ·rw[ho] at hj;simp at hj;subst hj;exact .inr (hb e he)
      ·exact .inr (hcl j o' hj hlj e he)
     ·rw[getD_set_ne true (by omega)];exact hlast j h3 h4
    obtain⟨k1,k2⟩:=step _ i o a w hiN h1 ho (λe he=>⟨hlt i h2 e (by rw[VQ,ho];exact he),hb e he⟩) hI _ K';unfold wpOp;have hoA:ops.toArray[i]? =some o:=by simpa using ho
    simp only[hoA]
    split
    ·rename_i hw';exact .inl (k1 hw')
    ·rename_i hw';exact k2 (by simpa using hw')
 have e0:∀j,j<ops.length→(Array.replicate ops.length false).getD j true=false:=λj hj=>by simp[hj]
 have hsz0:ops.toArray.size=ops.length:=by simp
 rw[hsz0];refine main ops.length (Array.replicate ops.length false) a _ (by simp) (by simp) (hext _ _ _ _ (λj hj=>(e0 j (by omega)).symm) h0) (λj o hj hl=>?_) (λj _ h2=>e0 j h2);rw[e0 j (List.getElem?_eq_some_iff.1 hj).1] at hl;cases hl
end
structure Sa where
 deps:List Nat
 r:Rp
 al:Option (List Rp×TypeId):=none
 late:Option (Nat×List Rp):=none
 sto:Option Nat:=none
def Eu (sp:List Sa)(i:Nat):Sa:=sp.getD i { deps:=[],r:=rv undef }
def SB (sp:List Sa):List Sp:=sp.map λs=>⟨s.deps,s.r,0⟩
def Jq (β:Nat→Nat)(s:Sa)(i:Nat):Rp:=match s.al with
 | none=>s.r
 | some _=>rv (.pointer (some ⟨β i,0,none⟩))
def J7 (S:Nat→Bool)(late:Option (Nat×List Rp))(cs:List Rp):List Rp:=match late with
 | none=>cs
 | some q=>if S q.1 then q.2 else cs
def Es (S:Nat→Bool)(β:Nat→Nat):List Sa→Nat→List Ent
 | [],_=>[]
 | s::r,t=>match s.al with
  | some p=>if S t then .blk (β t) (J7 S s.late p.1) p.2::Es S β r (t+1) else Es S β r (t+1)
  | none=>Es S β r (t+1)
def Qt (β:Nat→Nat):List Sa→Nat→List Ent
 | [],_=>[]
 | s::r,t=>match s.al with
  | some p=>.blk (β t) (match s.late with | none=>p.1 | some q=>q.2) p.2::Qt β r (t+1)
  | none=>Qt β r (t+1)
def LA (β:Nat→Nat):List Oper→List Sa→Nat→Fr→Fr
 | o::os,s::sp,i,l=>match o.dst with
  | some d=>(d,Jq β s i)::LA β os sp (i+1) l
  | none=>LA β os sp (i+1) l
 | _,_,_,l=>l
theorem Iz {S S':Nat→Bool}{late:Option (Nat×List Rp)}{cs:List Rp}(h:∀q,late=some q→S q.1=S' q.1):J7 S late cs=J7 S' late cs:=by
 unfold J7
 cases late with
 | none=>rfl
 | some q=>simp only[];rw[h q rfl]
theorem D9 (S:Nat→Bool)(β:Nat→Nat)(s:Sa)(r:List Sa)(t:Nat):Es S β (s::r) t=match s.al with
  | some p=>if S t then .blk (β t) (J7 S s.late p.1) p.2::Es S β r (t+1) else Es S β r (t+1)
  | none=>Es S β r (t+1):=rfl
theorem E8 {S S':Nat→Bool}{β β':Nat→Nat}:∀(r:List Sa) (t0:Nat),(∀(t:Nat) (s:Sa),r[t]? =some s→s.al≠none→S (t0+t)=S' (t0+t)∧(S (t0+t)=true→β (t0+t)=β' (t0+t)∧∀q,s.late=some q→S q.1=S' q.1))→Es S β r t0=Es S' β' r t0
 | [],_,_=>rfl
 | s::r,t0,h=>by
  have ih:=E8 r (t0+1) (λt s hs hn=>by
   have:=h (t+1) s (by simpa using hs) hn;rw[show t0+1+t=t0+(t+1) from by omega];exact this)
  unfold Es;rw[ih]
  cases ha:s.al with
  | none=>rfl
  | some p=>
   obtain⟨h1,h2⟩:=h 0 s rfl (by rw[ha];exact nofun);simp only[Nat.add_zero] at h1 h2;simp only[];rw[← h1]
   split
   ·rename_i hS;rw[(h2 hS).1,Iz (h2 hS).2]
   ·rfl
theorem NQ (β:Nat→Nat):∀(r:List Sa) (t0:Nat),Es (λ_=>true) β r t0=Qt β r t0
 | [],_=>rfl
 | s::r,t0=>by
  unfold Es Qt;rw[NQ β r (t0+1)]
  cases s.al with
  | none=>rfl
  | some p=>cases hl:s.late<;>simp[J7,hl]
theorem Mi (β:Nat→Nat):∀(r:List Sa) (t0:Nat),Es (λ_=>false) β r t0=[]
 | [],_=>rfl
 | s::r,t0=>by
  unfold Es;rw[Mi β r (t0+1)]
  cases s.al<;>simp
theorem NP {S:Nat→Bool}{β:Nat→Nat}{i b:Nat}{p:List Rp×TypeId}:∀(r:List Sa) (t0 k:Nat) (s:Sa),i=t0+k→r[k]? =some s→s.al=some p→S i=false→(∀(t:Nat) (s:Sa) (q:Nat×List Rp),r[t]? =some s→s.al≠none→s.late=some q→q.1≠i)→(∀q,s.late=some q→S q.1=false∧q.1≠i)→
  (Es (λj=>j ==i||S j) (λj=>if j=i then b else β j) r t0).Perm (.blk b p.1 p.2::Es S β r t0)
 | [],_,_,_,_,h,_,_,_,_=>by simp at h
 | s'::r,t0,0,s,hi,h,ha,hS,hne,hl=>by
  simp at h hi;subst h;subst hi;have e:=E8 (S:=λj=>j ==i||S j) (S':=S) (β:=λj=>if j=i then b else β j) (β':=β) r (i+1) (λt s hs hn=>by
   have:i+1+t≠i:=by omega
   refine⟨by simp[this],λ_=>⟨by simp[this],λq hq=>?_⟩⟩;have:=hne (t+1) s q (by simpa using hs) hn hq;simp[this])
  have ec:J7 (λj=>j ==i||S j) s'.late p.1=p.1:=by
   unfold J7
   cases hq:s'.late with
   | none=>rfl
   | some q=>
    obtain⟨h1,h2⟩:=hl q hq;simp[h1,h2]
  unfold Es;rw[e,ha];simp only[hS,BEq.rfl,Wj,if_true,ec];simp
 | s'::r,t0,k+1,s,hi,h,ha,hS,hne,hl=>by
  have ih:=NP (S:=S) (β:=β) (i:=i) (b:=b) (p:=p) r (t0+1) k s (by omega) (by simpa using h) ha hS (λt s q hs=>hne (t+1) s q (by simpa using hs)) hl;have hne0:t0≠i:=by omega
  have hne':(t0 ==i)=false:=by simpa using hne0
  unfold Es
  cases ha':s'.al with
  | none=>exact ih
  | some q=>
   simp only[hne',VY,W1 hne0];rw[Iz (S:=λj=>j ==i||S j) (S':=S) (λq hq=>by
    have:=hne 0 s' q rfl (by rw[ha'];exact nofun) hq;simp[this])]
   cases hS':S t0 with
   | true=>simpa using(VG _ ih).trans (List.Perm.swap _ _ _)
   | false=>simpa using ih
theorem NO {S:Nat→Bool}{β:Nat→Nat}{i j:Nat}{p:List Rp×TypeId}{ncs:List Rp}:∀(r:List Sa) (t0 k:Nat) (s:Sa),j=t0+k→r[k]? =some s→s.al=some p→s.late=some (i,ncs)→S j=true→S i=false→(∀(t:Nat) (s:Sa) (q:Nat×List Rp),r[t]? =some s→s.al≠none→s.late=some q→t0+t≠j→q.1≠i)→(∀(t:Nat) (s:Sa),r[t]? =some s→s.al≠none→t0+t≠i)→
  ∃H',(Es S β r t0).Perm (.blk (β j) p.1 p.2::H')∧(Es (λj=>j ==i||S j) β r t0).Perm (.blk (β j) ncs p.2::H')
 | [],_,_,_,_,h,_,_,_,_,_,_=>by simp at h
 | s'::r,t0,0,s,hj,h,ha,hl,hSj,hSi,hne,hni=>by
  simp at h hj;subst h;subst hj;have e:=E8 (S:=λx=>x ==i||S x) (S':=S) (β:=β) (β':=β) r (j+1) (λt s hs hn=>by
   have h1:=hni (t+1) s (by simpa using hs) hn;have h1':j+1+t≠i:=by omega
   refine⟨by simp[h1'],λ_=>⟨rfl,λq hq=>?_⟩⟩;have:=hne (t+1) s q (by simpa using hs) hn hq (by omega);simp[this])
  refine⟨Es S β r (j+1),?_,?_⟩
  ·rw[D9];rw[ha];simp[hSj,J7,hl,hSi]
  ·rw[D9];rw[ha,e];simp[hSj,J7,hl]
 | s'::r,t0,k+1,s,hj,h,ha,hl,hSj,hSi,hne,hni=>by
  obtain⟨H',h1,h2⟩:=NO (S:=S) (β:=β) (i:=i) (j:=j) (p:=p) (ncs:=ncs) r (t0+1) k s (by omega) (by simpa using h) ha hl hSj hSi (λt s q hs hn hq hx=>hne (t+1) s q (by simpa using hs) hn hq (by omega)) (λt s hs hn=>by
   have:=hni (t+1) s (by simpa using hs) hn;omega)
  cases ha':s'.al with
  | none=>exact⟨H',by rw[D9,ha'];exact h1,by rw[D9,ha'];exact h2⟩
  | some q=>
   have hi0:=hni 0 s' rfl (by rw[ha'];exact nofun);have hi0':(t0 ==i)=false:=by simpa using hi0
   have ec:J7 (λx=>x ==i||S x) s'.late q.1=J7 S s'.late q.1:=Iz (λq hq=>by
    have:=hne 0 s' q rfl (by rw[ha'];exact nofun) hq (by omega);simp[this])
   cases hS':S t0 with
   | true=>
    refine⟨.blk (β t0) (J7 S s'.late q.1) q.2::H',?_,?_⟩
    ·rw[D9];rw[ha'];simpa[hS'] using(VG _ h1).trans (List.Perm.swap _ _ _)
    ·rw[D9];rw[ha'];simp only[hi0',VY,hS',if_true,ec];exact(VG _ h2).trans (List.Perm.swap _ _ _)
   | false=>
    refine⟨H',?_,?_⟩
    ·rw[D9];rw[ha'];simpa[hS'] using h1
    ·rw[D9];rw[ha'];simp only[hi0',VY,hS'];simpa using h2
def Vy (n:Nat)(ops:List Oper)(N:Nat)(keys:List Nat)(deps:List (List Nat))(als:List Bool)(lates stos:List (Option Nat)):Bool:=
 O9 ops N&&decide (N≤ops.length)&&
 (List.range N).all (λi=>match Dk ops i with
  | some d=>decide (d<n)&&!keys.contains d&&(List.range N).all (λj=>j ==i||Dk ops j !=some d)
  | none=>true)&&
 (List.range N).all (λi=>(deps.getD i []).all (λj=>decide (j<N)&&(DU (ops.getD i default)).contains j&&!als.getD j true))&&
 (List.range N).all (λi=>match stos.getD i none with
  | some j=>decide (j<N)&&(DU (ops.getD i default)).contains j&&als.getD j false&&!als.getD i true
  | none=>true)&&
 (List.range N).all (λj=>match lates.getD j none with
  | some k=>decide (k<N)&&als.getD j false&&stos.getD k none ==some j
  | none=>true)
def V6 (P:Program)(n:Nat)(c:Cx)(opsA:Array Oper)(Q:Exit→Act→World→Prop)(o:Oper)(p:List Rp×TypeId):Prop:=
 ∀H a w Z (K:Act→World→Prop),St c H Z w→(∀b w',St c (.blk b p.1 p.2::H) Z w'→K (a.put o.dst (.pointer (some ⟨b,0,none⟩))) w')→
  Region.wanted o (yielded opsA a.tmps)=true∧o.wp P a w K Q
def UI (P:Program)(n:Nat)(c:Cx)(opsA:Array Oper)(Q:Exit→Act→World→Prop)(ops:List Oper)(sp:List Sa)(l0:Fr)(H:List Ent)(i:Nat)(o:Oper):Prop:=
 match (Eu sp i).sto with
 | some j=>o.dst=none∧∃d p ncs,Dk ops j=some d∧(Eu sp j).al=some p∧(Eu sp j).late=some (i,ncs)∧
   ∀b H,DH P n c opsA Q ((d,rv (.pointer (some ⟨b,0,none⟩)))::BP ops (SB sp) (Eu sp i).deps l0) (.blk b p.1 p.2::H) o (rv undef) (.blk b ncs p.2::H)
 | none=>match (Eu sp i).al with
  | none=>∀E,DH P n c opsA Q (BP ops (SB sp) (Eu sp i).deps l0) (H++E) o (Eu sp i).r (H++E)
  | some p=>V6 P n c opsA Q o p
def JD (P:Program)(n:Nat)(c:Cx)(opsA:Array Oper)(Q:Exit→Act→World→Prop)(ops:List Oper)(sp:List Sa)(l0:Fr)(H:List Ent):Nat→List Oper→Prop
 | i,o::rest=>UI P n c opsA Q ops sp l0 H i o∧JD P n c opsA Q ops sp l0 H (i+1) rest
 | _,[]=>True
section
variable {P : Program} {n : Nat} {c : Cx} {opsA : Array Oper} {Q : Exit → Act → World → Prop} {l l0 : Fr} {H : List Ent} {sp : List Sa}
theorem JD.at {ops:List Oper}:∀{k:Nat} {rest:List Oper},JD P n c opsA Q ops sp l0 H k rest→∀(t:Nat) o,rest[t]? =some o→UI P n c opsA Q ops sp l0 H (k+t) o
 | k,o::rest,⟨h1,h2⟩,t,o',ht=>by
  cases t with
  | zero=>simp at ht;subst ht;exact h1
  | succ t=>
   have:=JD.at h2 t o' (by simpa using ht);rw[show k+(t+1)=k+1+t from by omega];exact this
 | _,[],_,t,o,h=>by simp at h
theorem Pz {β:Nat→Nat}{a:Act}{Z:Fz}(h0:CB n l0 a Z):∀(os:List Oper) (ss:List Sa) (k:Nat),(∀(t:Nat) o s d,os[t]? =some o→ss[t]? =some s→o.dst=some d→∃v,a.tmps[d]? =some v∧(Jq β s (k+t)).p Z v)→CB n (LA β os ss k l0) a Z
 | [],_,_,_=>by unfold LA;exact h0
 | _::_,[],_,_=>by unfold LA;exact h0
 | o::os,s::ss,k,h=>by
  have ih:=Pz h0 os ss (k+1) (λt o' s' d h1 h2 h3=>by
   have:=h (t+1) o' s' d (by simpa using h1) (by simpa using h2) h3;rw[show k+1+t=k+(t+1) from by omega];exact this)
  unfold LA
  cases hd:o.dst with
  | none=>exact ih
  | some d=>
   refine⟨ih.size,ih.defers,λi r hi=>?_⟩;rw[Ck] at hi
   split at hi
   ·rename_i e;subst e;simp at hi;subst hi;exact h 0 o s d rfl rfl hd
   ·exact ih.tm i r hi
theorem TN {id:Nat}{ops:List Oper}(N:Nat)(sp:List Sa)(hm:P.follows .mixedOrders=true)(hB:Vy n ops N (E6 l0) (sp.map (·.deps)) (sp.map (·.al.isSome)) (sp.map (·.late.map (·.1))) (sp.map (·.sto))=true)(hl0:T8 l0 l)(hsp:sp.length=N)
  (hob:JD P n c ops.toArray Q ops sp l0 H 0 (ops.take N)) (h:∀β,WL P n c ops.toArray Q (ops.drop N) (LA β (ops.take N) sp 0 l0) (H++Qt β sp 0)):WC P n c (.region id ops.toArray true) Q l H:=by
 intro a w Z ha hw;simp only[Vy,VJ,Wn,List.mem_range,VH] at hB;obtain⟨⟨⟨⟨⟨b1,bN⟩,b2⟩,b3⟩,b4⟩,b5⟩:=hB;have hget:∀i,i<N→(ops.take N)[i]? =ops[i]?:=λi hi=>by rw[Wp,if_pos hi]
 have hsa:∀i,i<N→sp[i]? =some (Eu sp i):=λi hi=>by
  simp[Eu,VQ,VP (show i<sp.length by omega)]
 have hspq:∀i,i<N→(CY (SB sp) i)=⟨(Eu sp i).deps,(Eu sp i).r,0⟩:=λi hi=>by
  simp[CY,SB,VQ,Wt,hsa i hi]
 have hals:∀j b,j<N→(sp.map (·.al.isSome)).getD j b=(Eu sp j).al.isSome:=λj b hj=>by simp[VQ,Wt,hsa j hj]
 have hstos:∀j,j<N→(sp.map (·.sto)).getD j none=(Eu sp j).sto:=λj hj=>by simp[VQ,Wt,hsa j hj]
 have hlates:∀j,j<N→(sp.map (·.late.map (·.1))).getD j none=(Eu sp j).late.map (·.1):=λj hj=>by simp[VQ,Wt,hsa j hj]
 have S1:∀i o j,i<N→ops[i]? =some o→(Eu sp i).sto=some j→j<N∧j∈DU o∧(Eu sp j).al≠none∧(Eu sp i).al=none:=λi o j hi ho hs=>by
  have h1:=b4 i hi;rw[hstos i hi,hs] at h1;simp only[VJ,VV,VH] at h1;obtain⟨⟨⟨h2,h3⟩,h4⟩,h5⟩:=h1;rw[hals j _ h2] at h4;rw[hals i _ hi] at h5;rw[VQ,ho,Wh,List.contains_iff_mem] at h3;exact⟨h2,h3,λe=>(by rw[e] at h4;cases h4),(by simpa using h5)⟩
 have L1:∀t q,t<N→(Eu sp t).late=some q→q.1<N∧(Eu sp q.1).sto=some t:=λt q ht hq=>by
  have h1:=b5 t ht;rw[hlates t ht,hq] at h1;simp only[Option.map_some,VJ,VH,beq_iff_eq] at h1;obtain⟨⟨h2,h3⟩,h4⟩:=h1;rw[hstos _ h2] at h4;exact⟨h2,h4⟩
 have hops:∀j,j<N→∃o,ops[j]? =some o:=λj hj=>⟨ops[j]'(by omega),VP (by omega)⟩
 have lt_of:∀(t:Nat) (s:Sa),sp[t]? =some s→t<N∧s=Eu sp t:=λt s hs=>by
  have h1:t<N:=by have:=(List.getElem?_eq_some_iff.1 hs).1;omega
  refine⟨h1,?_⟩;rw[hsa t h1] at hs;simpa using hs.symm
 have hdst:∀i o d,i<N→ops[i]? =some o→o.dst=some d→(d<n∧d ∉ E6 l0)∧∀j,j<N→j≠i→Dk ops j≠some d:=λi o d hi ho hd=>by
  have h3:=b2 i hi;have:Dk ops i=some d:=by simp[Dk,ho,hd]
  rw[this] at h3;simp only[VJ,VV,Wn,List.mem_range,VH] at h3;refine⟨⟨h3.1.1,λhmem=>by rw[← List.contains_iff_mem] at hmem;rw[hmem] at h3;cases h3.1.2⟩,λj hj hne he=>?_⟩;have:=h3.2 j hj;simp[hne,he] at this
 refine TM (N:=N) hm b1 bN (λS a w=>∃ (β:Nat→Nat) (Z:Fz),St c (H++Es S β sp 0) Z w∧CB n l0 a Z∧(∀j o d,j<N→S j=true→ops[j]? =some o→o.dst=some d→∃v,a.tmps[d]? =some v∧(Jq β (Eu sp j) j).p Z v)∧
   ∀k j,k<N→(Eu sp k).sto=some j→S k=true→S j=true)
  (λS S' a w hS hI=>?_) ⟨λ_=>0,Z,?_,ha.subL hl0,λj o d _ hS=>(by cases hS),λk j _ _ hS=>(by cases hS)⟩ (λS i o a w hi hun ho hb hI K hK=>?_) (λa w hI=>?_)
 ·obtain⟨β,Z,h1,h2,h3,h4⟩:=hI;refine⟨β,Z,?_,h2,λj o d hj hS'=>h3 j o d hj (by rw[hS j hj];exact hS'),λk j hk hs hSk=>?_⟩
  ·rw[← E8 (S:=S) (β:=β) (β':=β) sp 0 (λt s hs _=>by
    obtain⟨ht,rfl⟩:=lt_of t s hs;exact⟨hS _ (by omega),λ_=>⟨rfl,λq hq=>hS _ (L1 t q ht hq).1⟩⟩)]
   exact h1
  ·obtain⟨o,ho⟩:=hops k hk;rw[← hS j (S1 k o j hk ho hs).1];exact h4 k j hk hs (by rw[hS k hk];exact hSk)
 ·rw[Mi,Wz];exact hw.drawn _
 ·obtain⟨β,Z,h1,h2,h3,hx⟩:=hI;have hput:∀k u v,a.tmps[k]? =some u→o.dst≠some k→(a.put o.dst v).tmps[k]? =some u:=λk u v hk hne=>by
   cases hd:o.dst with
   | none=>simpa[Act.put] using hk
   | some d=>
    simp only[Act.put,Array.getElem?_setIfInBounds];rw[W1 (λe=>hne (by rw[hd,e]))];exact hk
  have hagr:∀v Z',Fz.le Z Z'→CB n l0 (a.put o.dst v) Z':=λv Z' hz=>by
   refine⟨?_,?_,λk r hk=>?_⟩
   ·cases o.dst<;>simp[Act.put,h2.size]
   ·cases o.dst<;>simp[Act.put,h2.defers]
   ·obtain⟨u,hu,hpu⟩:=h2.tm k r hk;exact⟨u,hput k u v hu (λe=>((hdst i o k hi ho e).1).2 (Lj hk)),r.mono hz hpu⟩
  have hvals:∀(v:Value) (Z':Fz) (β':Nat→Nat),Fz.le Z Z'→(∀j,j≠i→β' j=β j)→(o.dst≠none→(Jq β' (Eu sp i) i).p Z' v)→∀j o' d,j<N→(j ==i||S j)=true→ops[j]? =some o'→o'.dst=some d→∃u,(a.put o.dst v).tmps[d]? =some u∧(Jq β' (Eu sp j) j).p Z' u:=by
   intro v Z' β' hz hβ hp j o' d hj hS' ho' hd
   by_cases hji:j=i
   ·subst hji;rw[ho] at ho';simp at ho';subst ho';refine⟨v,?_,hp (by simp[hd])⟩;have hdn:d<a.tmps.size:=by rw[h2.size];exact(hdst j o d hi ho hd).1.1
    simp[Act.put,hd,hdn]
   ·have hSj:S j=true:=by simpa[hji] using hS'
    obtain⟨u,hu,hpu⟩:=h3 j o' d hj hSj ho' hd;refine⟨u,hput d u v hu (λe=>(hdst i o d hi ho e).2 j hj hji (by simp[Dk,ho',hd])),?_⟩;have:Jq β' (Eu sp j) j=Jq β (Eu sp j) j:=by unfold Jq;rw[hβ j hji]
    rw[this];exact(Jq β (Eu sp j) j).mono hz hpu
  have hx':∀k j,k<N→(Eu sp k).sto=some j→(k ==i||S k)=true→(j ==i||S j)=true:=λk j hk hs hSk=>by
   by_cases hki:k=i
   ·subst hki;have:=(hb j (S1 k o j hk ho hs).2.1).2;simp[this]
   ·have:S j=true:=hx k j hk hs (by simpa[hki] using hSk);simp[this]
  have hat:=hob.at i o (by rw[hget i hi];exact ho);rw[Wo] at hat;unfold UI at hat;have hag':CB n (BP ops (SB sp) (Eu sp i).deps l0) a Z:=K8 h2 (λj hj d hd=>by
    have h4:=b3 i hi j (by simpa[VQ,Wt,hsa i hi] using hj);simp only[VJ,VV,VH] at h4;obtain⟨⟨h5,h6⟩,h7⟩:=h4;rw[VQ,ho,Wh,List.contains_iff_mem] at h6;have hjal:(Eu sp j).al=none:=by
     rw[hals j _ h5] at h7;simpa using h7
    obtain⟨o2,ho2⟩:=hops j h5;obtain⟨v,hv1,hv2⟩:=h3 j o2 d h5 (hb j h6).2 ho2 (by simpa[Dk,ho2] using hd);refine⟨v,hv1,?_⟩;rw[hspq j h5];simpa[Jq,hjal] using hv2)
  cases hst:(Eu sp i).sto with
  | some j=>
   rw[hst] at hat;obtain⟨hod,d,p,ncs,hd,hal,hlate,hok⟩:=hat;obtain⟨hjN,hjb,_,hial⟩:=S1 i o j hi ho hst;have hSj:=(hb j hjb).2;obtain⟨H',p1,p2⟩:=NO (S:=S) (β:=β) (i:=i) (j:=j) (p:=p) (ncs:=ncs) sp 0 j (Eu sp j) (by omega) (hsa j hjN) hal hlate hSj hun (λt s q hs _ hq hne he=>by
     obtain⟨ht,rfl⟩:=lt_of t s hs;have:=(L1 t q ht hq).2;rw[he,hst] at this;simp at this;omega) (λt s hs hn he=>by
     obtain⟨ht,rfl⟩:=lt_of t s hs;rw[Wo] at he;subst he;exact hn hial)
   obtain⟨o2,ho2⟩:=hops j hjN;obtain⟨v,hv1,hv2⟩:=h3 j o2 d hjN hSj ho2 (by simpa[Dk,ho2] using hd);have hag2:CB n ((d,rv (.pointer (some ⟨β j,0,none⟩)))::BP ops (SB sp) (Eu sp i).deps l0) a Z:=⟨hag'.size,hag'.defers,λk r hk=>by
    rw[Ck] at hk
    split at hk
    ·rename_i e;subst e;simp at hk;subst hk
     exact⟨v,hv1,by simpa[Jq,hal] using hv2⟩
    ·exact hag'.tm k r hk⟩
   refine hok (β j) (H++H') a w Z K hag2 (h1.perm ((List.Perm.append_left H p1).trans List.perm_middle)) (λv w' Z' hz _ hs'=>hK _ _ ⟨β,Z',?_,hagr v Z' hz,hvals v Z' β hz (λ_ _=>rfl) (λhne=>absurd hod hne),hx'⟩);exact hs'.perm (List.perm_middle.symm.trans (List.Perm.append_left H p2.symm))
  | none=>
   rw[hst] at hat;have latene:∀t q,t<N→(Eu sp t).late=some q→q.1≠i:=λt q ht hq he=>by
    have:=(L1 t q ht hq).2;rw[he,hst] at this;cases this
   cases hal:(Eu sp i).al with
   | none=>
    rw[hal] at hat;refine hat _ a w Z K hag' h1 (λv w' Z' hz hp hst'=>hK _ _ ⟨β,Z',?_,hagr v Z' hz,hvals v Z' β hz (λ_ _=>rfl) (λ_=>by unfold Jq;rw[hal];exact hp),hx'⟩);rw[E8 (S':=S) (β':=β) sp 0 (λt s hs hn=>by
     obtain⟨ht,rfl⟩:=lt_of t s hs;have:t≠i:=λe=>by subst e;exact hn hal
     refine⟨by simp[this],λ_=>⟨rfl,λq hq=>?_⟩⟩;have:=latene t q ht hq;simp[this])]
    exact hst'
   | some p=>
    rw[hal] at hat;have key:=λK' hK'=>hat (H++Es S β sp 0) a w Z K' h1 hK';have h5:∀b w',St c (.blk b p.1 p.2::(H++Es S β sp 0)) Z w'→K (a.put o.dst (.pointer (some ⟨b,0,none⟩))) w':=λb w' hst'=>by
     refine hK _ _ ⟨λj=>if j=i then b else β j,Z,?_,hagr _ Z (Fz.le.refl _),hvals _ Z _ (Fz.le.refl _) (λj hj=>by simp[hj]) (λ_=>by simp[Jq,hal,rv]),hx'⟩;have hp:=NP (S:=S) (β:=β) (i:=i) (b:=b) (p:=p) sp 0 i (Eu sp i) (by omega) (hsa i hi) hal hun (λt s q hs _ hq=>by
      obtain⟨ht,rfl⟩:=lt_of t s hs;exact latene t q ht hq) (λq hq=>by
       refine⟨?_,latene i q hi hq⟩
       cases hS:S q.1 with
       | false=>rfl
       | true=>
        obtain⟨h6,h7⟩:=L1 i q hi hq;have:=hx q.1 i h6 h7 hS;rw[this] at hun;cases hun)
     exact hst'.perm ((List.perm_middle.symm).trans (List.Perm.append_left H hp.symm))
    refine⟨λ_=>(key K h5).2,λhw'=>?_⟩;rw[(key K h5).1] at hw';cases hw'
 ·obtain⟨β,Z,h1,h2,h3,_⟩:=hI;refine h β a w Z (Pz h2 _ _ 0 (λt o s d ht hs hd=>?_)) (by rw[← NQ];exact h1);obtain⟨htN,rfl⟩:=lt_of t s hs;rw[Wo];exact h3 t o d htN rfl (by rw[← hget t htN];exact ht) hd
end
section
variable {P : Program} {n : Nat} {c : Cx} {opsA : Array Oper} {Q : Exit → Act → World → Prop} {l l0 : Fr} {H : List Ent} {sp : List Sa}
theorem Kk {id:Nat}{ops:List Oper}(N:Nat)(ks0:List Nat)(sp:List Sa)(hob:JD P n c ops.toArray Q ops sp l0 H 0 (ops.take N))(h:∀β,WL P n c ops.toArray Q (ops.drop N) (LA β (ops.take N) sp 0 l0) (H++Qt β sp 0))
  (h0:Kp ks0 l l0:=by repeat (first | exact N7 | (apply Lm;rfl) | (apply LK;rfl))) (hm:P.follows .mixedOrders=true:=by kernel_rfl) (hB:Vy n ops N (E6 l0) (sp.map (·.deps)) (sp.map (·.al.isSome)) (sp.map (·.late.map (·.1))) (sp.map (·.sto))=true:=by kernel_rfl)
  (hsp:sp.length=N:=by rfl):WC P n c (.region id ops.toArray true) Q l H:=TN N sp hm hB h0.one hsp hob h
theorem Ma {all rest:List Oper}{d:Nat}{op:Op}{ty:TypeId}{pos:String}{af:Array Edge}{i:Nat}
  (hr:∀{H},Bn P n c (BP all (SB sp) (Eu sp i).deps l0) H { dst:=some d,op:=op,type:=ty,pos:=pos,after:=af,guard:=none } (Eu sp i).r) (h:JD P n c opsA Q all sp l0 H (i+1) rest) (ha:(Eu sp i).al=none:=by rfl) (hs:(Eu sp i).sto=none:=by rfl) :
  JD P n c opsA Q all sp l0 H i ({ dst:=some d,op:=op,type:=ty,pos:=pos,after:=af,guard:=none }::rest):=by
 refine⟨?_,h⟩;unfold UI;rw[hs,ha];exact λ_=>SM hr
theorem Vo {all rest:List Oper}{d:Nat}{op:Op}{ty:TypeId}{pos:String}{af:Array Edge}{i:Nat}
  (hr:∀{E},Bn P n c (BP all (SB sp) (Eu sp i).deps l0) (H++E) { dst:=some d,op:=op,type:=ty,pos:=pos,after:=af,guard:=none } (Eu sp i).r) (h:JD P n c opsA Q all sp l0 H (i+1) rest) (ha:(Eu sp i).al=none:=by rfl) (hs:(Eu sp i).sto=none:=by rfl) :
  JD P n c opsA Q all sp l0 H i ({ dst:=some d,op:=op,type:=ty,pos:=pos,after:=af,guard:=none }::rest):=by
 refine⟨?_,h⟩;unfold UI;rw[hs,ha];exact λ_=>SM hr
theorem Vp {all:List Oper}{i:Nat}:JD P n c opsA Q all sp l0 H i []:=trivial
end
structure Su (ks:List Nat) (β:Nat→Nat) (os:List Oper) (sp:List Sa) (i:Nat) (l0 l1:Fr):Prop where
 go:Kp ks (LA β os sp i l0) l1
section
variable {ks : List Nat} {β : Nat → Nat} {os : List Oper} {sp : List Sa} {i d : Nat} {l0 l1 : Fr} {ds : List Nat} {r : Rp} {p : List Rp × TypeId} {lt : Option (Nat × List Rp)} {so : Option Nat} {op : Op} {ty : TypeId} {pos : String} {af : Array Edge} {g : Option (Nat × Bool)}
theorem UX (h:ks.contains d=true)(t:Su ks β os sp (i+1) l0 l1):Su ks β ({ dst:=some d,op:=op,type:=ty,pos:=pos,after:=af,guard:=g }::os) ({ deps:=ds,r:=r,sto:=so }::sp) i l0 ((d,r)::l1):=⟨Lm h t.go⟩
theorem Va (h:ks.contains d=true)(t:Su ks β os sp (i+1) l0 l1):Su ks β ({ dst:=some d,op:=op,type:=ty,pos:=pos,after:=af,guard:=g }::os) ({ deps:=ds,r:=r,al:=some p,late:=lt,sto:=so }::sp) i l0 ((d,rv (.pointer (some ⟨β i,0,none⟩)))::l1):=⟨Lm h t.go⟩
theorem UZ {s:Sa}(h:ks.contains d=false)(t:Su ks β os sp (i+1) l0 l1):Su ks β ({ dst:=some d,op:=op,type:=ty,pos:=pos,after:=af,guard:=g }::os) (s::sp) i l0 l1:=⟨LK h t.go⟩
theorem UY {s:Sa}(t:Su ks β os sp (i+1) l0 l1):Su ks β ({ dst:=none,op:=op,type:=ty,pos:=pos,after:=af,guard:=g }::os) (s::sp) i l0 l1:=⟨t.go⟩
theorem Vb (t:Kp ks l0 l1):Su ks β [] [] i l0 l1:=⟨t⟩
theorem Mq {P:Program}{n:Nat}{c:Cx}{opsA:Array Oper}{Q:Exit→Act→World→Prop}{rest:List Oper}{H H1:List Ent}(ks:List Nat)(h:WL P n c opsA Q rest l1 H1)
  (hz:Su ks β os sp i l0 l1:=by repeat (first | (apply UX;rfl) | (apply Va;rfl) | (apply UZ;rfl) | apply UY | apply Vb | exact N7 | (apply Lm;rfl) | (apply LK;rfl))) (hH:H=H1:=by rfl) :
  WL P n c opsA Q rest (LA β os sp i l0) H:=λa w Z ha hw=>h a w Z (ha.subL hz.go.one) (hH▸hw)
end
section
variable {P : Program} {n : Nat} {c : Cx} {opsA : Array Oper} {Q : Exit → Act → World → Prop} {l l0 : Fr} {H : List Ent} {sp : List Sa}
theorem Vq {all rest:List Oper}{o:Oper}{i:Nat}(hr:∀{E},DH P n c opsA Q (BP all (SB sp) (Eu sp i).deps l0) (H++E) o (Eu sp i).r (H++E))(h:JD P n c opsA Q all sp l0 H (i+1) rest)(ha:(Eu sp i).al=none:=by rfl)(hs:(Eu sp i).sto=none:=by rfl):JD P n c opsA Q all sp l0 H i (o::rest):=by
 refine⟨?_,h⟩;unfold UI;rw[hs,ha];exact λ_=>hr
end
def V8 (p:Bool→Prop):Rp:=⟨λ_ v=>∃b,v = .bool b∧p b,λ_ h=>h,true,λ_ Z v ⟨b,e,_⟩=>by rw[e];rfl⟩
section
variable {P : Program} {n : Nat} {c : Cx} {ops : Array Oper} {Q : Exit → Act → World → Prop} {rest : List Oper} {l : Fr} {H : List Ent} {d : Option Nat} {ty rty t e : TypeId} {pos : String} {af : Array Edge} {g : Option (Nat × Bool)} {r : Rp} {x : Operand} {cx cy : Code} {sz : Nat} {xs : List (List Rp)}
theorem QN {o:Operand}{p:Bool→Prop}(ho:ev l o=some (V8 p))(h1:p true→WC P n c cx Q l H)(h2:p false→WC P n c cy Q l H):WC P n c (.cond o cx cy) Q l H:=λa w Z ha hw=>by
 obtain⟨b,e,hp⟩:=ha.ev ho;exact wp_cond_split e (λe=>h1 (e▸hp) a w Z ha hw) (λe=>h2 (e▸hp) a w Z ha hw)
theorem PW (ht:P.underlying t=some (.slice e))(h:ev l x=some (AE sz xs)):Bn P n c l H { dst:=d,op:=.binOp .eql t x (.const (.slice none 0 0)) rty,type:=ty,pos:=pos,after:=af,guard:=g } (V8 (λb=>b=true→xs=[])):=λa w Z ha hw=>by
 obtain⟨A,cap,e1,h1,h2,h3,h4⟩:=ha.ev h;refine⟨.bool A.isNone,⟨_,rfl,λhb=>?_⟩,?_⟩
 ·cases A with
  | some a=>cases hb
  | none=>
   have:=h3 rfl;exact List.length_eq_zero_iff.1 (by omega)
 ·have:=run_equal_slice_nil (P:=P) w t e A xs.length cap ht;have e2:a.eval (.const (.slice none 0 0)) = .slice none 0 0:=rfl;simp[execOp,e1,e2,binOp,this,eqGuard]
end
set_option maxRecDepth 100000
set_option maxHeartbeats 4000000
theorem O2:∃inf,Tryz.prog.info? 28=some inf∧inf.zero=some (.slice none 0 0)∧inf.size=1∧inf.bytes=24:=by
  have key:(Tryz.prog.info? 28).map (λi=>(i.zero,i.size,i.bytes))=some (some (.slice none 0 0),1,24):=by kernel_rfl
  obtain⟨inf,h1,h2⟩:=Option.map_eq_some_iff.1 key;simp only[Prod.mk.injEq] at h2;exact⟨inf,h1,h2.1,h2.2.1,h2.2.2⟩
theorem L3 (ys:(List Aa))(r:(List Aa))(h:I0 ys=some r):Fn Tryz.prog GE 92 [AE 4 (A3 Ab ys)] [] (λR H=>R=AE 4 (A3 Ab r)∧H=[]):=by
 refine enter (n:=8) Tryz.func92 rfl Tryz.ntmps92 rfl (λw Z=>?_);unfold I0 at h;refine Ah (wa rfl (Al (Ao (Ah (wm rfl (wv (PW B0 rfl) (Al (QN rfl (λc1=>?_) (λc1=>?_)))))))))
 ·have e2:ys=[]:=List.map_eq_nil_iff.1 (c1 rfl);have h3:some ([]:List Aa)=some r:=by rw[e2] at h;exact(RR h).2
  refine Ah (wa rfl (Al (Aq (Ac (WK.up (d:=2) (r:=AE 4 (A3 Ab ([]:List Aa))) rfl (Up.le (DB.nil _)) ?_)))));obtain rfl:=Am h3;exact Ap (By Tryz.results92 (A9 rfl)) sN ⟨rfl,rfl⟩
 ·refine Av (AH (Ah (AO (ys:=([]:List Aa)) (enc:=Ab) (css:=[]) (xs:=[]) B0 BI Ic rfl rfl rfl trivial rfl AY rfl rfl rfl (λb4=>?_))));refine wm rfl (ck h λg6 h7=>Exists.elim Ga λinf hinf=>Cf (xs:=([]:List Aa)) (ys:=ys) (enc:=Ab) (i:=0) B0 hinf.1 hinf.2.1 hinf.2.2.1 hinf.2.2.2 rfl rfl rfl rfl rfl (Ki.z rfl rfl) AY Ce g6 rfl (λv5=>?_));refine wa rfl (Al (Aq (WK.freeze (i:=0) rfl (WK.up (d:=2) (r:=AE 4 (A3 Ab (([]:List Aa)++ys))) rfl (Up.fact (i:=0) rfl) ?_))));obtain rfl:=Am h7;exact Ap (By Tryz.results92 (A9 rfl)) (sS sN) ⟨rfl,rfl⟩
theorem LS (ha:Nat)(hb:Value)(key:Ar)(x:(List Aa))(out:(List (List Aa)))(r:Bool×(List (List Aa)))(h:Kn key x out=some r):Fn Tryz.prog GE 91 [rS key,AE 4 (A3 Ab x),rP ha 0] [.blk ha [rv hb] 24,.row hb 28 1 (A3 Ae out)] (λR H=>∃w2_0:Value,R=rB r.1∧H=[.blk ha [rv w2_0] 24,.row w2_0 28 1 (A3 Ae r.2)]):=by
 refine enter (n:=11) Tryz.func91 rfl Tryz.ntmps91 rfl (λw Z=>?_);unfold Kn at h;refine Ah (wa rfl (Al (Ao (ob h λr1 e3 h2=>Kk 4 [1,2] [⟨[],rv hb,none,none,none⟩,⟨[],AE 4 (A3 Ab x),none,none,none⟩,⟨[1],AE 4 (A3 Ab r1),none,none,none⟩,⟨[2],AE 1 (A3 Ae ([r1]:List (List Aa))),none,none,none⟩] ?_ (λβ=>?_)))))
 ·refine Vo (Bb (i:=0) CS rfl rfl rfl) (Ma (A4 rfl) (Vq (Ec Tryz.call92 (L3 x r1 e3) rfl) (Vq (EY (ys:=([r1]:List (List Aa))) (enc:=Ae) (css:=[[AE 4 (A3 Ab r1)]]) (xs:=[.tmp 8]) BM BY Mo rfl rfl rfl ⟨DX.one rfl (Up.refl _),trivial⟩ rfl B5 rfl rfl) ?_)));exact Vp
 refine Mq (H1:=[.blk ha [rv hb] 24,.row hb 28 1 (A3 Ae out)]) [6,7,8,9,1,2] ?_;refine ck h2 λg5 h6=>Exists.elim O2 λinf hinf=>Cf (xs:=out) (ys:=([r1]:List (List Aa))) (enc:=Ae) (i:=1) BM hinf.1 hinf.2.1 hinf.2.2.1 hinf.2.2.2 rfl rfl rfl rfl rfl (Ki.z rfl rfl) B5 Ej g5 rfl (λv4=>?_);refine Bu (i:=1) CG rfl rfl (C5 (i:=0) rfl) rfl rfl (cs':=[rv v4]) rfl (H':=[.row v4 28 1 (A3 Ae (out++([r1]:List (List Aa)))),.blk ha [rv v4] 24]) rfl (AX (wa rfl (Al (Aq (Cl (H2:=[.blk ha [rv v4] 24,.row v4 28 1 (A3 Ae (out++([r1]:List (List Aa))))]) ((Az (i:=1) rfl).trans (VG _ (VF _))) ?_)))));obtain rfl:=Am h6;exact Ap (By Tryz.results91 (A9 rfl)) (sC (sC sN)) ⟨v4,rfl,rfl⟩
theorem PD (F:Nat)(hb:Nat)(hm:Value)(v:(List Aa))(out:(List (List Aa)))(r:(List (List Aa)))(h:Mv F v out=some r):Fn Tryz.prog GE 90 [AE 4 (A3 Ab v),rv (.func (.func 91) #[] #[(.pointer (some ⟨hb,0,none⟩))])] [.blk hb [rv hm] 24,.row hm 28 1 (A3 Ae out)] (λR H=>∃w1_0_0:Value,R=rv (.tuple #[])∧H=[.blk hb [rv w1_0_0] 24,.row w1_0_0 28 1 (A3 Ae r)]):=by
 refine enter (n:=52) Tryz.func90 rfl Tryz.ntmps90 rfl (λw Z=>?_);unfold Mv at h;refine Ah (wa rfl (AX (wm rfl (ck h λg1 h2=>wv (AU (enc:=Ab) (ys:=v) B0 BI rfl rfl g1) (wv (AQ B9 rfl BH rfl rfl) (wv (AJ Cc rfl rfl) (wv (r:=Ai 0) (A4 rfl) (Al (AB (ob h2 λh0 h1 hn=>Bi (S:=Nat×(Int×Int×(List (List Aa)))×(Value)) (V:=((List (List Aa)))×(Value)) 0 (λσ=>BW (λσ=>GP F v σ.1 σ.2.1 σ.2.2) σ.1 σ.2.1=some h0) (λσ=>[(0,AE 4 (A3 Ab v)),(1,rv (.func (.func 91) #[] #[(.pointer (some ⟨hb,0,none⟩))])),(4,Ai σ.2.1.1),(12,Ai ((Ax v 0).fN)),(13,Ai σ.2.1.2.1)]) (λσ=>[.blk hb [rv σ.2.2] 24,.row σ.2.2 28 1 (A3 Ae σ.2.1.2.2)]) (λσ=>σ.1) (F,(1,0,out),hm) h1 (A5.c5 rfl rfl rfl rfl rfl A5.nil) (sC (sC sN)) (λσ=>GO σ.1=some r) (λσ=>[]) (λσ=>[.blk hb [rv σ.2] 24,.row σ.2 28 1 (A3 Ae σ.1)]) ?_ ?_))))))))))
 ·rintro⟨n171,⟨ha,hj,hh⟩,he⟩ h3;refine B3 (l':=[(0,AE 4 (A3 Ab v)),(1,rv (.func (.func 91) #[] #[(.pointer (some ⟨hb,0,none⟩))])),(4,Ai ha),(12,Ai ((Ax v 0).fN)),(13,Ai hj)]) (H':=[.blk hb [rv he] 24,.row he 28 1 (A3 Ae hh)]) rfl rfl ?_;obtain⟨hr,rfl,h4,hk,hi⟩:=Ch h3;replace hk:GP F v ha hj hh=some h4:=hk;unfold GP at hk;refine Ah (wv (Cr rfl rfl) (Al (Ao (cz hk rfl (λh5 h6=>?_) (λh5 h7=>?_)))))
  ·refine Av (AH (Ao (AB (Ah (wv (r:=rS ([]:Ar)) (AD rfl) (Al (Ao (Ah (wm rfl (wv (AU (enc:=Ab) (ys:=v) B0 BI rfl rfl g1) (wv (AQ B9 rfl Dw rfl rfl) (wv (AJ DN rfl rfl) (wv (Bx rfl rfl) (Al (cz h6 rfl (λh8 h9=>?_) (λh8 hA=>?_))))))))))))))))
   ·refine Ah (wm rfl (wm rfl (ck h9 λhB hC=>wv (AU (enc:=Ab) (ys:=v) B0 BI rfl rfl hB) (wv (AQ B9 rfl CE rfl rfl) (wv (AJ CP rfl rfl) (wa rfl (Al (Ak (wm rfl (ck hC λhD hE=>wv (Bk rfl rfl hD) (wa rfl (AX (wm rfl (wm rfl (ck hE λhG hH=>wv (r:=AE 4 (A3 Ab (List.drop (Bm (ha+1)) v))) (Dz B0 BI rfl rfl hG) (ob hH λhf hI hJ=>Ct Og (GN F (List.drop (Bm (ha+1)) v) hf hI) rfl (wm rfl (wv (A7 rfl rfl) (wv (A7 rfl rfl) ?_)))))))))))))))))));refine wv (A7 rfl rfl) (Ca (cs:=[Ai 0,Ai 0,rB false,rB false]) Mn rfl rfl (λhs=>?_));refine wa rfl (Ba (i:=0) EC rfl rfl rfl (BB.c rfl) rfl rfl (cs':=[Ai hf.2.1.fDepth,Ai hf.2.1.fBytes,rB hf.2.1.fOutside,rB hf.2.1.fLong]) rfl (H':=[.blk hs (AF hf.2.1) 86,.blk hb [rv he] 24,.row he 28 1 (A3 Ae hh)]) rfl (wa rfl (Al (Ao (Ah (wm rfl (wm rfl (wm rfl (wm rfl (wm rfl (wm rfl (ck hJ λho hK=>wv (Bk rfl rfl ho) (wm rfl (wm rfl (wv (Bk rfl rfl ho) (ck hK λhL hN=>ck hN λhO hP=>wv (r:=AE 4 (A3 Ab (List.take (Bm ((ha+1)+hf.1)-Bm (ha+1)) (List.drop (Bm (ha+1)) v)))) (DP B0 BI rfl rfl rfl rfl hL hO) (ob hP λht hQ hR=>C4 (rs:=[rS ((Ax v ha).fStr),AE 4 (A3 Ab (List.take (Bm ((ha+1)+hf.1)-Bm (ha+1)) (List.drop (Bm (ha+1)) v)))]) (Hin:=[.blk hb [rv he] 24,.row he 28 1 (A3 Ae hh)]) (Hr:=[.blk hs (AF hf.2.1) 86]) Tryz.call91 rfl rfl ((Az (i:=1) rfl).trans (VG _ ((Az (i:=1) rfl).trans (VG _ (VF _))))) (LS hb he ((Ax v ha).fStr) (List.take (Bm ((ha+1)+hf.1)-Bm (ha+1)) (List.drop (Bm (ha+1)) v)) hh ht hQ) rfl ?_)))))))))))))))));rintro _ _ ⟨hu,rfl,rfl⟩;refine wv (Bz rfl) (Al (cz hR rfl (λhS hT=>?_) (λhS hU=>?_)))
    ·refine Aq (Ac (An (Ac (Ac (AN ?_)))));have hV:=Bh hT hi hn;refine An ?_;obtain rfl:=Am hV;exact Ap (M1 Mp) (sC (sC (sS sN))) ⟨hu,rfl,rfl⟩
    ·refine Av (AH (Ak (wm rfl (wm rfl (wv (Bk rfl rfl ho) (wa rfl (Aj (A8 (AH (Ak (ck hU λhW hX=>wv (Bk rfl rfl hW) (wm rfl (Aj ?_)))))))))))));have hY:=Bc hX hi;exact As (At (hr,((ha+1)+hf.1,hj+1,ht.2),hu) ⟨hY,VO _⟩ (A5.c5 rfl rfl rfl rfl rfl A5.nil) (sC (sC (sS sN))))
   ·refine Av (AH (Ah (wm rfl (wm rfl (ck hA λhZ ga=>wv (r:=AE 4 (A3 Ab (List.drop (Bm ha) v))) (Dz B0 BI rfl rfl hZ) (ob ga λhg gb gc=>Ct Og (GN F (List.drop (Bm ha) v) hg gb) rfl (wm rfl (wv (A7 rfl rfl) (wv (A7 rfl rfl) (wv (A7 rfl rfl) (Ca (cs:=[Ai 0,Ai 0,rB false,rB false]) Mn rfl rfl (λhw=>?_))))))))))));refine wa rfl (Ba (i:=0) EC rfl rfl rfl (BB.c rfl) rfl rfl (cs':=[Ai hg.2.1.fDepth,Ai hg.2.1.fBytes,rB hg.2.1.fOutside,rB hg.2.1.fLong]) rfl (H':=[.blk hw (AF hg.2.1) 86,.blk hb [rv he] 24,.row he 28 1 (A3 Ae hh)]) rfl (wa rfl (Al (Ao (Ah (wm rfl (wm rfl (wm rfl (wm rfl (wm rfl (wm rfl (ck gc λhp gd=>wv (Bk rfl rfl hp) (wm rfl (wm rfl (wv (Bk rfl rfl hp) (ck gd λge gf=>ck gf λgg gh=>wv (r:=AE 4 (A3 Ab (List.take (Bm (ha+hg.1)-Bm ha) (List.drop (Bm ha) v)))) (DP B0 BI rfl rfl rfl rfl ge gg) (ob gh λhx gi gj=>C4 (rs:=[rS ([]:Ar),AE 4 (A3 Ab (List.take (Bm (ha+hg.1)-Bm ha) (List.drop (Bm ha) v)))]) (Hin:=[.blk hb [rv he] 24,.row he 28 1 (A3 Ae hh)]) (Hr:=[.blk hw (AF hg.2.1) 86]) Tryz.call91 rfl rfl ((Az (i:=1) rfl).trans (VG _ ((Az (i:=1) rfl).trans (VG _ (VF _))))) (LS hb he ([]:Ar) (List.take (Bm (ha+hg.1)-Bm ha) (List.drop (Bm ha) v)) hh hx gi) rfl ?_)))))))))))))))));rintro _ _ ⟨hy,rfl,rfl⟩;refine wv (Bz rfl) (Al (cz gj rfl (λgl gm=>?_) (λgl gp=>?_)))
    ·refine Aq (Ac (An (Ac (Ac (AN ?_)))));have gq:=Bh gm hi hn;refine An ?_;obtain rfl:=Am gq;exact Ap (M1 Mp) (sC (sC (sS sN))) ⟨hy,rfl,rfl⟩
    ·refine Av (AH (Ak (wm rfl (wm rfl (wv (Bk rfl rfl hp) (wa rfl (Aj (A8 (AH (Ak (ck gp λgr gs=>wv (Bk rfl rfl gr) (wm rfl (Aj ?_)))))))))))));have gt:=Bc gs hi;exact As (At (hr,(ha+hg.1,hj+1,hx.2),hy) ⟨gt,VO _⟩ (A5.c5 rfl rfl rfl rfl rfl A5.nil) (sC (sC (sS sN))))
  ·refine Bs (A0 ?_);have gu:=BF h7 hi hn;exact A0 (AS (At (hh,he) gu A5.nil (sC (sC sN))))
 ·rintro⟨hz,hq⟩ hl;refine Cj (l':=[]) (H':=[.blk hb [rv hq] 24,.row hq 28 1 (A3 Ae hz)]) rfl rfl ?_;replace hl:GO hz=some r:=hl;unfold GO at hl;refine AW ?_;obtain rfl:=Am hl;exact DO (M1 Mp) (sC (sC sN)) ⟨hq,rfl,rfl⟩
theorem IG (F:Nat)(v:(List Aa))(r:(List (List Aa))×Int)(h:Jp F v=some r):Fn Tryz.prog GE 56 [AE 4 (A3 Ab v)] [] (λR H=>R=CW [AE 1 (A3 Ae r.1),Ai r.2]∧H=[]):=by
 refine enter (n:=27) Tryz.func56 rfl Tryz.ntmps56 rfl (λw Z=>?_);unfold Jp at h;refine Ah (wa rfl (wa rfl (Al (Ao (Ah (wm rfl (ob h λr1 e3 h2=>Ct LC (Do F v r1 e3) rfl (wa rfl (AX (wm rfl (wv (Bg rfl rfl) (Al (cz h2 rfl (λc4 h5=>?_) (λc4 h6=>?_))))))))))))))
 ·refine Ah (wm rfl (wa rfl (wa rfl (Al (Aq (Ac (WK.up (d:=2) (r:=AE 1 (A3 Ae ([]:List (List Aa)))) rfl (Up.le (DB.nil _)) ?_)))))));obtain rfl:=Am h5;exact Ap (DA Tryz.results56 (A9 rfl) (A9 rfl)) sN ⟨rfl,rfl⟩
 ·refine Av (AH (Ao (ck h6 λg7 h8=>AM [(0,AE 4 (A3 Ab v)),(22,rB ((!decide (((Ax v 0).fKind)=5))&&(!decide (((Ax v 0).fKind)=6))))] [] ?_ ?_)))
  ·refine Ak (wm rfl (wv (AU (enc:=Ab) (ys:=v) B0 BI rfl rfl g7) (wv (AQ B9 rfl Dw rfl rfl) (wv (AJ DN rfl rfl) (wv (Bg rfl rfl) (wm rfl (AV (!decide (((Ax v 0).fKind)=5)) (λc9=>?_) (λc9=>?_))))))))
   ·refine wo c9 (wm rfl (wo c9 (wv (AU (enc:=Ab) (ys:=v) B0 BI rfl rfl g7) (wo c9 (wv (AQ B9 rfl Dw rfl rfl) (wo c9 (wv (AJ DN rfl rfl) (wo c9 (wv (Bg rfl rfl) (C7 rfl c9 rfl (Aj ?_)))))))))));exact Cq c9
   ·refine wf c9 (wf c9 (wf c9 (wf c9 (wf c9 (wv (r:=rB false) (Aw rfl c9 rfl) (Aj ?_))))));exact Cq c9
  refine cz h8 rfl (λhe hf=>?_) (λhe hg=>?_)
  ·refine Ah (wa rfl (wa rfl (Al (Aq (Ac (WK.up (d:=2) (r:=AE 1 (A3 Ae ([]:List (List Aa)))) rfl (Up.le (DB.nil _)) ?_))))));obtain rfl:=Am hf;exact Ap (DA Tryz.results56 (A9 rfl) (A9 rfl)) sN ⟨rfl,rfl⟩
  ·refine Av (AH (Ah (Ca (cs:=[rv (.slice none 0 0)]) Tryz.zeroValue24 rfl rfl (λha=>?_))));refine AX (wm rfl (wv (r:=rv (.func (.func 91) #[] #[(.pointer (some ⟨ha,0,none⟩))])) (BA rfl) (WL.nilrow (e:=28) (sz:=1) (ob hg λhb hh hi=>Dm (Hr:=[]) Tryz.call90 (PD F ha (.slice none 0 0                            ) v ([]:List (List Aa)) hb hh) rfl ((Az (i:=1) rfl).trans (VG _ (VF _))) rfl ?_))));rintro _ _ ⟨hj,rfl,rfl⟩;refine AX (vL 0 CS rfl (wa rfl (wa rfl (Al (Aq (WK.freeze (i:=1) rfl (WK.up (d:=2) (r:=AE 1 (A3 Ae hb)) rfl (Up.fact (i:=0) rfl) ?_)))))));obtain rfl:=Am hi;exact Ap (DA Tryz.results56 (A9 rfl) (A9 rfl)) (sS (sS sN)) ⟨rfl,rfl⟩
end Go.Proofs.YtghdglcmblpbeaaGreatDoor.Q
namespace Go.Proofs.YtghdglcmblpbeaaGreatDoor
open Go
set_option linter.unusedVariables false
def H8 (k:Ar)(x:(List Aa))(key:Ar)(out:(List Aa)):Option (Bool×(List Aa)):=
 AP (decide (k=key)) (Bf (I0 x) λr3=>AR (decide (0<r3.length))<|some (!decide (k=key),r3)) (some (!decide (k=key),out))
def H7 (F:Nat)(v:(List Aa))(key:Ar)(ha:Int)(hb:Int)(hg:(List Aa)):Option (Stp (Int×Int×(List Aa)) (Out ((List Aa)) ((List Aa)))):=
 AP (decide (hb<((Ax v 0).fN))) (AP (decide (((Ax v 0).fKind)=6)) (AR (Cp ha (v.length:Int))<|AR (BL .i64 (ha+1))<|AR (EB (ha+1) (v.length:Int))<|Bf (DK F (List.drop (Int.toNat (ha+1)) v)) λhe=>AR (BL .i64 ((ha+1)+he.1))<|AR (EB (ha+1) ((ha+1)+he.1))<|AR (EB ((ha+1)+he.1) (v.length:Int))<|Bf (H8 ((Ax v ha).fStr) (List.take (Int.toNat ((ha+1)+he.1)-Int.toNat (ha+1)) (List.drop (Int.toNat (ha+1)) v)) key hg) λhh=>AP (!hh.1) (some (.out (.ret hh.2))) (AR (BL .i64 (hb+1))<|some (.next ((ha+1)+he.1,hb+1,hh.2)))) (AR (EB ha (v.length:Int))<|Bf (DK F (List.drop (Int.toNat ha) v)) λhf=>AR (BL .i64 (ha+hf.1))<|AR (EB ha (ha+hf.1))<|AR (EB (ha+hf.1) (v.length:Int))<|Bf (H8 ([]:Ar) (List.take (Int.toNat (ha+hf.1)-Int.toNat ha) (List.drop (Int.toNat ha) v)) key hg) λhi=>AP (!hi.1) (some (.out (.ret hi.2))) (AR (BL .i64 (hb+1))<|some (.next (ha+hf.1,hb+1,hi.2))))) (some (.out (.go hg)))
def IH (ha:(List Aa)):Option ((List Aa)):=
 some ha
def Nm (F:Nat)(v:(List Aa))(key:Ar)(out:(List Aa)):Option ((List Aa)):=
 AR (Cp 0 (v.length:Int))<|Bf (BW (λσ=>H7 F v key σ.1 σ.2.1 σ.2.2) F (1,0,out)) (BV λν=>IH ν)
def QT (F:Nat)(v:(List Aa))(key:Ar):Option ((List Aa)×Int):=
 Bf (CO F v) λr2=>AP (!decide (r2=0)) (some (([]:List Aa),r2)) (AR (Cp 0 (v.length:Int))<|AP (!decide (((Ax v 0).fKind)=6)) (some (([]:List Aa),7)) (Bf (Nm F v key ([]:List Aa)) λha=>AP (List.isEmpty ha) (some (([]:List Aa),5)) (some (ha,0))))
def DC (F:Nat)(path:(List Ar))(he:(List Aa))(ha:Int):Option (Stp ((List Aa)×Int) (Out ((List Aa)×Int) ((List Aa)))):=
 AP (decide (ha<(path.length:Int))) (AR (Cp ha (path.length:Int))<|Bf (QT F he (Ax path ha)) λhb=>AP (!decide (hb.2=0)) (some (.out (.ret (([]:List Aa),hb.2)))) (AR (BL .i64 (ha+1))<|some (.next (hb.1,ha+1)))) (some (.out (.go he)))
def H6 (ha:(List Aa)):Option ((List Aa)×Int):=
 some (ha,0)
def Nk (F:Nat)(v:(List Aa))(path:(List Ar)):Option ((List Aa)×Int):=
 Bf (CO F v) λr1=>AP (!decide (r1=0)) (some (([]:List Aa),r1)) (Bf (I0 v) λr7=>Bf (BW (λσ=>DC F path σ.1 σ.2) F (r7,0)) (BV λν=>H6 ν))
end Go.Proofs.YtghdglcmblpbeaaGreatDoor
namespace Go.Proofs.YtghdglcmblpbeaaGreatDoor.Q
open Go Go.RowKit
set_option linter.unusedVariables false
def LV (sz:Nat)(xs:List (List Rp)):Rp:=⟨λZ v=>MU sz xs Z v∧(xs=[]→v = .slice none 0 0),λh ⟨a,b⟩=>⟨MU.mono h a,b⟩,true,λ_ Z v ⟨⟨A,cap,e,_⟩,_⟩=>by rw[e];rfl⟩
theorem DB.sn {sz:Nat}{xs:List (List Rp)}:DB (LV sz xs) (AE sz xs):=λ_ _ h=>h.1
theorem DB.niln (sz:Nat):DB (rv (.slice none 0 0)) (LV sz []):=λZ v h=>by rw[show v=_ from h];exact⟨MU.nil sz Z,λ_=>rfl⟩
theorem DB.upn {T:Type}{sz:Nat}{enc:T→List Rp}{ys:List T}(h:decide (0<ys.length)=true):DB (AE sz (List.map enc ys)) (LV sz (List.map enc ys)):=λZ v hv=>⟨hv,λe=>by
 have:=Wc h;rw[List.map_eq_nil_iff.1 e] at this;exact absurd this (by simp)⟩
section
variable {P : Program} {n : Nat} {c : Cx} {l : Fr} {H : List Ent} {d : Option Nat} {ty rty t e : TypeId} {pos : String} {af : Array Edge} {g : Option (Nat × Bool)} {x : Operand} {sz : Nat}
theorem Ow {T:Type}{enc:T→List Rp}{ys:List T}(ht:P.underlying t=some (.slice e))(h:ev l x=some (LV sz (List.map enc ys))):Bn P n c l H { dst:=d,op:=.binOp .eql t x (.const (.slice none 0 0)) rty,type:=ty,pos:=pos,after:=af,guard:=g } (rB (List.isEmpty ys)):=λa w Z ha hw=>by
 obtain⟨⟨A,cap,e1,h1,h2,h3,h4⟩,h5⟩:=ha.ev h;have e2:a.eval (.const (.slice none 0 0)) = .slice none 0 0:=rfl;refine⟨.bool A.isNone,?_,?_⟩
 ·show Value.bool A.isNone = .bool ys.isEmpty
  cases ys with
  | nil=>
   have:=h5 rfl;rw[e1] at this
   cases this;rfl
  | cons y r=>
   cases A with
   | some a=>rfl
   | none=>
    have:=h3 rfl;simp only[VS,VM] at h1;omega
 ·have:=run_equal_slice_nil (P:=P) w t e A (List.map enc ys).length cap ht;simp only[VS] at this;simp[execOp,e1,e2,binOp,this,eqGuard]
end
set_option linter.unusedSimpArgs false
set_option maxRecDepth 100000
set_option maxHeartbeats 4000000
theorem Vd:∃inf,Tryz.prog.info? 9=some inf∧inf.zero=some (.string ⟨#[]⟩)∧inf.size=1∧inf.bytes=16:=by
  have key:(Tryz.prog.info? 9).map (λi=>(i.zero,i.size,i.bytes))=some (some (.string ⟨#[]⟩),1,16):=by kernel_rfl
  obtain⟨inf,h1,h2⟩:=Option.map_eq_some_iff.1 key;simp only[Prod.mk.injEq] at h2;exact⟨inf,h1,h2.1,h2.2.1,h2.2.2⟩
theorem OR (ha:Nat)(hb:Nat)(k:Ar)(x:(List Aa))(key:Ar)(out:(List Aa))(r:Bool×(List Aa))(h:H8 k x key out=some r):Fn Tryz.prog GE 140 [rS k,AE 4 (A3 Ab x),rP ha 0,rP hb 0] [.blk ha [rS key] 9,.blk hb [LV 4 (A3 Ab out)] 28] (λR H=>R=rB r.1∧H=[.blk ha [rS key] 9,.blk hb [LV 4 (A3 Ab r.2)] 28]):=by
 refine enter (n:=15) Tryz.func140 rfl Tryz.ntmps140 rfl (λw Z=>?_);unfold H8 at h;refine Ah (wa rfl (Al (Ao (Ah (wm rfl (vL 0 CP rfl (wv (Hq rfl rfl) (Al (cz h rfl (λc1 h2=>?_) (λc1 h8=>?_))))))))))
 ·refine Ak (wm rfl (ob h2 λr3 e5 h4=>Ct Tryz.call92 (L3 x r3 e5) rfl (ck h4 λg6 h7=>WL.up (d:=11) (r:=LV 4 (A3 Ab r3)) rfl (Up.le (DB.upn g6)) (Bu (i:=1) BY rfl rfl (B2 rfl) rfl rfl (cs':=[LV 4 (A3 Ab r3)]) rfl (H':=[.blk ha [rS key] 9,.blk hb [LV 4 (A3 Ab r3)] 28]) rfl (AX (wm rfl (vL 0 CP rfl (wv (Ed rfl rfl) (wa rfl (Al (Aq ?_)))))))))));obtain rfl:=Am h7;exact Ap (By Tryz.results140 (A9 rfl)) (sC (sC sN)) ⟨rfl,rfl⟩
 ·refine Av (AH (Ah (wm rfl (vL 0 CP rfl (wv (Ed rfl rfl) (wa rfl (Al (Aq ?_))))))));obtain rfl:=Am h8;exact Ap (By Tryz.results140 (A9 rfl)) (sC (sC sN)) ⟨rfl,rfl⟩
theorem SA (F:Nat)(hb:Nat)(he:Nat)(v:(List Aa))(key:Ar)(out:(List Aa))(r:(List Aa))(h:Nm F v key out=some r):Fn Tryz.prog GE 90 [AE 4 (A3 Ab v),rv (.func (.func 140) #[] #[(.pointer (some ⟨hb,0,none⟩)),(.pointer (some ⟨he,0,none⟩))])] [.blk hb [rS key] 9,.blk he [LV 4 (A3 Ab out)] 28] (λR H=>R=rv (.tuple #[])∧H=[.blk hb [rS key] 9,.blk he [LV 4 (A3 Ab r)] 28]):=by
 refine enter (n:=52) Tryz.func90 rfl Tryz.ntmps90 rfl (λw Z=>?_);unfold Nm at h;refine Ah (wa rfl (AX (wm rfl (ck h λg1 h2=>wv (AU (enc:=Ab) (ys:=v) B0 BI rfl rfl g1) (wv (AQ B9 rfl BH rfl rfl) (wv (AJ Cc rfl rfl) (wv (r:=Ai 0) (A4 rfl) (Al (AB (ob h2 λhw hx hm=>Bi (S:=Nat×(Int×Int×(List Aa))×(Unit)) (V:=((List Aa))×(Unit)) 0 (λσ=>BW (λσ=>H7 F v key σ.1 σ.2.1 σ.2.2) σ.1 σ.2.1=some hw) (λσ=>[(0,AE 4 (A3 Ab v)),(1,rv (.func (.func 140) #[] #[(.pointer (some ⟨hb,0,none⟩)),(.pointer (some ⟨he,0,none⟩))])),(4,Ai σ.2.1.1),(12,Ai ((Ax v 0).fN)),(13,Ai σ.2.1.2.1)]) (λσ=>[.blk hb [rS key] 9,.blk he [LV 4 (A3 Ab σ.2.1.2.2)] 28]) (λσ=>σ.1) (F,(1,0,out),()) hx (A5.c5 rfl rfl rfl rfl rfl A5.nil) (sC (sC sN)) (λσ=>IH σ.1=some r) (λσ=>[]) (λσ=>[.blk hb [rS key] 9,.blk he [LV 4 (A3 Ab σ.1)] 28]) ?_ ?_))))))))))
 ·rintro⟨gr,⟨ha,hj,hh⟩,⟨⟩⟩ hy;refine B3 (l':=[(0,AE 4 (A3 Ab v)),(1,rv (.func (.func 140) #[] #[(.pointer (some ⟨hb,0,none⟩)),(.pointer (some ⟨he,0,none⟩))])),(4,Ai ha),(12,Ai ((Ax v 0).fN)),(13,Ai hj)]) (H':=[.blk hb [rS key] 9,.blk he [LV 4 (A3 Ab hh)] 28]) rfl rfl ?_;obtain⟨hp,rfl,hz,hk,hi⟩:=Ch hy;replace hk:H7 F v key ha hj hh=some hz:=hk;unfold H7 at hk;refine Ah (wv (Cr rfl rfl) (Al (Ao (cz hk rfl (λh0 h1=>?_) (λh0 h3=>?_)))))
  ·refine Av (AH (Ao (AB (Ah (wv (r:=rS ([]:Ar)) (AD rfl) (Al (Ao (Ah (wm rfl (wv (AU (enc:=Ab) (ys:=v) B0 BI rfl rfl g1) (wv (AQ B9 rfl Dw rfl rfl) (wv (AJ DN rfl rfl) (wv (Bx rfl rfl) (Al (cz h1 rfl (λh4 h5=>?_) (λh4 h6=>?_))))))))))))))))
   ·refine Ah (wm rfl (wm rfl (ck h5 λh7 h8=>wv (AU (enc:=Ab) (ys:=v) B0 BI rfl rfl h7) (wv (AQ B9 rfl CE rfl rfl) (wv (AJ CP rfl rfl) (wa rfl (Al (Ak (wm rfl (ck h8 λh9 hA=>wv (Bk rfl rfl h9) (wa rfl (AX (wm rfl (wm rfl (ck hA λhB hC=>wv (r:=AE 4 (A3 Ab (List.drop (Bm (ha+1)) v))) (Dz B0 BI rfl rfl hB) (ob hC λhf hD hE=>Ct Og (GN F (List.drop (Bm (ha+1)) v) hf hD) rfl (wm rfl (wv (A7 rfl rfl) (wv (A7 rfl rfl) ?_)))))))))))))))))));refine wv (A7 rfl rfl) (Ca (cs:=[Ai 0,Ai 0,rB false,rB false]) Mn rfl rfl (λhq=>?_));refine wa rfl (Ba (i:=0) EC rfl rfl rfl (BB.c rfl) rfl rfl (cs':=[Ai hf.2.1.fDepth,Ai hf.2.1.fBytes,rB hf.2.1.fOutside,rB hf.2.1.fLong]) rfl (H':=[.blk hq (AF hf.2.1) 86,.blk hb [rS key] 9,.blk he [LV 4 (A3 Ab hh)] 28]) rfl (wa rfl (Al (Ao (Ah (wm rfl (wm rfl (wm rfl (wm rfl (wm rfl (wm rfl (ck hE λhn hG=>wv (Bk rfl rfl hn) (wm rfl (wm rfl (wv (Bk rfl rfl hn) (ck hG λhH hI=>ck hI λhJ hK=>wv (r:=AE 4 (A3 Ab (List.take (Bm ((ha+1)+hf.1)-Bm (ha+1)) (List.drop (Bm (ha+1)) v)))) (DP B0 BI rfl rfl rfl rfl hH hJ) (ob hK λhr hL hN=>C4 (rs:=[rS ((Ax v ha).fStr),AE 4 (A3 Ab (List.take (Bm ((ha+1)+hf.1)-Bm (ha+1)) (List.drop (Bm (ha+1)) v)))]) (Hin:=[.blk hb [rS key] 9,.blk he [LV 4 (A3 Ab hh)] 28]) (Hr:=[.blk hq (AF hf.2.1) 86]) Tryz.call140 rfl rfl ((Az (i:=1) rfl).trans (VG _ ((Az (i:=1) rfl).trans (VG _ (VF _))))) (OR hb he ((Ax v ha).fStr) (List.take (Bm ((ha+1)+hf.1)-Bm (ha+1)) (List.drop (Bm (ha+1)) v)) key hh hr hL) rfl ?_)))))))))))))))));rintro _ _ ⟨rfl,rfl⟩;refine wv (Bz rfl) (Al (cz hN rfl (λhO hP=>?_) (λhO hQ=>?_)))
    ·refine Aq (Ac (An (Ac (Ac (AN ?_)))));have hR:=Bh hP hi hm;refine An ?_;obtain rfl:=Am hR;exact Ap (M1 Mp) (sC (sC (sS sN))) ⟨rfl,rfl⟩
    ·refine Av (AH (Ak (wm rfl (wm rfl (wv (Bk rfl rfl hn) (wa rfl (Aj (A8 (AH (Ak (ck hQ λhS hT=>wv (Bk rfl rfl hS) (wm rfl (Aj ?_)))))))))))));have hU:=Bc hT hi;exact As (At (hp,((ha+1)+hf.1,hj+1,hr.2),()) ⟨hU,VO _⟩ (A5.c5 rfl rfl rfl rfl rfl A5.nil) (sC (sC (sS sN))))
   ·refine Av (AH (Ah (wm rfl (wm rfl (ck h6 λhV hW=>wv (r:=AE 4 (A3 Ab (List.drop (Bm ha) v))) (Dz B0 BI rfl rfl hV) (ob hW λhg hX hY=>Ct Og (GN F (List.drop (Bm ha) v) hg hX) rfl (wm rfl (wv (A7 rfl rfl) (wv (A7 rfl rfl) (wv (A7 rfl rfl) (Ca (cs:=[Ai 0,Ai 0,rB false,rB false]) Mn rfl rfl (λhs=>?_))))))))))));refine wa rfl (Ba (i:=0) EC rfl rfl rfl (BB.c rfl) rfl rfl (cs':=[Ai hg.2.1.fDepth,Ai hg.2.1.fBytes,rB hg.2.1.fOutside,rB hg.2.1.fLong]) rfl (H':=[.blk hs (AF hg.2.1) 86,.blk hb [rS key] 9,.blk he [LV 4 (A3 Ab hh)] 28]) rfl (wa rfl (Al (Ao (Ah (wm rfl (wm rfl (wm rfl (wm rfl (wm rfl (wm rfl (ck hY λho hZ=>wv (Bk rfl rfl ho) (wm rfl (wm rfl (wv (Bk rfl rfl ho) (ck hZ λga gb=>ck gb λgc gd=>wv (r:=AE 4 (A3 Ab (List.take (Bm (ha+hg.1)-Bm ha) (List.drop (Bm ha) v)))) (DP B0 BI rfl rfl rfl rfl ga gc) (ob gd λht ge gf=>C4 (rs:=[rS ([]:Ar),AE 4 (A3 Ab (List.take (Bm (ha+hg.1)-Bm ha) (List.drop (Bm ha) v)))]) (Hin:=[.blk hb [rS key] 9,.blk he [LV 4 (A3 Ab hh)] 28]) (Hr:=[.blk hs (AF hg.2.1) 86]) Tryz.call140 rfl rfl ((Az (i:=1) rfl).trans (VG _ ((Az (i:=1) rfl).trans (VG _ (VF _))))) (OR hb he ([]:Ar) (List.take (Bm (ha+hg.1)-Bm ha) (List.drop (Bm ha) v)) key hh ht ge) rfl ?_)))))))))))))))));rintro _ _ ⟨rfl,rfl⟩;refine wv (Bz rfl) (Al (cz gf rfl (λgg gh=>?_) (λgg gi=>?_)))
    ·refine Aq (Ac (An (Ac (Ac (AN ?_)))));have gj:=Bh gh hi hm;refine An ?_;obtain rfl:=Am gj;exact Ap (M1 Mp) (sC (sC (sS sN))) ⟨rfl,rfl⟩
    ·refine Av (AH (Ak (wm rfl (wm rfl (wv (Bk rfl rfl ho) (wa rfl (Aj (A8 (AH (Ak (ck gi λgl gm=>wv (Bk rfl rfl gl) (wm rfl (Aj ?_)))))))))))));have gp:=Bc gm hi;exact As (At (hp,(ha+hg.1,hj+1,ht.2),()) ⟨gp,VO _⟩ (A5.c5 rfl rfl rfl rfl rfl A5.nil) (sC (sC (sS sN))))
  ·refine Bs (A0 ?_);have gq:=BF h3 hi hm;exact A0 (AS (At (hh,()) gq A5.nil (sC (sC sN))))
 ·rintro⟨hu,⟨⟩⟩ hl;refine Cj (l':=[]) (H':=[.blk hb [rS key] 9,.blk he [LV 4 (A3 Ab hu)] 28]) rfl rfl ?_;replace hl:IH hu=some r:=hl;unfold IH at hl;refine AW ?_;obtain rfl:=Am hl;exact DO (M1 Mp) (sC (sC sN)) ⟨rfl,rfl⟩
theorem TO (F:Nat)(v:(List Aa))(key:Ar)(r:(List Aa)×Int)(h:QT F v key=some r):Fn Tryz.prog GE 107 [AE 4 (A3 Ab v),rS key] [] (λR H=>R=CW [AE 4 (A3 Ab r.1),Ai r.2]∧H=[]):=by
 refine enter (n:=24) Tryz.func107 rfl Tryz.ntmps107 rfl (λw Z=>?_);unfold QT at h;refine Ah (JO rfl (B2 rfl) rfl (λb1=>?_));refine wa rfl (wa rfl (Al (Ao (Ah (wm rfl (ob h λr2 e4 h3=>Ct LC (Do F v r2 e4) rfl (wa rfl (AX (wm rfl (wv (Bg rfl rfl) (Al (cz h3 rfl (λc5 h6=>?_) (λc5 h7=>?_)))))))))))))
 ·refine Ah (wm rfl (wa rfl (wa rfl (Al (Aq (Ac (WK.up (d:=4) (r:=AE 4 (A3 Ab ([]:List Aa))) rfl (Up.le (DB.nil _)) ?_)))))));obtain rfl:=Am h6;exact Ap (DA OK (A9 rfl) (A9 rfl)) (sS sN) ⟨rfl,rfl⟩
 ·refine Av (AH (Ao (Ah (wm rfl (ck h7 λg8 h9=>wv (AU (enc:=Ab) (ys:=v) B0 BI rfl rfl g8) (wv (AQ B9 rfl Dw rfl rfl) (wv (AJ DN rfl rfl) (wv (Bg rfl rfl) (Al (cz h9 rfl (λhe hf=>?_) (λhe hg=>?_)))))))))))
  ·refine Ah (wa rfl (wa rfl (Al (Aq (Ac (WK.up (d:=4) (r:=AE 4 (A3 Ab ([]:List Aa))) rfl (Up.le (DB.nil _)) ?_))))));obtain rfl:=Am hf;exact Ap (DA OK (A9 rfl) (A9 rfl)) (sS sN) ⟨rfl,rfl⟩
  ·refine Av (AH (Ah (Ca (cs:=[rv (.slice none 0 0)]) Mo rfl rfl (λhb=>?_))));refine AX (wm rfl (wv (r:=rv (.func (.func 140) #[] #[(.pointer (some ⟨b1,0,none⟩)),(.pointer (some ⟨hb,0,none⟩))])) (BA rfl) (WL.upBlk (i:=0) (cs':=[LV 4 (A3 Ab ([]:List Aa))]) rfl ⟨Up.le (DB.niln _),trivial⟩ (ob hg λha hh hi=>Dm (Hr:=[]) Tryz.call90 (SA F b1 hb v key ([]:List Aa) ha hh) rfl ((Az (i:=1) rfl).trans (VG _ (VF _))) rfl ?_))));rintro _ _ ⟨rfl,rfl⟩;refine Al (Ao (Ah (vL 1 CC rfl (wv (r:=rB (List.isEmpty ha)) (Ow B0 rfl) (Al (cz hi rfl (λhj hk=>?_) (λhj hl=>?_)))))))
   ·refine Ah (wa rfl (wa rfl (Al (Aq (Ac (WK.up (d:=4) (r:=AE 4 (A3 Ab ([]:List Aa))) rfl (Up.le (DB.nil _)) ?_))))));obtain rfl:=Am hk;exact Ap (DA OK (A9 rfl) (A9 rfl)) (sS (sS sN)) ⟨rfl,rfl⟩
   ·refine Av (AH (Ah (vL 1 CC rfl (wa rfl (wa rfl (Al (Aq (WK.up (d:=4) (r:=AE 4 (A3 Ab ha)) rfl (Up.le DB.sn) ?_))))))));obtain rfl:=Am hl;exact Ap (DA OK (A9 rfl) (A9 rfl)) (sS (sS sN)) ⟨rfl,rfl⟩
theorem S7 (F:Nat)(v:(List Aa))(path:(List Ar))(r:(List Aa)×Int)(h:Nk F v path=some r):Fn Tryz.prog GE 77 [AE 4 (A3 Ab v),AE 1 (A3 eS path)] [] (λR H=>R=CW [AE 4 (A3 Ab r.1),Ai r.2]∧H=[]):=by
 refine enter (n:=37) Tryz.func77 rfl Tryz.ntmps77 rfl (λw Z=>?_);unfold Nk at h;refine Ah (wa rfl (wa rfl (Al (Ao (Ah (wm rfl (ob h λr1 e3 h2=>Ct LC (Do F v r1 e3) rfl (wa rfl (AX (wm rfl (wv (Bg rfl rfl) (Al (cz h2 rfl (λc4 h5=>?_) (λc4 h6=>?_))))))))))))))
 ·refine Ah (wm rfl (wa rfl (wa rfl (Al (Aq (Ac (WK.up (d:=4) (r:=AE 4 (A3 Ab ([]:List Aa))) rfl (Up.le (DB.nil _)) ?_)))))));obtain rfl:=Am h5;exact Ap (DA Tryz.results77 (A9 rfl) (A9 rfl)) sN ⟨rfl,rfl⟩
 ·refine Av (AH (Ah (wm rfl (ob h6 λr7 e9 h8=>Ct Tryz.call92 (L3 v r7 e9) rfl (wa rfl (Al (Ao (Ah (wm rfl (wv (AL (ys:=path) (enc:=eS) CR rfl) (wv (r:=Ai 0) (A4 rfl) (Al (AB (ob h8 λhk hl hh=>Bi (S:=Nat×((List Aa)×Int)×(Unit)) (V:=((List Aa))×(Unit)) 0 (λσ=>BW (λσ=>DC F path σ.1 σ.2) σ.1 σ.2.1=some hk) (λσ=>[(4,rv (.slice none 0 0)),(5,Ai 0),(7,AE 4 (A3 Ab σ.2.1.1)),(19,AE 1 (A3 eS path)),(20,Ai (path.length:Int)),(21,Ai σ.2.1.2)]) (λσ=>[]) (λσ=>σ.1) (F,(r7,0),()) hl (A5.c rfl (A5.c5 rfl rfl rfl rfl rfl A5.nil)) sN (λσ=>H6 σ.1=some r) (λσ=>[(4,rv (.slice none 0 0)),(5,Ai 0),(7,AE 4 (A3 Ab σ.1))]) (λσ=>[]) ?_ ?_))))))))))))))
  ·rintro⟨h9,⟨ha,hb⟩,⟨⟩⟩ hm;refine B3 (l':=[(4,rv (.slice none 0 0)),(5,Ai 0),(7,AE 4 (A3 Ab ha)),(19,AE 1 (A3 eS path)),(20,Ai (path.length:Int)),(21,Ai hb)]) (H':=[]) rfl rfl ?_;obtain⟨hn,rfl,ho,he,hg⟩:=Ch hm;replace he:DC F path ha hb=some ho:=he;unfold DC at he;refine Ah (wv (Cr rfl rfl) (Al (Ao (cz he rfl (λhp hq=>?_) (λhp hr=>?_)))))
   ·refine Av (AH (Ao (AB (Ah (ck hq λhs ht=>wv (AU (enc:=eS) (ys:=path) CR CE rfl rfl hs) (wv (AJ CP rfl rfl) (wa rfl (AX (wm rfl (wm rfl (ob ht λhi hu hw=>Ct Tryz.call107 (TO F ha (Ax path hb) hi hu) rfl (wm rfl (wv (A7 rfl rfl) (wv (A7 rfl rfl) (wa rfl (wa rfl (Al (Ao (Ah (wm rfl (wv (Bg rfl rfl) ?_)))))))))))))))))))));refine Al (cz hw rfl (λhx hy=>?_) (λhx hz=>?_))
    ·refine Ah (wm rfl (wa rfl (wa rfl (Al (Aq (Ac (An (Ac (Ac (AN ?_))))))))));have h0:=Bh hy hg hh;refine An (Ac (WK.up (d:=4) (r:=AE 4 (A3 Ab ([]:List Aa))) rfl (Up.le (DB.nil _)) ?_));obtain rfl:=Am h0;exact Ap (DA Tryz.results77 (A9 rfl) (A9 rfl)) sN ⟨rfl,rfl⟩
    ·refine Av (AH (Ak (wm rfl (wa rfl (Aj (A8 (AH (Ak (ck hz λh1 h3=>wv (Bk rfl rfl h1) (wm rfl (Aj ?_)))))))))));have h4:=Bc h3 hg;exact As (At (hn,(hi.1,hb+1),()) ⟨h4,VO _⟩ (A5.c rfl (A5.c5 rfl rfl rfl rfl rfl A5.nil)) sN)
   ·refine Bs (A0 ?_);have h7:=BF hr hg hh;exact A0 (AS (At (ha,()) h7 (A5.c rfl (A5.c rfl (A5.c rfl A5.nil))) sN))
  ·rintro⟨hj,⟨⟩⟩ hf;refine Cj (l':=[(4,rv (.slice none 0 0)),(5,Ai 0),(7,AE 4 (A3 Ab hj))]) (H':=[]) rfl rfl ?_;replace hf:H6 hj=some r:=hf;unfold H6 at hf;refine AW (AH (Ah (wm rfl (wa rfl (wa rfl (Al (Aq ?_)))))));obtain rfl:=Am hf;exact Ap (DA Tryz.results77 (A9 rfl) (A9 rfl)) sN ⟨rfl,rfl⟩
end Go.Proofs.YtghdglcmblpbeaaGreatDoor.Q
namespace Go.Proofs.YtghdglcmblpbeaaGreatDoor
open Go
set_option linter.unusedVariables false
structure Af where
 fPath:(List Ar)
 fOp:Int
 fValues:(List (List Aa))
 fText:Ar
 fLow:Int
 fHigh:Int
 deriving DecidableEq,Inhabited
structure UH where
 fID:Ar
 fTenant:Ar
 fSource:Ar
 fKey:Ar
 fAt:Int
 fCause:Ar
 fBody:(List Aa)
 deriving DecidableEq,Inhabited
def EF (ys:(List Ar))(x:Ar)(ha:Int):Option (Stp (Int) (Out (Int) (Unit))):=
 AP (decide (ha<(ys.length:Int))) (AR (Cp ha (ys.length:Int))<|AP (decide (x=(Ax ys ha))) (some (.out (.ret ha))) (AR (BL .i64 (ha+1))<|some (.next (ha+1)))) (some (.out (.go ())))
def EE :Option (Int):=
 some (-1)
def KQ (F:Nat)(ys:(List Ar))(x:Ar):Option (Int):=
 Bf (BW (λσ=>EF ys x σ) F 0) (BV λν=>EE )
def C9 (a:(List Ar))(b:(List Ar))(ha:Int):Option (Stp (Int) (Out (Bool) (Unit))):=
 AP (decide (ha<(a.length:Int))) (AR (Cp ha (a.length:Int))<|AR (Cp ha (b.length:Int))<|AP (!decide ((Ax a ha)=(Ax b ha))) (some (.out (.ret false))) (AR (BL .i64 (ha+1))<|some (.next (ha+1)))) (some (.out (.go ())))
def Eb :Option (Bool):=
 some true
def DD (F:Nat)(a:(List Ar))(b:(List Ar)):Option (Bool):=
 AP (!decide ((a.length:Int)=(b.length:Int))) (some false) (Bf (BW (λσ=>C9 a b σ) F 0) (BV λν=>Eb ))
def MF :Option ((List Ar)):=
 some ([([]:Ar),([101,120,105,115,116,115]:Ar),([109,105,115,115,105,110,103]:Ar),([101,113,117,97,108,115]:Ar),([111,116,104,101,114]:Ar),([112,114,101,102,105,120]:Ar),([114,97,110,103,101]:Ar)]:List Ar)
def Eo (op:Int):Option (Bool):=
 some ((decide (op=3))||(decide (op=4)))
def BU (ha:Bool):Option (Int):=
 AP (ha) (some 1) (some 0)
def DR (F:Nat)(f:Af)(ha:Int):Option (Stp (Int) (Out (Int) (Unit))):=
 AP (decide (ha<(f.fValues.length:Int))) (AR (Cp ha (f.fValues.length:Int))<|Bf (CO F (Ax f.fValues ha)) λhb=>AP (!decide (hb=0)) (some (.out (.ret hb))) (AR (BL .i64 (ha+1))<|some (.next (ha+1)))) (some (.out (.go ())))
def G6 (f:Af):Option (Int):=
 Bf (Eo f.fOp) λha=>AP (!ha) (AP (decide (0<(f.fValues.length:Int))) (BU true) (AP (!decide (f.fOp=5)) (AP (!decide (f.fText=([]:Ar))) (BU true) (AP (!decide (f.fOp=6)) (AP (!decide (f.fLow=0)) (BU true) (BU (!decide (f.fHigh=0)))) (BU false))) (AP (!decide (f.fOp=6)) (AP (!decide (f.fLow=0)) (BU true) (BU (!decide (f.fHigh=0)))) (BU false)))) (AP (!decide (f.fOp=5)) (AP (!decide (f.fText=([]:Ar))) (BU true) (AP (!decide (f.fOp=6)) (AP (!decide (f.fLow=0)) (BU true) (BU (!decide (f.fHigh=0)))) (BU false))) (AP (!decide (f.fOp=6)) (AP (!decide (f.fLow=0)) (BU true) (BU (!decide (f.fHigh=0)))) (BU false)))
def BT (ha:Bool):Option (Int):=
 AP (ha) (some 1) (some 0)
def G8 (F:Nat)(f:Af)(ha:Int):Option (Stp (Int) (Out (Int) (Unit))):=
 AP (decide (ha<(f.fValues.length:Int))) (AR (Cp ha (f.fValues.length:Int))<|Bf (CO F (Ax f.fValues ha)) λhb=>AP (!decide (hb=0)) (some (.out (.ret hb))) (AR (BL .i64 (ha+1))<|some (.next (ha+1)))) (some (.out (.go ())))
def G5 (f:Af):Option (Int):=
 Bf (Eo f.fOp) λha=>AP (!ha) (AP (decide (0<(f.fValues.length:Int))) (BT true) (AP (!decide (f.fOp=5)) (AP (!decide (f.fText=([]:Ar))) (BT true) (AP (!decide (f.fOp=6)) (AP (!decide (f.fLow=0)) (BT true) (BT (!decide (f.fHigh=0)))) (BT false))) (AP (!decide (f.fOp=6)) (AP (!decide (f.fLow=0)) (BT true) (BT (!decide (f.fHigh=0)))) (BT false)))) (AP (!decide (f.fOp=5)) (AP (!decide (f.fText=([]:Ar))) (BT true) (AP (!decide (f.fOp=6)) (AP (!decide (f.fLow=0)) (BT true) (BT (!decide (f.fHigh=0)))) (BT false))) (AP (!decide (f.fOp=6)) (AP (!decide (f.fLow=0)) (BT true) (BT (!decide (f.fHigh=0)))) (BT false)))
def BS (ha:Bool):Option (Int):=
 AP (ha) (some 1) (some 0)
def BR (ha:Bool):Option (Int):=
 AP (ha) (some 1) (some 0)
def BQ (ha:Bool):Option (Int):=
 AP (ha) (some 1) (some 0)
def DS (F:Nat)(f:Af)(ha:Int):Option (Stp (Int) (Out (Int) (Unit))):=
 AP (decide (ha<(f.fPath.length:Int))) (AR (Cp ha (f.fPath.length:Int))<|Bf (Mu F (Ax f.fPath ha)) λhb=>AP (!decide (hb.2=0)) (some (.out (.ret hb.2))) (AR (BL .i64 (ha+1))<|some (.next (ha+1)))) (some (.out (.go ())))
def G7 (F:Nat)(f:Af):Option (Int):=
 AP (((decide (f.fOp<1))||(decide (6<f.fOp)))) (some 7) (AP (decide (f.fOp=3)) (AP (((decide ((f.fValues.length:Int)<1))||(decide (8<(f.fValues.length:Int))))) (some 3) (Bf (BW (λσ=>DR F f σ) F 0) (BV λν=>G6 f ))) (AP (decide (f.fOp=4)) (AP (((decide ((f.fValues.length:Int)<1))||(decide (8<(f.fValues.length:Int))))) (some 3) (Bf (BW (λσ=>G8 F f σ) F 0) (BV λν=>G5 f ))) (AP (decide (f.fOp=5)) (Bf (Mu F f.fText) λha=>AP (!decide (ha.2=0)) (some ha.2) (Bf (Eo f.fOp) λhb=>AP (!hb) (AP (decide (0<(f.fValues.length:Int))) (BS true) (AP (!decide (f.fOp=5)) (AP (!decide (f.fText=([]:Ar))) (BS true) (AP (!decide (f.fOp=6)) (AP (!decide (f.fLow=0)) (BS true) (BS (!decide (f.fHigh=0)))) (BS false))) (AP (!decide (f.fOp=6)) (AP (!decide (f.fLow=0)) (BS true) (BS (!decide (f.fHigh=0)))) (BS false)))) (AP (!decide (f.fOp=5)) (AP (!decide (f.fText=([]:Ar))) (BS true) (AP (!decide (f.fOp=6)) (AP (!decide (f.fLow=0)) (BS true) (BS (!decide (f.fHigh=0)))) (BS false))) (AP (!decide (f.fOp=6)) (AP (!decide (f.fLow=0)) (BS true) (BS (!decide (f.fHigh=0)))) (BS false))))) (AP (decide (f.fOp=6)) (AR ((Bj f.fLow).isSome)<|AR (imp (!(!(ov (Bj f.fLow)))) ((Bj f.fHigh).isSome))<|AP (((!(ov (Bj f.fLow)))||((!(ov (Bj f.fHigh)))||(decide (f.fHigh<f.fLow))))) (some 2) (Bf (Eo f.fOp) λhe=>AP (!he) (AP (decide (0<(f.fValues.length:Int))) (BR true) (AP (!decide (f.fOp=5)) (AP (!decide (f.fText=([]:Ar))) (BR true) (AP (!decide (f.fOp=6)) (AP (!decide (f.fLow=0)) (BR true) (BR (!decide (f.fHigh=0)))) (BR false))) (AP (!decide (f.fOp=6)) (AP (!decide (f.fLow=0)) (BR true) (BR (!decide (f.fHigh=0)))) (BR false)))) (AP (!decide (f.fOp=5)) (AP (!decide (f.fText=([]:Ar))) (BR true) (AP (!decide (f.fOp=6)) (AP (!decide (f.fLow=0)) (BR true) (BR (!decide (f.fHigh=0)))) (BR false))) (AP (!decide (f.fOp=6)) (AP (!decide (f.fLow=0)) (BR true) (BR (!decide (f.fHigh=0)))) (BR false))))) (Bf (Eo f.fOp) λhf=>AP (!hf) (AP (decide (0<(f.fValues.length:Int))) (BQ true) (AP (!decide (f.fOp=5)) (AP (!decide (f.fText=([]:Ar))) (BQ true) (AP (!decide (f.fOp=6)) (AP (!decide (f.fLow=0)) (BQ true) (BQ (!decide (f.fHigh=0)))) (BQ false))) (AP (!decide (f.fOp=6)) (AP (!decide (f.fLow=0)) (BQ true) (BQ (!decide (f.fHigh=0)))) (BQ false)))) (AP (!decide (f.fOp=5)) (AP (!decide (f.fText=([]:Ar))) (BQ true) (AP (!decide (f.fOp=6)) (AP (!decide (f.fLow=0)) (BQ true) (BQ (!decide (f.fHigh=0)))) (BQ false))) (AP (!decide (f.fOp=6)) (AP (!decide (f.fLow=0)) (BQ true) (BQ (!decide (f.fHigh=0)))) (BQ false))))))))
def C3 (F:Nat)(f:Af):Option (Int):=
 AP (decide (4<(f.fPath.length:Int))) (some 3) (Bf (BW (λσ=>DS F f σ) F 0) (BV λν=>G7 F f ))
def K3 (F:Nat)(x:(List Aa))(v:(List Aa)):Option (Bool):=
 Bf (LP F x v) λr1=>some r1
def HX (F:Nat)(ys:(List (List Aa)))(v:(List Aa))(ha:Int):Option (Stp (Int) (Out (Int) (Unit))):=
 AP (decide (ha<(ys.length:Int))) (AR (Cp ha (ys.length:Int))<|Bf (K3 F (Ax ys ha) v) λhb=>AP (hb) (some (.out (.ret ha))) (AR (BL .i64 (ha+1))<|some (.next (ha+1)))) (some (.out (.go ())))
def Kx :Option (Int):=
 some (-1)
def Ta (F:Nat)(ys:(List (List Aa)))(v:(List Aa)):Option (Int):=
 Bf (BW (λσ=>HX F ys v σ) F 0) (BV λν=>Kx )
def RU (F:Nat)(ys:(List (List Aa)))(v:(List Aa)):Option (Bool):=
 Bf (Ta F ys v) λr1=>some (decide (0≤r1))
def He (F:Nat)(l:(List (List Aa)))(v:(List Aa)):Option (Bool):=
 Bf (RU F l v) λr2=>some r2
def Hc (v:(List Aa))(pre:Ar):Option (Bool):=
 AR (Cp 0 (v.length:Int))<|AR (imp (decide (((Ax v 0).fKind)=4)) ((CJ ((Ax v 0).fStr) pre).isSome))<|some ((decide (((Ax v 0).fKind)=4))&&(ov (CJ ((Ax v 0).fStr) pre)))
def GZ (v:(List Aa))(low:Int)(high:Int):Option (Bool):=
 AR (Cp 0 (v.length:Int))<|some ((decide (((Ax v 0).fKind)=3))&&((decide (low≤((Ax v 0).fInt)))&&(decide (((Ax v 0).fInt)≤high))))
def JX (F:Nat)(f:Af)(v:(List Aa)):Option (Bool):=
 Bf (Nk F v f.fPath) λr2=>AP (!decide (r2.2=0)) (some (decide (f.fOp=2))) (AP (decide (f.fOp=1)) (some true) (AP (decide (f.fOp=3)) (Bf (He F f.fValues r2.1) λha=>some (ha ==(decide (f.fOp=3)))) (AP (decide (f.fOp=4)) (Bf (He F f.fValues r2.1) λhb=>some (hb ==(decide (f.fOp=3)))) (AP (decide (f.fOp=5)) (Bf (Hc r2.1 f.fText) λhe=>some he) (AP (decide (f.fOp=6)) (Bf (GZ r2.1 f.fLow f.fHigh) λhf=>some hf) (some false))))))
def Gc (F:Nat)(f:Af)(v:(List Aa)):Option (Bool):=
 AR ((C3 F f).isSome)<|AR (imp (decide ((ov (C3 F f))=0)) ((CO F v).isSome))<|AR (imp (decide ((ov (C3 F f))=0)) (imp (decide ((ov (CO F v))=0)) ((JX F f v).isSome)))<|some ((decide ((ov (C3 F f))=0))&&((decide ((ov (CO F v))=0))&&(ov (JX F f v))))
def MG (F:Nat)(f:Af)(v:(List Aa)):Option (Bool):=
 Bf (Gc F f v) λr2=>some (!r2)
def MC (F:Nat)(ys:(List Af))(v:(List Aa))(ha:Int):Option (Stp (Int) (Out (Int) (Unit))):=
 AP (decide (ha<(ys.length:Int))) (AR (Cp ha (ys.length:Int))<|Bf (MG F (Ax ys ha) v) λhb=>AP (hb) (some (.out (.ret ha))) (AR (BL .i64 (ha+1))<|some (.next (ha+1)))) (some (.out (.go ())))
def MB :Option (Int):=
 some (-1)
def Vz (F:Nat)(ys:(List Af))(v:(List Aa)):Option (Int):=
 Bf (BW (λσ=>MC F ys v σ) F 0) (BV λν=>MB )
def V0 (F:Nat)(ys:(List Af))(v:(List Aa)):Option (Bool):=
 Bf (Vz F ys v) λr1=>some (decide (0≤r1))
def Ex (ha:Bool):Option (Bool):=
 some ha
def O5 (F:Nat)(l:(List Af))(v:(List Aa)):Option (Bool):=
 AP (decide ((l.length:Int)≤32)) (Bf (CO F v) λha=>AP (decide (ha=0)) (Bf (V0 F l v) λhb=>Ex (!hb)) (Ex false)) (Ex false)
def To (F:Nat)(v:(List Aa))(a:Af):Option (Bool):=
 Bf (He F a.fValues v) λr1=>some (!r1)
def Gy (F:Nat)(ys:(List (List Aa)))(a:Af)(ha:Int):Option (Stp (Int) (Out (Int) (Unit))):=
 AP (decide (ha<(ys.length:Int))) (AR (Cp ha (ys.length:Int))<|Bf (To F (Ax ys ha) a) λhb=>AP (hb) (some (.out (.ret ha))) (AR (BL .i64 (ha+1))<|some (.next (ha+1)))) (some (.out (.go ())))
def Ja :Option (Int):=
 some (-1)
def Pj (F:Nat)(ys:(List (List Aa)))(a:Af):Option (Int):=
 Bf (BW (λσ=>Gy F ys a σ) F 0) (BV λν=>Ja )
def NV (F:Nat)(ys:(List (List Aa)))(a:Af):Option (Bool):=
 Bf (Pj F ys a) λr1=>some (decide (0≤r1))
def Lt (F:Nat)(f:Af)(a:Af):Option (Bool):=
 Bf (NV F f.fValues a) λr2=>some (!r2)
def Tn (F:Nat)(v:(List Aa))(b:Af):Option (Bool):=
 Bf (He F b.fValues v) λr1=>some r1
def Gx (F:Nat)(ys:(List (List Aa)))(b:Af)(ha:Int):Option (Stp (Int) (Out (Int) (Unit))):=
 AP (decide (ha<(ys.length:Int))) (AR (Cp ha (ys.length:Int))<|Bf (Tn F (Ax ys ha) b) λhb=>AP (hb) (some (.out (.ret ha))) (AR (BL .i64 (ha+1))<|some (.next (ha+1)))) (some (.out (.go ())))
def IZ :Option (Int):=
 some (-1)
def Pi (F:Nat)(ys:(List (List Aa)))(b:Af):Option (Int):=
 Bf (BW (λσ=>Gx F ys b σ) F 0) (BV λν=>IZ )
def NU (F:Nat)(ys:(List (List Aa)))(b:Af):Option (Bool):=
 Bf (Pi F ys b) λr1=>some (decide (0≤r1))
def Ls (F:Nat)(f:Af)(b:Af):Option (Bool):=
 Bf (NU F f.fValues b) λr2=>some (!r2)
def Tm (v:(List Aa))(a:Af):Option (Bool):=
 Bf (Hc v a.fText) λr1=>some r1
def Gw (ys:(List (List Aa)))(a:Af)(ha:Int):Option (Stp (Int) (Out (Int) (Unit))):=
 AP (decide (ha<(ys.length:Int))) (AR (Cp ha (ys.length:Int))<|Bf (Tm (Ax ys ha) a) λhb=>AP (hb) (some (.out (.ret ha))) (AR (BL .i64 (ha+1))<|some (.next (ha+1)))) (some (.out (.go ())))
def IY :Option (Int):=
 some (-1)
def Ph (F:Nat)(ys:(List (List Aa)))(a:Af):Option (Int):=
 Bf (BW (λσ=>Gw ys a σ) F 0) (BV λν=>IY )
def NT (F:Nat)(ys:(List (List Aa)))(a:Af):Option (Bool):=
 Bf (Ph F ys a) λr1=>some (decide (0≤r1))
def Lr (F:Nat)(f:Af)(a:Af):Option (Bool):=
 Bf (NT F f.fValues a) λr2=>some (!r2)
def Tl (v:(List Aa))(a:Af):Option (Bool):=
 Bf (GZ v a.fLow a.fHigh) λr1=>some r1
def Gv (ys:(List (List Aa)))(a:Af)(ha:Int):Option (Stp (Int) (Out (Int) (Unit))):=
 AP (decide (ha<(ys.length:Int))) (AR (Cp ha (ys.length:Int))<|Bf (Tl (Ax ys ha) a) λhb=>AP (hb) (some (.out (.ret ha))) (AR (BL .i64 (ha+1))<|some (.next (ha+1)))) (some (.out (.go ())))
def IX :Option (Int):=
 some (-1)
def Pg (F:Nat)(ys:(List (List Aa)))(a:Af):Option (Int):=
 Bf (BW (λσ=>Gv ys a σ) F 0) (BV λν=>IX )
def NS (F:Nat)(ys:(List (List Aa)))(a:Af):Option (Bool):=
 Bf (Pg F ys a) λr1=>some (decide (0≤r1))
def Lq (F:Nat)(f:Af)(a:Af):Option (Bool):=
 Bf (NS F f.fValues a) λr2=>some (!r2)
def Ia (F:Nat)(a:Af)(b:Af):Option (Bool):=
 AP (decide (a.fOp=4)) (Bf (Lt F b a) λr5=>some r5) (AP (decide (a.fOp=3)) (Bf (Ls F a b) λha=>some ha) (AP (decide (a.fOp=5)) (Bf (Lr F b a) λhb=>some hb) (AP (decide (a.fOp=6)) (Bf (Lq F b a) λhe=>some he) (some false))))
def Tk (F:Nat)(v:(List Aa))(b:Af):Option (Bool):=
 Bf (He F b.fValues v) λr1=>some r1
def Ts (F:Nat)(v:(List Aa))(b:Af):Option (Bool):=
 Bf (Tk F v b) λr1=>some (!r1)
def G1 (F:Nat)(ys:(List (List Aa)))(b:Af)(ha:Int):Option (Stp (Int) (Out (Int) (Unit))):=
 AP (decide (ha<(ys.length:Int))) (AR (Cp ha (ys.length:Int))<|Bf (Ts F (Ax ys ha) b) λhb=>AP (hb) (some (.out (.ret ha))) (AR (BL .i64 (ha+1))<|some (.next (ha+1)))) (some (.out (.go ())))
def Jd :Option (Int):=
 some (-1)
def Pn (F:Nat)(ys:(List (List Aa)))(b:Af):Option (Int):=
 Bf (BW (λσ=>G1 F ys b σ) F 0) (BV λν=>Jd )
def NY (F:Nat)(ys:(List (List Aa)))(b:Af):Option (Bool):=
 Bf (Pn F ys b) λr1=>some (decide (0≤r1))
def HL (ha:Bool):Option (Bool):=
 some ha
def NK (F:Nat)(f:Af)(b:Af):Option (Bool):=
 AP (decide (f.fOp=3)) (Bf (NY F f.fValues b) λha=>HL (!ha)) (HL false)
def Tj (v:(List Aa))(b:Af):Option (Bool):=
 Bf (Hc v b.fText) λr1=>some r1
def Tr (v:(List Aa))(b:Af):Option (Bool):=
 Bf (Tj v b) λr1=>some (!r1)
def G0 (ys:(List (List Aa)))(b:Af)(ha:Int):Option (Stp (Int) (Out (Int) (Unit))):=
 AP (decide (ha<(ys.length:Int))) (AR (Cp ha (ys.length:Int))<|Bf (Tr (Ax ys ha) b) λhb=>AP (hb) (some (.out (.ret ha))) (AR (BL .i64 (ha+1))<|some (.next (ha+1)))) (some (.out (.go ())))
def Jc :Option (Int):=
 some (-1)
def Pm (F:Nat)(ys:(List (List Aa)))(b:Af):Option (Int):=
 Bf (BW (λσ=>G0 ys b σ) F 0) (BV λν=>Jc )
def NX (F:Nat)(ys:(List (List Aa)))(b:Af):Option (Bool):=
 Bf (Pm F ys b) λr1=>some (decide (0≤r1))
def HK (ha:Bool):Option (Bool):=
 some ha
def Mh (F:Nat)(f:Af)(b:Af):Option (Bool):=
 AP (decide (f.fOp=3)) (Bf (NX F f.fValues b) λha=>HK (!ha)) (HK false)
def Ti (v:(List Aa))(b:Af):Option (Bool):=
 Bf (GZ v b.fLow b.fHigh) λr1=>some r1
def Tq (v:(List Aa))(b:Af):Option (Bool):=
 Bf (Ti v b) λr1=>some (!r1)
def Gz (ys:(List (List Aa)))(b:Af)(ha:Int):Option (Stp (Int) (Out (Int) (Unit))):=
 AP (decide (ha<(ys.length:Int))) (AR (Cp ha (ys.length:Int))<|Bf (Tq (Ax ys ha) b) λhb=>AP (hb) (some (.out (.ret ha))) (AR (BL .i64 (ha+1))<|some (.next (ha+1)))) (some (.out (.go ())))
def Jb :Option (Int):=
 some (-1)
def Pk (F:Nat)(ys:(List (List Aa)))(b:Af):Option (Int):=
 Bf (BW (λσ=>Gz ys b σ) F 0) (BV λν=>Jb )
def NW (F:Nat)(ys:(List (List Aa)))(b:Af):Option (Bool):=
 Bf (Pk F ys b) λr1=>some (decide (0≤r1))
def HJ (ha:Bool):Option (Bool):=
 some ha
def Lv (F:Nat)(f:Af)(b:Af):Option (Bool):=
 AP (decide (f.fOp=3)) (Bf (NW F f.fValues b) λha=>HJ (!ha)) (HJ false)
def D4 (ha:Bool):Option (Bool):=
 some ha
def Dd (ha:Bool):Option (Bool):=
 some ha
def HG (F:Nat)(a:Af)(b:Af):Option (Bool):=
 AP (decide (b.fOp=1)) (some (!decide (a.fOp=2))) (AP (decide (b.fOp=2)) (some (decide (a.fOp=2))) (AP (decide (b.fOp=3)) (Bf (NK F a b) λha=>some ha) (AP (decide (b.fOp=4)) (Bf (Ia F a b) λhb=>some hb) (AP (decide (b.fOp=5)) (AP (decide (a.fOp=5)) (Bf (CJ a.fText b.fText) λhe=>AP (he) (D4 true) (Bf (Mh F a b) λhf=>D4 hf)) (Bf (Mh F a b) λhg=>D4 hg)) (AP (decide (a.fOp=6)) (AP (decide (b.fLow≤a.fLow)) (AP (decide (a.fHigh≤b.fHigh)) (Dd true) (Bf (Lv F a b) λhh=>Dd hh)) (Bf (Lv F a b) λhi=>Dd hi)) (Bf (Lv F a b) λhj=>Dd hj))))))
def G4 (F:Nat)(long:(List Ar))(short:(List Ar)):Option (Bool):=
 AR (imp (decide ((short.length:Int)<(long.length:Int))) (EB (short.length:Int) (long.length:Int)))<|AR (imp (decide ((short.length:Int)<(long.length:Int))) ((DD F (List.take (Int.toNat (short.length:Int)) long) short).isSome))<|some ((decide ((short.length:Int)<(long.length:Int)))&&(ov (DD F (List.take (Int.toNat (short.length:Int)) long) short)))
def Cs (F:Nat)(a:Af)(b:Af):Option (Bool):=
 AR ((C3 F a).isSome)<|AR (imp (!(!decide ((ov (C3 F a))=0))) ((C3 F b).isSome))<|AP (((!decide ((ov (C3 F a))=0))||(!decide ((ov (C3 F b))=0)))) (some false) (Bf (DD F a.fPath b.fPath) λha=>AP (ha) (Bf (HG F a b) λhb=>some hb) (Bf (G4 F a.fPath b.fPath) λhe=>AP (he) (some ((decide (b.fOp=1))&&(!decide (a.fOp=2)))) (Bf (G4 F b.fPath a.fPath) λhf=>AP (hf) (some ((decide (a.fOp=2))&&(decide (b.fOp=2)))) (some false))))
end Go.Proofs.YtghdglcmblpbeaaGreatDoor
namespace Go.Proofs.YtghdglcmblpbeaaGreatDoor.Q
open Go Go.RowKit
set_option linter.unusedVariables false
set_option linter.unusedSimpArgs false
section
variable {P : Program} {n : Nat} {c : Cx} {opsA : Array Oper} {Q : Exit → Act → World → Prop} {l : Fr} {H : List Ent} {d : Nat} {ty : TypeId} {pos : String} {af : Array Edge}
end
section
variable {P : Program} {n : Nat} {c : Cx} {ops : Array Oper} {Q : Exit → Act → World → Prop} {rest : List Oper} {l : Fr} {H H' : List Ent} {d : Nat} {d' : Option Nat} {x y z3 : Operand} {ty t t' e : TypeId} {pos : String} {af : Array Edge} {g : Option (Nat × Bool)} {v u : Value} {r : Rp} {sz : Nat}
theorem Ox {α:Type}{ys:List α}{enc:α→List Rp}{k':IntKind}{j:Int}(ht:P.underlying t=some (.slice e))(hz:∀w,(sizeOf e).run P w = .ok sz w)(h:ev l x=some (AE sz (ys.map enc)))(hj:ev l z3=some (rI k' j))(hg2:EB j (ys.length:Int)=true) :
  Bn P n c l H { dst:=d',op:=.slice t x none (some z3) none,type:=ty,pos:=pos,after:=af,guard:=g } (AE sz ((ys.take j.toNat).map enc)):=λa w Z ha hw=>by
 obtain⟨A,cap,e1,hc1,hc2,hA,hc⟩:=ha.ev h;have h2:=(CF hg2).2;have hj0:0≤j:=(CF hg2).1;simp only[VS] at e1 hc1;have h3:j≤(cap:Int):=by omega
 refine⟨.slice (if cap=0 then A else A.map (·.add (0*sz))) j.toNat cap,⟨if cap=0 then A else A.map (·.add (0*sz)),cap,?_,?_,by omega,?_,λq cl hq=>?_⟩,by simp[execOp,e1,ha.eval hj,Instr.sliceAt,Instr.slice,run_underlying ht,Instr.sliceBounds,Bw (m:=cap) _ _ hj0 h3,hz]⟩
 ·congr 1
  simp;omega
 ·simp;omega
 ·intro hn
  split at hn
  ·have:=hA hn;omega
  ·have:=hA (by simpa using hn);omega
 ·rw[Wt] at hq
  cases hq':(List.take j.toNat ys)[q]? with
  | none=>rw[hq'] at hq;cases hq
  | some yy=>
   rw[hq'] at hq;simp only[Option.map_some,Option.some.injEq] at hq;subst hq;rw[Wp] at hq'
   split at hq'
   ·rename_i hlt
    obtain⟨hl,ad,rfl,hs,hcs⟩:=hc q (enc yy) (by simp[hq']);obtain⟨b,off,spot⟩:=ad;simp only at hs;subst hs;have hne : ¬ cap=0:=by omega
    refine⟨hl,⟨b,off+0*sz,none⟩,by simp[hne,H3],rfl,λq' r' hr'=>?_⟩;obtain⟨u,hu,hp⟩:=hcs q' r' hr';refine⟨u,?_,hp⟩;have:off+0*sz+(q*sz+q')=off+(q*sz+q'):=by omega
    simp only;rw[this];exact hu
   ·cases hq'
end
end Go.Proofs.YtghdglcmblpbeaaGreatDoor.Q
namespace Go.Proofs.YtghdglcmblpbeaaGreatDoor
open Go
set_option linter.unusedVariables false
set_option linter.unusedSimpArgs false
section
variable {T S : Type}
def SS:List (Ar×T)→Ar→Option T
 | [],_=>none
 | p::r,k=>bif decide (p.1=k) then some p.2 else SS r k
def TY (xs:List (Ar×T))(k:Ar):Bool:=(SS xs k).isSome
def UW (k:Ar)(v:T):List (Ar×T)→List (Ar×T)
 | []=>[(k,v)]
 | p::r=>bif CH k p.1 then(k,v)::p::r else p::UW k v r
def LJ (xs:List (Ar×T))(k:Ar)(v:T):List (Ar×T):=xs.map λp=>bif decide (p.1=k) then(k,v) else p
def UV (xs:List (Ar×T))(k:Ar)(v:T):List (Ar×T):=bif TY xs k then LJ xs k v else UW k v xs
end
end Go.Proofs.YtghdglcmblpbeaaGreatDoor
namespace Go.Proofs.YtghdglcmblpbeaaGreatDoor.Q
open Go Go.RowKit
set_option linter.unusedVariables false
set_option linter.unusedSimpArgs false
theorem Qe (s:ByteArray):MapKept.IsKey .string (.string s):=by simp[MapKept.IsKey]
theorem LO.keys {Z:Fz}:∀{f:List (List UInt8×Rp)} {es:List MapEntry},LO Z f es→∀x∈es,MapKept.IsKey .string x.key
 | [],[],_,x,hx=>by cases hx
 | p::f,e::es,⟨⟨h1,h2⟩,h3⟩,x,hx=>by
  rcases List.mem_cons.1 hx with rfl | hx
  ·rw[h1];exact Qe _
  ·exact LO.keys h3 x hx
theorem LO.at {Z:Fz}:∀{f:List (List UInt8×Rp)} {es:List MapEntry},LO Z f es→f.length=es.length∧∀(j:Nat) (e:MapEntry),es[j]? =some e→∃k r,f[j]? =some (k,r)∧e.key = .string (B k)∧r.p Z e.val
 | [],[],_=>⟨rfl,λj e h=>by simp at h⟩
 | p::f,e::es,⟨⟨h1,h2⟩,h3⟩=>by
  obtain⟨hl,ha⟩:=LO.at h3;refine⟨by simp[hl],λj e' hj=>?_⟩
  cases j with
  | zero=>simp at hj;subst hj;exact⟨p.1,p.2,rfl,h1,h2⟩
  | succ j=>simp at hj;simpa using ha j e' hj
theorem LO.of {Z:Fz}:∀{f:List (List UInt8×Rp)} {es:List MapEntry},f.length=es.length→(∀(j:Nat) (e:MapEntry),es[j]? =some e→∃k r,f[j]? =some (k,r)∧e.key = .string (B k)∧r.p Z e.val)→LO Z f es
 | [],[],_,_=>trivial
 | p::f,e::es,hl,h=>by
  obtain⟨k,r,h1,h2,h3⟩:=h 0 e rfl;simp at h1;subst h1;exact⟨⟨h2,h3⟩,LO.of (by simpa using hl) λj e' hj=>by simpa using h (j+1) e' (by simpa using hj)⟩
 | [],_::_,hl,_=>by simp at hl
 | _::_,[],hl,_=>by simp at hl
theorem LO.filter {Z:Fz}(q:MapEntry→Bool):∀{f:List (List UInt8×Rp)} {es:List MapEntry},LO Z f es→∃g,LO Z g (es.filter q)∧g.Sublist f
 | [],[],_=>⟨[],trivial,List.Sublist.refl _⟩
 | p::f,e::es,⟨h,h3⟩=>by
  obtain⟨g,hg,hs⟩:=LO.filter q h3
  cases hq:q e with
  | true=>exact⟨p::g,by rw[List.filter_cons_of_pos hq];exact⟨h,hg⟩,hs.cons_cons p⟩
  | false=>exact⟨g,by rw[List.filter_cons_of_neg (by simp[hq])];exact hg,hs.cons p⟩
theorem Vk {a b:List UInt8}(h:B a=B b):a=b:=by
 have:=congrArg ByteArray.toList h
 rwa [DI,DI] at this
theorem QX {a b:List UInt8}(h:Value.string (B a) = .string (B b)):a=b:=Vk (by cases h;rfl)
section
variable {P : Program} {n : Nat} {c : Cx} {ops : Array Oper} {Q : Exit → Act → World → Prop} {rest : List Oper} {l : Fr} {H : List Ent} {d : Nat} {d' : Option Nat} {ty t kt et rty : TypeId} {pos : String} {af : Array Edge} {g : Option (Nat × Bool)} {x y u : Operand} {K : Act → World → Prop} {cx : Code}
variable {T : Type} {enc : T → Rp} {xs : List (Ar × T)} {z : T} {k : Ar} {zv : Value} {i b : Nat}
theorem In.length {Z:Fz}{m:List (List UInt8×Rp)}{es:List MapEntry}{ck:Nat}(h:In Z m es ck):es.length=m.length:=by
 obtain⟨_,_,_,f,h4,h5⟩:=h;rw[← h5.at.1,h4.length_eq]
theorem Rl {m f:List (Ar×Rp)}(h:f.Perm m)(k:Ar)(r:Rp):(LJ f k r).Perm (LJ m k r):=h.map _
theorem Pc {T:Type}:∀{f:List (Ar×T)} {j:Nat} {k:Ar} {r0:T} (r:T),(f.map (·.1)).Nodup→f[j]? =some (k,r0)→LJ f k r=f.set j (k,r)
 | p::f,0,k,r0,r,hn,h=>by
  simp at h;subst h;rw[W2,List.nodup_cons] at hn;have:LJ f k r=f:=by
   unfold LJ;rw[List.map_congr_left (g:=id) (λq hq=>?_),List.map_id];have hne : ¬ q.1=k:=λe=>hn.1 (by rw[← e];exact List.mem_map.2 ⟨q,hq,rfl⟩);rw[VL hne];rfl
  show(bif decide (k=k) then(k,r) else(k,r0))::LJ f k r=_;rw[VN rfl,this];rfl
 | p::f,j+1,k,r0,r,hn,h=>by
  rw[W2,List.nodup_cons] at hn;simp at h;have hne : ¬ p.1=k:=λe=>hn.1 (by rw[e];exact List.mem_map.2 ⟨(k,r0),VX h,rfl⟩);show(bif decide (p.1=k) then(k,r) else p)::LJ f k r=_;rw[VL hne,Pc r hn.2 h];rfl
theorem Qa {T:Type}(m:List (Ar×T))(k:Ar)(r:T):(LJ m k r).map (·.1)=m.map (·.1):=by
 unfold LJ;rw[List.map_map];refine List.map_congr_left λp _=>?_;simp only[Function.comp]
 by_cases h:p.1=k
 ·rw[VN h];exact h.symm
 ·rw[VL h];rfl
theorem Qb {T:Type}{m:List (Ar×T)}{k:Ar}{r:T}(h:SS m k=some r):TY m k=true:=by unfold TY;rw[h];rfl
theorem In.put {Z:Fz}{m:List (Ar×Rp)}{es:List MapEntry}{ck j:Nat}{e:MapEntry}{k:Ar}{r0 r:Rp}{v:Value}(h:In Z m es ck)(he:es[j]? =some e)(hk:e.key = .string (B k))(hm:SS m k=some r0)(hr:r.p Z v) :
  In Z (UV m k r) (es.set j { e with key:=.string (B k),val:=v }) ck:=by
 obtain⟨h1,h2,h3,f,h4,h5⟩:=h;obtain⟨hl,ha⟩:=h5.at;have hjl:=(List.getElem?_eq_some_iff.1 he).1;unfold UV;rw[Qb hm,VR];obtain⟨k',r',e1,e2,_⟩:=ha j e he;rw[hk] at e2;obtain rfl:=QX e2;have hfn:(f.map (·.1)).Nodup:=(h4.map (·.1)).nodup_iff.2 h1;refine⟨by rw[Qa];exact h1,?_,?_,f.set j (k,r),?_,LO.of (by simp[hl]) λi x hx=>?_⟩
 ·rw[List.map_set];have:(es.map (·.born)).set j e.born=es.map (·.born):=by
   apply List.ext_getElem?;intro i;rw[List.getElem?_set]
   split
   ·rename_i hij;subst hij
    simp[hjl,List.getElem?_eq_some_iff.1 he |>.2]
   ·rfl
  show((es.map (·.born)).set j e.born).Nodup;rw[this];exact h2
 ·intro x hx;rcases List.mem_or_eq_of_mem_set hx with hx | rfl
  ·exact h3 x hx
  ·exact h3 e (VX he)
 ·have:=Rl h4 k r
  rwa [Pc r hfn e1] at this
 ·rw[List.getElem?_set] at hx ⊢
  split at hx
  ·rename_i hij;subst hij
   cases hx
   exact⟨k,r,by rw[if_pos rfl,if_pos (by rw[hl];exact hjl)],rfl,hr⟩
  ·rename_i hij
   rw[W1 hij];exact ha i x hx
end
theorem AZ.d1 {Z:Fz}{r0:Rp}{us:List Value}(h:AZ Z [r0] us):∃y0,us=[y0]∧AZ Z [r0] [y0]:=by
 match us,h.length with
 | [y0],_=>exact⟨_,rfl,h⟩
theorem AZ.d2 {Z:Fz}{r0 r1:Rp}{us:List Value}(h:AZ Z [r0,r1] us):∃y0 y1,us=[y0,y1]∧AZ Z [r0,r1] [y0,y1]:=by
 match us,h.length with
 | [y0,y1],_=>exact⟨_,_,rfl,h⟩
section
variable {P : Program} {n : Nat} {c : Cx} {ops : Array Oper} {Q : Exit → Act → World → Prop} {rest : List Oper} {l : Fr} {H H' : List Ent} {d : Nat} {d' : Option Nat} {ty t e rty : TypeId} {pos : String} {af : Array Edge} {g : Option (Nat × Bool)} {x y u : Operand} {v : Value} {sz m : Nat}
end
end Go.Proofs.YtghdglcmblpbeaaGreatDoor.Q
namespace Go.Proofs.YtghdglcmblpbeaaGreatDoor
open Go
end Go.Proofs.YtghdglcmblpbeaaGreatDoor
namespace Go.Proofs.YtghdglcmblpbeaaGreatDoor.Q
open Go Go.RowKit
set_option linter.unusedVariables false
set_option linter.unusedSimpArgs false
section
variable {P : Program} {n : Nat} {c : Cx} {Q : Exit → Act → World → Prop} {l : Fr} {H : List Ent} {x rest' : Code} {K : Act → World → Prop}
end
section
variable {P : Program} {n : Nat} {c : Cx} {ops : Array Oper} {Q : Exit → Act → World → Prop} {rest : List Oper} {l : Fr} {H H' : List Ent} {d : Nat} {d' : Option Nat} {x y z3 z4 : Operand} {ty t t' e : TypeId} {pos : String} {af : Array Edge} {g : Option (Nat × Bool)} {v u : Value} {r : Rp} {sz : Nat}
end
structure Sx (U:Type) where
 deps:List Nat
 r:U→Rp
 dyn:Bool:=false
 old:List Nat:=[]
def Q5 {U:Type}(sp:List (Sx U))(i:Nat):Sx U:=sp.getD i { deps:=[],r:=λ_=>rv undef }
def Vm {U:Type}(sp:List (Sx U))(u:U):List Sp:=sp.map λs=>⟨s.deps,s.r u,0⟩
def T9 {U:Type}:List (Sx U)→Prop
 | []=>True
 | s::r=>(s.dyn=false→∀u u',s.r u=s.r u')∧T9 r
theorem T9.at {U:Type}:∀{sp:List (Sx U)},T9 sp→∀{i:Nat} {s:Sx U},sp[i]? =some s→s.dyn=false→∀u u',s.r u=s.r u'
 | [],_,i,s,h=>by simp at h
 | x::sp,⟨h1,h2⟩,0,s,h=>by simp at h;subst h;exact h1
 | x::sp,⟨h1,h2⟩,i+1,s,h=>T9.at h2 (by simpa using h)
def IP (lw:Fr):List Nat→Fr→Fr
 | [],l=>l
 | d::r,l=>match look lw d with
  | some q=>(d,q)::IP lw r l
  | none=>IP lw r l
section
variable (P : Program) (n : Nat) (c : Cx) (opsA : Array Oper) (Q : Exit → Act → World → Prop)
def VA {U:Type}(l:Fr)(H:List Ent)(o:Oper)(r:U→Rp)(H1:U→List Ent):Prop:=
 ∀a w Z (K:Act→World→Prop),CB n l a Z→St c H Z w→(∀u v w' Z',Fz.le Z Z'→(r u).p Z' v→St c (H1 u) Z' w'→K (a.put o.dst v) w')→
  Region.wanted o (yielded opsA a.tmps)=true∧o.wp P a w K Q
def TC {U:Type}(ops:List Oper)(sp:List (Sx U))(l0 lw:Fr)(i0:Nat)(H:List Ent)(H1:U→List Ent):Nat→List Oper→Prop
 | i,o::rest=>(if i=i0 then(∀u,VA P n c opsA Q (IP lw (Q5 sp i).old (BP ops (Vm sp u) (Q5 sp i).deps l0)) H o (Q5 sp i).r H1) else ∀u H,DH P n c opsA Q (IP lw (Q5 sp i).old (BP ops (Vm sp u) (Q5 sp i).deps l0)) H o ((Q5 sp i).r u) H)∧TC ops sp l0 lw i0 H H1 (i+1) rest
 | _,[]=>True
end
section
variable {P : Program} {n : Nat} {c : Cx} {opsA : Array Oper} {Q : Exit → Act → World → Prop} {l l0 lw : Fr} {U : Type} {H : List Ent} {H1 : U → List Ent} {sp : List (Sx U)} {i0 : Nat}
theorem TC.at {ops:List Oper}:∀{k:Nat} {rest:List Oper},TC P n c opsA Q ops sp l0 lw i0 H H1 k rest→∀(t:Nat) o,rest[t]? =some o→
  (if k+t=i0 then(∀u,VA P n c opsA Q (IP lw (Q5 sp (k+t)).old (BP ops (Vm sp u) (Q5 sp (k+t)).deps l0)) H o (Q5 sp (k+t)).r H1) else ∀u H,DH P n c opsA Q (IP lw (Q5 sp (k+t)).old (BP ops (Vm sp u) (Q5 sp (k+t)).deps l0)) H o ((Q5 sp (k+t)).r u) H)
 | k,o::rest,⟨h1,h2⟩,t,o',ht=>by
  cases t with
  | zero=>simp at ht;subst ht;exact h1
  | succ t=>
   have:=TC.at h2 t o' (by simpa using ht);rw[show k+(t+1)=k+1+t from by omega];exact this
 | _,[],_,t,o,h=>by simp at h
end
section
variable {P : Program} {n : Nat} {c : Cx} {opsA : Array Oper} {Q : Exit → Act → World → Prop} {l : Fr} {H : List Ent} {d : Nat} {x y : Operand} {ty t e : TypeId} {pos : String} {af : Array Edge} {v : Value} {sz : Nat}
end
abbrev Ux:=Nat→Nat→Value×Nat
def Ag (k:Nat)(u u':Ux):Prop:=∀j,j<k→u j=u' j
structure Sy where
 deps:List Nat
 r:Ux→Rp
 lv:Nat:=0
 fx:Bool:=false
 old:List Nat:=[]
def Q4 (sp:List Sy)(i:Nat):Sy:=sp.getD i { deps:=[],r:=λ_=>rv undef }
def Vw (sp:List Sy)(u:Ux):List Sp:=sp.map λs=>⟨s.deps,s.r u,0⟩
def P1:List Sy→Prop
 | []=>True
 | s::r=>(∀u u',Ag s.lv u u'→s.r u=s.r u')∧P1 r
theorem P1.at:∀{sp:List Sy},P1 sp→∀{i:Nat} {s:Sy},sp[i]? =some s→∀u u',Ag s.lv u u'→s.r u=s.r u'
 | [],_,i,s,h=>by simp at h
 | x::sp,⟨h1,h2⟩,0,s,h=>by simp at h;subst h;exact h1
 | x::sp,⟨h1,h2⟩,i+1,s,h=>P1.at h2 (by simpa using h)
def cnt (S:Nat→Bool)(is:List Nat):Nat:=(is.filter S).length
section
variable (P : Program) (n : Nat) (c : Cx) (opsA : Array Oper) (Q : Exit → Act → World → Prop)
def VC (l:Fr)(H:List Ent)(o:Oper)(k:Nat)(u:Ux)(r:Ux→Rp)(H1:Ux→List Ent):Prop:=
 ∀a w Z (K:Act→World→Prop),CB n l a Z→St c H Z w→(∀u' v w' Z',Ag k u u'→Fz.le Z Z'→(r u').p Z' v→St c (H1 u') Z' w'→K (a.put o.dst v) w')→
  Region.wanted o (yielded opsA a.tmps)=true∧o.wp P a w K Q
def VB (ops:List Oper)(sp:List Sy)(l0 lw:Fr)(is:List Nat)(hs:List (Ux→List Ent))(i:Nat)(o:Oper):Prop:=
 match is.findIdx? (λx=>Nat.beq x i) with
 | some k=>∀u,VC P n c opsA Q (IP lw (Q4 sp i).old (BP ops (Vw sp u) (Q4 sp i).deps l0)) (hs.getD k (λ_=>[]) u) o k u (Q4 sp i).r (hs.getD (k+1) (λ_=>[]))
 | none=>if (Q4 sp i).fx=true then ∀u,DH P n c opsA Q (IP lw (Q4 sp i).old (BP ops (Vw sp u) (Q4 sp i).deps l0)) (hs.getD (Q4 sp i).lv (λ_=>[]) u) o ((Q4 sp i).r u) (hs.getD (Q4 sp i).lv (λ_=>[]) u)
  else ∀u H,DH P n c opsA Q (IP lw (Q4 sp i).old (BP ops (Vw sp u) (Q4 sp i).deps l0)) H o ((Q4 sp i).r u) H
def TB (ops:List Oper)(sp:List Sy)(l0 lw:Fr)(is:List Nat)(hs:List (Ux→List Ent)):Nat→List Oper→Prop
 | i,o::rest=>VB P n c opsA Q ops sp l0 lw is hs i o∧TB ops sp l0 lw is hs (i+1) rest
 | _,[]=>True
end
section
variable {P : Program} {n : Nat} {c : Cx} {opsA : Array Oper} {Q : Exit → Act → World → Prop} {l l0 lw : Fr} {H : List Ent} {hs : List (Ux → List Ent)} {sp : List Sy} {is : List Nat}
theorem TB.at {ops:List Oper}:∀{k:Nat} {rest:List Oper},TB P n c opsA Q ops sp l0 lw is hs k rest→∀(t:Nat) o,rest[t]? =some o→VB P n c opsA Q ops sp l0 lw is hs (k+t) o
 | k,o::rest,⟨h1,h2⟩,t,o',ht=>by
  cases t with
  | zero=>simp at ht;subst ht;exact h1
  | succ t=>
   have:=TB.at h2 t o' (by simpa using ht);rw[show k+(t+1)=k+1+t from by omega];exact this
 | _,[],_,t,o,h=>by simp at h
end
section
variable {P : Program} {n : Nat} {c : Cx} {opsA : Array Oper} {Q : Exit → Act → World → Prop} {l : Fr} {H : List Ent} {d : Nat} {x y : Operand} {ty t e : TypeId} {pos : String} {af : Array Edge} {v : Value} {sz : Nat}
end
set_option maxRecDepth 100000
set_option maxHeartbeats 4000000
@[reducible] def Ad (x:Af):List Rp:=[AE 1 (A3 eS x.fPath),Ai x.fOp,AE 1 (A3 Ae x.fValues),rS x.fText,Ai x.fLow,Ai x.fHigh]
theorem Oo (F:Nat)(ys:(List Ar))(x:Ar)(r:Int)(h:KQ F ys x=some r):Fn Tryz.prog GE 57 [AE 1 (A3 eS ys),rS x] [] (λR H=>R=Ai r∧H=[]):=by
 refine enter (n:=19) Tryz.func57 rfl Tryz.ntmps57 rfl (λw Z=>?_);unfold KQ at h;refine Ah (wa rfl (Al (Ao (Ah (wm rfl (wv (AL (ys:=ys) (enc:=eS) CR rfl) (wv (r:=Ai 0) (A4 rfl) (Al (AB (ob h λhh hi hg=>Bi (S:=Nat×(Int)×(Unit)) (V:=(Unit)×(Unit)) 0 (λσ=>BW (λσ=>EF ys x σ) σ.1 σ.2.1=some hh) (λσ=>[(0,AE 1 (A3 eS ys)),(1,rS x),(7,Ai (ys.length:Int)),(8,Ai σ.2.1)]) (λσ=>[]) (λσ=>σ.1) (F,0,()) hi (A5.c rfl (A5.c rfl (A5.c rfl (A5.c rfl A5.nil)))) sN (λσ=>EE =some r) (λσ=>[]) (λσ=>[]) ?_ ?_))))))))))
 ·rintro⟨h0,he,⟨⟩⟩ hj;refine B3 (l':=[(0,AE 1 (A3 eS ys)),(1,rS x),(7,Ai (ys.length:Int)),(8,Ai he)]) (H':=[]) rfl rfl ?_;obtain⟨hk,rfl,hl,ha,hf⟩:=Ch hj;replace ha:EF ys x he=some hl:=ha;unfold EF at ha;refine Ah (wv (Cr rfl rfl) (Al (Ao (cz ha rfl (λhm hn=>?_) (λhm ho=>?_)))))
  ·refine Av (AH (Ao (AB (Ah (wm rfl (wa rfl (AX (wm rfl (wm rfl (wm rfl (ck hn λhp hq=>wv (AU (enc:=eS) (ys:=ys) CR CE rfl rfl hp) (wv (AJ CP rfl rfl) (wv (Hq rfl rfl) (Al (cz hq rfl (λhr hs=>?_) (λhr ht=>?_))))))))))))))))
   ·refine Ah (wm rfl (wa rfl (Al (Aq (An (Ac (Ac (AN ?_))))))));have hu:=Bh hs hf hg;refine An (Ac ?_);obtain rfl:=Am hu;exact Ap (By Tryz.results57 (A9 rfl)) sN ⟨rfl,rfl⟩
   ·refine Av (A8 (AH (Ak (ck ht λhw hx=>wv (Bk rfl rfl hw) (wm rfl (Aj ?_))))));have hy:=Bc hx hf;exact As (At (hk,he+1,()) ⟨hy,VO _⟩ (A5.c rfl (A5.c rfl (A5.c rfl (A5.c rfl A5.nil)))) sN)
  ·refine Bs (A0 ?_);have hz:=BF ho hf hg;exact A0 (AS (At ((),()) hz A5.nil sN))
 ·rintro⟨⟨⟩,⟨⟩⟩ hb;refine Cj (l':=[]) (H':=[]) rfl rfl ?_;replace hb:EE =some r:=hb;unfold EE at hb;refine AW (AH (Ah (wv (r:=Ai (-1)) (AD rfl) (Al (Aq ?_)))));obtain rfl:=Am hb;exact Ap (By Tryz.results57 (A9 rfl)) sN ⟨rfl,rfl⟩
theorem KR (F:Nat)(a:(List Ar))(b:(List Ar))(r:Bool)(h:DD F a b=some r):Fn Tryz.prog GE 65 [AE 1 (A3 eS a),AE 1 (A3 eS b)] [] (λR H=>R=rB r∧H=[]):=by
 refine enter (n:=26) Tryz.func65 rfl Tryz.ntmps65 rfl (λw Z=>?_);unfold DD at h;refine Ah (wa rfl (Al (Ao (Ah (wm rfl (wv (AL (ys:=a) (enc:=eS) CR rfl) (wm rfl (wv (AL (ys:=b) (enc:=eS) CR rfl) (wv (Bg rfl rfl) (Al (cz h rfl (λc1 h2=>?_) (λc1 h3=>?_))))))))))))
 ·refine Ah (wa rfl (Al (Aq (Ac ?_))));obtain rfl:=Am h2;exact Ap (By Tryz.results65 (A9 rfl)) sN ⟨rfl,rfl⟩
 ·refine Av (AH (Ao (Ah (wm rfl (wv (AL (ys:=a) (enc:=eS) CR rfl) (wv (r:=Ai 0) (A4 rfl) (Al (AB (ob h3 λhh hi hg=>Bi (S:=Nat×(Int)×(Unit)) (V:=(Unit)×(Unit)) 0 (λσ=>BW (λσ=>C9 a b σ) σ.1 σ.2.1=some hh) (λσ=>[(0,AE 1 (A3 eS a)),(1,AE 1 (A3 eS b)),(12,Ai (a.length:Int)),(13,Ai σ.2.1)]) (λσ=>[]) (λσ=>σ.1) (F,0,()) hi (A5.c rfl (A5.c rfl (A5.c rfl (A5.c rfl A5.nil)))) sN (λσ=>Eb =some r) (λσ=>[]) (λσ=>[]) ?_ ?_)))))))))
  ·rintro⟨h4,ha,⟨⟩⟩ hj;refine B3 (l':=[(0,AE 1 (A3 eS a)),(1,AE 1 (A3 eS b)),(12,Ai (a.length:Int)),(13,Ai ha)]) (H':=[]) rfl rfl ?_;obtain⟨hk,rfl,hl,hb,hf⟩:=Ch hj;replace hb:C9 a b ha=some hl:=hb;unfold C9 at hb;refine Ah (wv (Cr rfl rfl) (Al (Ao (cz hb rfl (λhm hn=>?_) (λhm ho=>?_)))))
   ·refine Av (AH (Ao (AB (Ah (wm rfl (wa rfl (Al (Ao (ck hn λhp hq=>ck hq λhr hs=>Cz [0,1,5,12,13] [⟨[],AE 1 (A3 eS a),0⟩,⟨[],Ai ha,0⟩,⟨[0,1],Jm [rS (Ax a ha)],0⟩,⟨[2],rS (Ax a ha),0⟩,⟨[],AE 1 (A3 eS b),0⟩,⟨[],Ai ha,0⟩,⟨[4,5],Jm [rS (Ax b ha)],0⟩,⟨[6],rS (Ax b ha),0⟩,⟨[3,7],rB (!decide ((Ax a ha)=(Ax b ha))),0⟩] [24,0,1,12,13] ?_ ?_)))))))))
    ·refine oq (A4 rfl) (oq (A4 rfl) (oq (AU (enc:=eS) (ys:=a) CR CE rfl rfl hp) (oq (AJ CP rfl rfl) (oq (A4 rfl) (oq (A4 rfl) (oq (AU (enc:=eS) (ys:=b) CR CE rfl rfl hr) (oq (AJ CP rfl rfl) (oq (Ed rfl rfl) ?_))))))));exact Cd
    refine AH (cz hs rfl (λht hu=>?_) (λht hw=>?_))
    ·refine Ah (wa rfl (Al (Aq (An (Ac (Ac (AN ?_)))))));have hx:=Bh hu hf hg;refine An (Ac ?_);obtain rfl:=Am hx;exact Ap (By Tryz.results65 (A9 rfl)) sN ⟨rfl,rfl⟩
    ·refine Av (A8 (AH (Ak (ck hw λhy hz=>wv (Bk rfl rfl hy) (wm rfl (Aj ?_))))));have h0:=Bc hz hf;exact As (At (hk,ha+1,()) ⟨h0,VO _⟩ (A5.c rfl (A5.c rfl (A5.c rfl (A5.c rfl A5.nil)))) sN)
   ·refine Bs (A0 ?_);have h1:=BF ho hf hg;exact A0 (AS (At ((),()) h1 A5.nil sN))
  ·rintro⟨⟨⟩,⟨⟩⟩ he;refine Cj (l':=[]) (H':=[]) rfl rfl ?_;replace he:Eb =some r:=he;unfold Eb at he;refine AW (AH (Ah (wa rfl (Al (Aq ?_)))));obtain rfl:=Am he;exact Ap (By Tryz.results65 (A9 rfl)) sN ⟨rfl,rfl⟩
theorem NG  (r:(List Ar))(h:MF=some r):Fn Tryz.prog GE 45 [] [] (λR H=>R=AE 1 (A3 eS r)∧H=[]):=by
 refine enter (n:=2) Tryz.func45 rfl Tryz.ntmps45 rfl (λw Z=>?_);unfold MF at h;refine Ah (wa rfl (AX (AO (ys:=([([]:Ar),([101,120,105,115,116,115]:Ar),([109,105,115,115,105,110,103]:Ar),([101,113,117,97,108,115]:Ar),([111,116,104,101,114]:Ar),([112,114,101,102,105,120]:Ar),([114,97,110,103,101]:Ar)]:List Ar)) (enc:=eS) (css:=[[rS ([]:Ar)],[rS ([101,120,105,115,116,115]:Ar)],[rS ([109,105,115,115,105,110,103]:Ar)],[rS ([101,113,117,97,108,115]:Ar)],[rS ([111,116,104,101,114]:Ar)],[rS ([112,114,101,102,105,120]:Ar)],[rS ([114,97,110,103,101]:Ar)]]) (xs:=[.const (.string ⟨#[]⟩),.const (.string ⟨#[101,120,105,115,116,115]⟩),.const (.string ⟨#[109,105,115,115,105,110,103]⟩),.const (.string ⟨#[101,113,117,97,108,115]⟩),.const (.string ⟨#[111,116,104,101,114]⟩),.const (.string ⟨#[112,114,101,102,105,120]⟩),.const (.string ⟨#[114,97,110,103,101]⟩)]) CR CE UD rfl rfl rfl ⟨DX.one rfl (Up.refl _),DX.one rfl (Up.refl _),DX.one rfl (Up.refl _),DX.one rfl (Up.refl _),DX.one rfl (Up.refl _),DX.one rfl (Up.refl _),DX.one rfl (Up.refl _),trivial⟩ rfl HM rfl rfl rfl (λb1=>?_))));refine wa rfl (Al (Aq (WK.freeze (i:=0) rfl (WK.up (d:=0) (r:=AE 1 (A3 eS ([([]:Ar),([101,120,105,115,116,115]:Ar),([109,105,115,115,105,110,103]:Ar),([101,113,117,97,108,115]:Ar),([111,116,104,101,114]:Ar),([112,114,101,102,105,120]:Ar),([114,97,110,103,101]:Ar)]:List Ar))) rfl (Up.fact (i:=0) rfl) ?_))));obtain rfl:=Am h;exact Ap (By Tryz.results45 (A9 rfl)) (sS sN) ⟨rfl,rfl⟩
theorem G3 (op:Int)(r:Bool)(h:Eo op=some r):Fn Tryz.prog GE 32 [Ai op] [] (λR H=>R=rB r∧H=[]):=by
 refine enter (n:=9) Tryz.func32 rfl Tryz.ntmps32 rfl (λw Z=>?_);unfold Eo at h;refine Ah (wa rfl (Al (AM [(2,rB ((decide (op=3))||(decide (op=4))))] [] ?_ ?_)))
 ·refine Ak (wm rfl (wv (Bx rfl rfl) (wm rfl (AV (decide (op=3)) (λc1=>?_) (λc1=>?_)))))
  ·refine wf c1 (wf c1 (wv (r:=rB true) (Ay rfl c1 rfl) (wa rfl (Aj ?_))));exact Cq c1
  ·refine wo c1 (wm rfl (wo c1 (wv (Bx rfl rfl) (Co rfl c1 rfl (wa rfl (Aj ?_))))));exact Cq c1
 refine Aq ?_;obtain rfl:=Am h;exact Ap (By Tryz.results32 (A9 rfl)) sN ⟨rfl,rfl⟩
theorem HH (F:Nat)(f:Af)(r:Int)(h:C3 F f=some r):Fn Tryz.prog GE 13 [Bv (Ad f)] [] (λR H=>R=Ai r∧H=[]):=by
 refine enter (n:=133) Tryz.func13 rfl Tryz.ntmps13 rfl (λw Z=>?_);unfold C3 at h;refine Ah (Bt rfl rfl (λb1=>?_));refine wa rfl (Al (Ao (Ah (vF AK rfl Gh (vL 0 Hx rfl (wv (AL (ys:=f.fPath) (enc:=eS) CR rfl) (wv (Dh rfl rfl) (Al (cz h rfl (λc2 h3=>?_) (λc2 h4=>?_))))))))))
 ·refine Ah (wa rfl (Al (Aq (Ac ?_))));obtain rfl:=Am h3;exact Ap (By GF (A9 rfl)) (sS sN) ⟨rfl,rfl⟩
 ·refine Av (AH (Ao (Ah (vF AK rfl Gh (vL 0 Hx rfl (wv (AL (ys:=f.fPath) (enc:=eS) CR rfl) (wv (r:=Ai 0) (A4 rfl) (Al (AB (ob h4 λgK gL gB=>Bi (S:=Nat×(Int)×(Unit)) (V:=(Unit)×(Unit)) 0 (λσ=>BW (λσ=>DS F f σ) σ.1 σ.2.1=some gK) (λσ=>[(1,rP b1 0),(17,AE 1 (A3 eS f.fPath)),(18,Ai (f.fPath.length:Int)),(19,Ai σ.2.1)]) (λσ=>[.blk b1 (Ad f) 26]) (λσ=>σ.1) (F,0,()) gL (A5.c rfl (A5.c rfl (A5.c rfl (A5.c rfl A5.nil)))) (sC sN) (λσ=>G7 F f =some r) (λσ=>[(1,rP b1 0)]) (λσ=>[.blk b1 (Ad f) 26]) ?_ ?_))))))))))
  ·rintro⟨rl,gu,⟨⟩⟩ gM;refine B3 (l':=[(1,rP b1 0),(17,AE 1 (A3 eS f.fPath)),(18,Ai (f.fPath.length:Int)),(19,Ai gu)]) (H':=[.blk b1 (Ad f) 26]) rfl rfl ?_;obtain⟨gN,rfl,gO,gv,g8⟩:=Ch gM;replace gv:DS F f gu=some gO:=gv;unfold DS at gv;refine Ah (wv (Cr rfl rfl) (Al (Ao (cz gv rfl (λc53 gP=>?_) (λc53 gQ=>?_)))))
   ·refine Av (AH (Ao (AB (Ah (ck gP λgR gS=>wv (AU (enc:=eS) (ys:=f.fPath) CR CE rfl rfl gR) (wv (AJ CP rfl rfl) (wa rfl (AX (wm rfl (ob gS λgT gU gV=>Ct QH (KG F (Ax f.fPath gu) gT gU) rfl (wm rfl (wv (A7 rfl rfl) (wv (A7 rfl rfl) (wa rfl (wa rfl (AX (wm rfl (wv (Bg rfl rfl) (Al (cz gV rfl (λgW gX=>?_) (λgW gY=>?_)))))))))))))))))))))
    ·refine Ah (wm rfl (wa rfl (Al (Aq (An (Ac (Ac (AN ?_))))))));have gZ:=Bh gX g8 gB;refine An (Ac ?_);obtain rfl:=Am gZ;exact Ap (By GF (A9 rfl)) (sS sN) ⟨rfl,rfl⟩
    ·refine Av (A8 (AH (Ak (ck gY λca cb=>wv (Bk rfl rfl ca) (wm rfl (Aj ?_))))));have cc:=Bc cb g8;exact As (At (gN,gu+1,()) ⟨cc,VO _⟩ (A5.c rfl (A5.c rfl (A5.c rfl (A5.c rfl A5.nil)))) (sC sN))
   ·refine Bs (A0 ?_);have cd:=BF gQ g8 gB;exact A0 (AS (At ((),()) cd (A5.c rfl A5.nil) (sC sN)))
  ·rintro⟨⟨⟩,⟨⟩⟩ gw;refine Cj (l':=[(1,rP b1 0)]) (H':=[.blk b1 (Ad f) 26]) rfl rfl ?_;replace gw:G7 F f =some r:=gw;unfold G7 at gw;refine AW (AH (Ao (AM [(1,rP b1 0),(39,rB ((decide (f.fOp<1))||(decide (6<f.fOp))))] [.blk b1 (Ad f) 26] ?_ ?_)))
   ·refine Ak (vF AK rfl BZ (vL 0 Cb rfl (wv (Cr rfl rfl) (wm rfl (AV (decide (f.fOp<1)) (λhI=>?_) (λhI=>?_))))))
    ·refine wf hI (wf hI (wf hI (wv (r:=rB true) (Ay rfl hI rfl) (Aj ?_))));exact Cq hI
    ·refine wo hI (vF AK rfl BZ (wo hI (vL 0 Cb rfl (wo hI (wv (Dh rfl rfl) (Co rfl hI rfl (Aj ?_)))))));exact Cq hI
   refine cz gw rfl (λce cf=>?_) (λce cg=>?_)
   ·refine Ah (wa rfl (Al (Aq (Ac ?_))));obtain rfl:=Am cf;exact Ap (By GF (A9 rfl)) (sS sN) ⟨rfl,rfl⟩
   ·refine Av (AH (Ao (Ah (vF AK rfl BZ (vL 0 Cb rfl (Al (AB (Ao (Ah (wv (Bx rfl rfl) (wa rfl (Al (cz cg rfl (λgC ch=>?_) (λgC ci=>?_))))))))))))))
    ·refine Av (AH (De rfl gC (Ao (AM [(1,rP b1 0),(54,rB ((decide ((f.fValues.length:Int)<1))||(decide (8<(f.fValues.length:Int)))))] [.blk b1 (Ad f) 26] ?_ ?_))))
     ·refine Ak (vF AK rfl CG (vL 0 CS rfl (wv (AL (ys:=f.fValues) (enc:=Ae) BM rfl) (wv (Cr rfl rfl) (wm rfl (AV (decide ((f.fValues.length:Int)<1)) (λc76=>?_) (λc76=>?_)))))))
      ·refine wf c76 (wf c76 (wf c76 (wf c76 (wv (r:=rB true) (Ay rfl c76 rfl) (Aj ?_)))));exact Cq c76
      ·refine wo c76 (vF AK rfl CG (wo c76 (vL 0 CS rfl (wo c76 (wv (AL (ys:=f.fValues) (enc:=Ae) BM rfl) (wo c76 (wv (Dh rfl rfl) (Co rfl c76 rfl (Aj ?_)))))))));exact Cq c76
     refine cz ch rfl (λcj cl=>?_) (λcj cm=>?_)
     ·refine Ah (wa rfl (Al (Aq (Ac (An (Ac ?_))))));obtain rfl:=Am cl;exact Ap (By GF (A9 rfl)) (sS sN) ⟨rfl,rfl⟩
     ·refine Av (AH (Ah (vF AK rfl CG (vL 0 CS rfl (wv (AL (ys:=f.fValues) (enc:=Ae) BM rfl) (wv (r:=Ai 0) (A4 rfl) (Al (AB (ob cm λcn co gD=>Bi (S:=Nat×(Int)×(Unit)) (V:=(Unit)×(Unit)) 3 (λσ=>BW (λσ=>DR F f σ) σ.1 σ.2.1=some cn) (λσ=>[(1,rP b1 0),(56,AE 1 (A3 Ae f.fValues)),(57,Ai (f.fValues.length:Int)),(58,Ai σ.2.1)]) (λσ=>[.blk b1 (Ad f) 26]) (λσ=>σ.1) (F,0,()) co (A5.c rfl (A5.c rfl (A5.c rfl (A5.c rfl A5.nil)))) (sC sN) (λσ=>G6 f =some r) (λσ=>[(1,rP b1 0)]) (λσ=>[.blk b1 (Ad f) 26]) ?_ ?_)))))))))
      ·rintro⟨rm,gx,⟨⟩⟩ cp;refine B3 (l':=[(1,rP b1 0),(56,AE 1 (A3 Ae f.fValues)),(57,Ai (f.fValues.length:Int)),(58,Ai gx)]) (H':=[.blk b1 (Ad f) 26]) rfl rfl ?_;obtain⟨cq,rfl,cr,gy,g9⟩:=Ch cp;replace gy:DR F f gx=some cr:=gy;unfold DR at gy;refine Ah (wv (Cr rfl rfl) (Al (Ao (cz gy rfl (λcs ct=>?_) (λcs cu=>?_)))))
       ·refine Av (AH (Ao (AB (Ah (ck ct λcv cw=>wv (AU (enc:=Ae) (ys:=f.fValues) BM BY rfl rfl cv) (wv (AJ CC rfl rfl) (wa rfl (AX (wm rfl (ob cw λcx cy c0=>Ct LC (Do F (Ax f.fValues gx) cx cy) rfl (wa rfl (AX (wm rfl (wv (Bg rfl rfl) (Al (cz c0 rfl (λc1 c3=>?_) (λc1 c4=>?_)))))))))))))))))
        ·refine Ah (wm rfl (wa rfl (Al (Aq (An (Ac (Ac (AN ?_))))))));have c6:=Bh c3 g9 gD;refine An (An (Ac ?_));obtain rfl:=Am c6;exact Ap (By GF (A9 rfl)) (sS sN) ⟨rfl,rfl⟩
        ·refine Av (A8 (AH (Ak (ck c4 λc7 c8=>wv (Bk rfl rfl c7) (wm rfl (Aj ?_))))));have c9:=Bc c8 g9;exact As (At (cq,gx+1,()) ⟨c9,VO _⟩ (A5.c rfl (A5.c rfl (A5.c rfl (A5.c rfl A5.nil)))) (sC sN))
       ·refine Bs (A0 ?_);have cA:=BF cu g9 gD;exact A0 (AS (At ((),()) cA (A5.c rfl A5.nil) (sC sN)))
      ·rintro⟨⟨⟩,⟨⟩⟩ gz;refine Cj (l':=[(1,rP b1 0)]) (H':=[.blk b1 (Ad f) 26]) rfl rfl ?_;replace gz:G6 f =some r:=gz;unfold G6 at gz;refine AW (A8 (AH (Ao (BE (S:=(Bool)×(Unit)) (λσ=>BU σ.1=some r) (λσ=>[(132,rB σ.1)]) (λσ=>[]) ?_ ?_))))
       ·refine Ak (vF AK rfl BZ (vL 0 Cb rfl (ob gz λcB cC cD=>Ct QG (G3 f.fOp cB cC) rfl (wv (Bz rfl) (wm rfl (bz cD (λhJ cE=>?_) (λhJ cF=>?_)))))))
        ·refine wo hJ (vF AK rfl CG (wo hJ (vL 0 CS rfl (wo hJ (wv (AL (ys:=f.fValues) (enc:=Ae) BM rfl) (wo hJ (wv (Dh rfl rfl) (C7 rfl hJ rfl (wm rfl (bz cE (λhm cG=>?_) (λhm cH=>?_)))))))))))
         ·refine wf hm (wf hm (wf hm (wf hm (wu (wu (wu (wf hm (wv (r:=rB true) (Ay rfl hm rfl) (wm rfl (wz rfl rfl (wz rfl rfl (wz rfl rfl (wz rfl rfl (wu (wu (wu (wu (wu (wu (wu (wu (wz rfl rfl (wv (r:=rB true) (Ay (b:=true) rfl rfl rfl) ?_)))))))))))))))))))))));exact Aj (As (At (true,()) cG (A5.c rfl A5.nil) (sS sN)))
         ·refine wo hm (vF AK rfl BZ (wo hm (vL 0 Cb rfl (wo hm (wv (Bg rfl rfl) (wo hm (wm rfl (bz cH (λhP cI=>?_) (λhP cJ=>?_)))))))))
          ·refine wo hP (vF AK rfl CE (wo hP (vL 0 CP rfl (wo hP (wv (Ed rfl rfl) (wo hm (C7 rfl hP rfl (Co rfl hm rfl (wm rfl (bz cI (λha cK=>?_) (λha cL=>?_)))))))))))
           ·exact wf ha (wf ha (wf ha (wf ha (wu (wu (wu (wu (wu (wu (wu (wu (wf ha (wv (r:=rB true) (Ay rfl ha rfl) (Aj (As (At (true,()) cK (A5.c rfl A5.nil) (sS sN)))))))))))))))))
           ·refine wo ha (vF AK rfl BZ (wo ha (vL 0 Cb rfl (wo ha (wv (Bg rfl rfl) (wo ha (wm rfl (bz cL (λhn cM=>?_) (λhn cN=>?_)))))))))
            ·refine wo hn (vF AK rfl BH (wo hn (vL 0 Cc rfl (wo hn (wv (Bg rfl rfl) (wo hn (wm rfl (bz cM (λhQ cO=>?_) (λhQ cP=>?_)))))))))
             ·exact wf hQ (wf hQ (wf hQ (wo hn (wv (r:=rB true) (Ay rfl hQ rfl) (wo ha (C7 rfl hn rfl (Co rfl ha rfl (Aj (As (At (true,()) cO (A5.c rfl A5.nil) (sS sN)))))))))))
             ·exact wo hQ (vF AK rfl BH (wo hQ (vL 0 Cc rfl (wo hQ (wv (Bg rfl rfl) (wo hn (Co rfl hQ rfl (wo ha (C7 rfl hn rfl (Co rfl ha rfl (Aj (As (At (!decide (f.fHigh=0),()) cP (A5.c rfl A5.nil) (sS sN))))))))))))))
            ·exact wf hn (wf hn (wf hn (wf hn (wu (wu (wu (wf hn (wo ha (wv (r:=rB false) (Aw rfl hn rfl) (Co rfl ha rfl (Aj (As (At (false,()) cN (A5.c rfl A5.nil) (sS sN))))))))))))))
          ·refine wf hP (wf hP (wf hP (wo hm (wv (r:=rB false) (Aw rfl hP rfl) (Co rfl hm rfl (wm rfl (AI (b:=false) rfl rfl rfl (vF AK rfl BZ (AI (b:=false) rfl rfl rfl (vL 0 Cb rfl (AI (b:=false) rfl rfl rfl (wv (Bg rfl rfl) (AI (b:=false) rfl rfl rfl (wm rfl (bz cJ (λho cQ=>?_) (λho cR=>?_))))))))))))))))
           ·refine wo ho (vF AK rfl BH (wo ho (vL 0 Cc rfl (wo ho (wv (Bg rfl rfl) (wo ho (wm rfl (bz cQ (λc213 cS=>?_) (λc213 cT=>?_)))))))))
            ·exact wf c213 (wf c213 (wf c213 (wo ho (wv (r:=rB true) (Ay rfl c213 rfl) (AI (b:=false) rfl rfl rfl (C7 rfl ho rfl (wv (r:=rB true) (Aw (b:=false) rfl rfl rfl) (Aj (As (At (true,()) cS (A5.c rfl A5.nil) (sS sN)))))))))))
            ·exact wo c213 (vF AK rfl BH (wo c213 (vL 0 Cc rfl (wo c213 (wv (Bg rfl rfl) (wo ho (Co rfl c213 rfl (AI (b:=false) rfl rfl rfl (C7 rfl ho rfl (wv (r:=rB (!decide (f.fHigh=0))) (Aw (b:=false) rfl rfl rfl) (Aj (As (At (!decide (f.fHigh=0),()) cT (A5.c rfl A5.nil) (sS sN))))))))))))))
           ·exact wf ho (wf ho (wf ho (wf ho (wu (wu (wu (wf ho (AI (b:=false) rfl rfl rfl (wv (r:=rB false) (Aw rfl ho rfl) (wv (r:=rB false) (Aw (b:=false) rfl rfl rfl) (Aj (As (At (false,()) cR (A5.c rfl A5.nil) (sS sN))))))))))))))
        ·refine wf hJ (wf hJ (wf hJ (wf hJ (wv (r:=rB false) (Aw rfl hJ rfl) (wm rfl (AI (b:=false) rfl rfl rfl (vF AK rfl BZ (AI (b:=false) rfl rfl rfl (vL 0 Cb rfl (AI (b:=false) rfl rfl rfl (wv (Bg rfl rfl) (AI (b:=false) rfl rfl rfl (wm rfl (bz cF (λhR cU=>?_) (λhR cV=>?_)))))))))))))))
         ·refine wo hR (vF AK rfl CE (wo hR (vL 0 CP rfl (wo hR (wv (Ed rfl rfl) (AI (b:=false) rfl rfl rfl (C7 rfl hR rfl (wv (r:=rB (!decide (f.fText=([]:Ar)))) (Aw (b:=false) rfl rfl rfl) (wm rfl (bz cU (λhb cW=>?_) (λhb cX=>?_)))))))))))
          ·exact wf hb (wf hb (wf hb (wf hb (wu (wu (wu (wu (wu (wu (wu (wu (wf hb (wv (r:=rB true) (Ay rfl hb rfl) (Aj (As (At (true,()) cW (A5.c rfl A5.nil) (sS sN)))))))))))))))))
          ·refine wo hb (vF AK rfl BZ (wo hb (vL 0 Cb rfl (wo hb (wv (Bg rfl rfl) (wo hb (wm rfl (bz cX (λhp cY=>?_) (λhp cZ=>?_)))))))))
           ·refine wo hp (vF AK rfl BH (wo hp (vL 0 Cc rfl (wo hp (wv (Bg rfl rfl) (wo hp (wm rfl (bz cY (λhS xa=>?_) (λhS xb=>?_)))))))))
            ·exact wf hS (wf hS (wf hS (wo hp (wv (r:=rB true) (Ay rfl hS rfl) (wo hb (C7 rfl hp rfl (Co rfl hb rfl (Aj (As (At (true,()) xa (A5.c rfl A5.nil) (sS sN)))))))))))
            ·exact wo hS (vF AK rfl BH (wo hS (vL 0 Cc rfl (wo hS (wv (Bg rfl rfl) (wo hp (Co rfl hS rfl (wo hb (C7 rfl hp rfl (Co rfl hb rfl (Aj (As (At (!decide (f.fHigh=0),()) xb (A5.c rfl A5.nil) (sS sN))))))))))))))
           ·exact wf hp (wf hp (wf hp (wf hp (wu (wu (wu (wf hp (wo hb (wv (r:=rB false) (Aw rfl hp rfl) (Co rfl hb rfl (Aj (As (At (false,()) cZ (A5.c rfl A5.nil) (sS sN))))))))))))))
         ·refine wf hR (wf hR (wf hR (AI (b:=false) rfl rfl rfl (wv (r:=rB false) (Aw rfl hR rfl) (wv (r:=rB false) (Aw (b:=false) rfl rfl rfl) (wm rfl (AI (b:=false) rfl rfl rfl (vF AK rfl BZ (AI (b:=false) rfl rfl rfl (vL 0 Cb rfl (AI (b:=false) rfl rfl rfl (wv (Bg rfl rfl) (AI (b:=false) rfl rfl rfl (wm rfl (bz cV (λhq xc=>?_) (λhq xd=>?_))))))))))))))))
          ·refine wo hq (vF AK rfl BH (wo hq (vL 0 Cc rfl (wo hq (wv (Bg rfl rfl) (wo hq (wm rfl (bz xc (λc232 xe=>?_) (λc232 xf=>?_)))))))))
           ·exact wf c232 (wf c232 (wf c232 (wo hq (wv (r:=rB true) (Ay rfl c232 rfl) (AI (b:=false) rfl rfl rfl (C7 rfl hq rfl (wv (r:=rB true) (Aw (b:=false) rfl rfl rfl) (Aj (As (At (true,()) xe (A5.c rfl A5.nil) (sS sN)))))))))))
           ·exact wo c232 (vF AK rfl BH (wo c232 (vL 0 Cc rfl (wo c232 (wv (Bg rfl rfl) (wo hq (Co rfl c232 rfl (AI (b:=false) rfl rfl rfl (C7 rfl hq rfl (wv (r:=rB (!decide (f.fHigh=0))) (Aw (b:=false) rfl rfl rfl) (Aj (As (At (!decide (f.fHigh=0),()) xf (A5.c rfl A5.nil) (sS sN))))))))))))))
          ·exact wf hq (wf hq (wf hq (wf hq (wu (wu (wu (wf hq (AI (b:=false) rfl rfl rfl (wv (r:=rB false) (Aw rfl hq rfl) (wv (r:=rB false) (Aw (b:=false) rfl rfl rfl) (Aj (As (At (false,()) xd (A5.c rfl A5.nil) (sS sN))))))))))))))
       ·rintro⟨gE,⟨⟩⟩ g0;refine B3 (l':=[(132,rB gE)]) (H':=[]) rfl rfl ?_;replace g0:BU gE=some r:=g0;unfold BU at g0;refine cz g0 rfl (λxg xh=>?_) (λxg xi=>?_)
        ·refine Ah (wa rfl (Al (Aq (Ac ?_))));obtain rfl:=Am xh;exact Ap (By GF (A9 rfl)) sN ⟨rfl,rfl⟩
        ·refine Av (AH (Ah (wa rfl (Al (Aq ?_)))));obtain rfl:=Am xi;exact Ap (By GF (A9 rfl)) sN ⟨rfl,rfl⟩
    ·refine Ak (wv (Bx rfl rfl) (wa rfl (Al (cz ci rfl (λxj xk=>?_) (λxj xl=>?_)))))
     ·refine Ao (AM [(1,rP b1 0),(54,rB ((decide ((f.fValues.length:Int)<1))||(decide (8<(f.fValues.length:Int)))))] [.blk b1 (Ad f) 26] ?_ ?_)
      ·refine Ak (vF AK rfl CG (vL 0 CS rfl (wv (AL (ys:=f.fValues) (enc:=Ae) BM rfl) (wv (Cr rfl rfl) (wm rfl (AV (decide ((f.fValues.length:Int)<1)) (λhH=>?_) (λhH=>?_)))))))
       ·refine wf hH (wf hH (wf hH (wf hH (wv (r:=rB true) (Ay rfl hH rfl) (Aj ?_)))));exact Cq hH
       ·refine wo hH (vF AK rfl CG (wo hH (vL 0 CS rfl (wo hH (wv (AL (ys:=f.fValues) (enc:=Ae) BM rfl) (wo hH (wv (Dh rfl rfl) (Co rfl hH rfl (Aj ?_)))))))));exact Cq hH
      refine cz xk rfl (λxm xn=>?_) (λxm xo=>?_)
      ·refine Ah (wa rfl (Al (Aq (Ac (An (Ac ?_))))));obtain rfl:=Am xn;exact Ap (By GF (A9 rfl)) (sS sN) ⟨rfl,rfl⟩
      ·refine Av (AH (Ah (vF AK rfl CG (vL 0 CS rfl (wv (AL (ys:=f.fValues) (enc:=Ae) BM rfl) (wv (r:=Ai 0) (A4 rfl) (Al (AB (ob xo λxp xq gF=>Bi (S:=Nat×(Int)×(Unit)) (V:=(Unit)×(Unit)) 3 (λσ=>BW (λσ=>G8 F f σ) σ.1 σ.2.1=some xp) (λσ=>[(1,rP b1 0),(56,AE 1 (A3 Ae f.fValues)),(57,Ai (f.fValues.length:Int)),(58,Ai σ.2.1)]) (λσ=>[.blk b1 (Ad f) 26]) (λσ=>σ.1) (F,0,()) xq (A5.c rfl (A5.c rfl (A5.c rfl (A5.c rfl A5.nil)))) (sC sN) (λσ=>G5 f =some r) (λσ=>[(1,rP b1 0)]) (λσ=>[.blk b1 (Ad f) 26]) ?_ ?_)))))))))
       ·rintro⟨rn,g1,⟨⟩⟩ xr;refine B3 (l':=[(1,rP b1 0),(56,AE 1 (A3 Ae f.fValues)),(57,Ai (f.fValues.length:Int)),(58,Ai g1)]) (H':=[.blk b1 (Ad f) 26]) rfl rfl ?_;obtain⟨xs,rfl,xt,g2,gA⟩:=Ch xr;replace g2:G8 F f g1=some xt:=g2;unfold G8 at g2;refine Ah (wv (Cr rfl rfl) (Al (Ao (cz g2 rfl (λxu xv=>?_) (λxu xw=>?_)))))
        ·refine Av (AH (Ao (AB (Ah (ck xv λxx xy=>wv (AU (enc:=Ae) (ys:=f.fValues) BM BY rfl rfl xx) (wv (AJ CC rfl rfl) (wa rfl (AX (wm rfl (ob xy λxz x0 x1=>Ct LC (Do F (Ax f.fValues g1) xz x0) rfl (wa rfl (AX (wm rfl (wv (Bg rfl rfl) (Al (cz x1 rfl (λx2 x3=>?_) (λx2 x4=>?_)))))))))))))))))
         ·refine Ah (wm rfl (wa rfl (Al (Aq (An (Ac (Ac (AN ?_))))))));have x5:=Bh x3 gA gF;refine An (An (Ac ?_));obtain rfl:=Am x5;exact Ap (By GF (A9 rfl)) (sS sN) ⟨rfl,rfl⟩
         ·refine Av (A8 (AH (Ak (ck x4 λx6 x7=>wv (Bk rfl rfl x6) (wm rfl (Aj ?_))))));have x8:=Bc x7 gA;exact As (At (xs,g1+1,()) ⟨x8,VO _⟩ (A5.c rfl (A5.c rfl (A5.c rfl (A5.c rfl A5.nil)))) (sC sN))
        ·refine Bs (A0 ?_);have x9:=BF xw gA gF;exact A0 (AS (At ((),()) x9 (A5.c rfl A5.nil) (sC sN)))
       ·rintro⟨⟨⟩,⟨⟩⟩ g3;refine Cj (l':=[(1,rP b1 0)]) (H':=[.blk b1 (Ad f) 26]) rfl rfl ?_;replace g3:G5 f =some r:=g3;unfold G5 at g3;refine AW (A8 (AH (Ao (BE (S:=(Bool)×(Unit)) (λσ=>BT σ.1=some r) (λσ=>[(132,rB σ.1)]) (λσ=>[]) ?_ ?_))))
        ·refine Ak (vF AK rfl BZ (vL 0 Cb rfl (ob g3 λxA xB xC=>Ct QG (G3 f.fOp xA xB) rfl (wv (Bz rfl) (wm rfl (bz xC (λhK xD=>?_) (λhK xE=>?_)))))))
         ·refine wo hK (vF AK rfl CG (wo hK (vL 0 CS rfl (wo hK (wv (AL (ys:=f.fValues) (enc:=Ae) BM rfl) (wo hK (wv (Dh rfl rfl) (C7 rfl hK rfl (wm rfl (bz xD (λhr xF=>?_) (λhr xG=>?_)))))))))))
          ·refine wf hr (wf hr (wf hr (wf hr (wu (wu (wu (wf hr (wv (r:=rB true) (Ay rfl hr rfl) (wm rfl (wz rfl rfl (wz rfl rfl (wz rfl rfl (wz rfl rfl (wu (wu (wu (wu (wu (wu (wu (wu (wz rfl rfl (wv (r:=rB true) (Ay (b:=true) rfl rfl rfl) ?_)))))))))))))))))))))));exact Aj (As (At (true,()) xF (A5.c rfl A5.nil) (sS sN)))
          ·refine wo hr (vF AK rfl BZ (wo hr (vL 0 Cb rfl (wo hr (wv (Bg rfl rfl) (wo hr (wm rfl (bz xG (λhT xH=>?_) (λhT xI=>?_)))))))))
           ·refine wo hT (vF AK rfl CE (wo hT (vL 0 CP rfl (wo hT (wv (Ed rfl rfl) (wo hr (C7 rfl hT rfl (Co rfl hr rfl (wm rfl (bz xH (λhe xJ=>?_) (λhe xK=>?_)))))))))))
            ·exact wf he (wf he (wf he (wf he (wu (wu (wu (wu (wu (wu (wu (wu (wf he (wv (r:=rB true) (Ay rfl he rfl) (Aj (As (At (true,()) xJ (A5.c rfl A5.nil) (sS sN)))))))))))))))))
            ·refine wo he (vF AK rfl BZ (wo he (vL 0 Cb rfl (wo he (wv (Bg rfl rfl) (wo he (wm rfl (bz xK (λhs xL=>?_) (λhs xM=>?_)))))))))
             ·refine wo hs (vF AK rfl BH (wo hs (vL 0 Cc rfl (wo hs (wv (Bg rfl rfl) (wo hs (wm rfl (bz xL (λhU xN=>?_) (λhU xO=>?_)))))))))
              ·exact wf hU (wf hU (wf hU (wo hs (wv (r:=rB true) (Ay rfl hU rfl) (wo he (C7 rfl hs rfl (Co rfl he rfl (Aj (As (At (true,()) xN (A5.c rfl A5.nil) (sS sN)))))))))))
              ·exact wo hU (vF AK rfl BH (wo hU (vL 0 Cc rfl (wo hU (wv (Bg rfl rfl) (wo hs (Co rfl hU rfl (wo he (C7 rfl hs rfl (Co rfl he rfl (Aj (As (At (!decide (f.fHigh=0),()) xO (A5.c rfl A5.nil) (sS sN))))))))))))))
             ·exact wf hs (wf hs (wf hs (wf hs (wu (wu (wu (wf hs (wo he (wv (r:=rB false) (Aw rfl hs rfl) (Co rfl he rfl (Aj (As (At (false,()) xM (A5.c rfl A5.nil) (sS sN))))))))))))))
           ·refine wf hT (wf hT (wf hT (wo hr (wv (r:=rB false) (Aw rfl hT rfl) (Co rfl hr rfl (wm rfl (AI (b:=false) rfl rfl rfl (vF AK rfl BZ (AI (b:=false) rfl rfl rfl (vL 0 Cb rfl (AI (b:=false) rfl rfl rfl (wv (Bg rfl rfl) (AI (b:=false) rfl rfl rfl (wm rfl (bz xI (λht xP=>?_) (λht xQ=>?_))))))))))))))))
            ·refine wo ht (vF AK rfl BH (wo ht (vL 0 Cc rfl (wo ht (wv (Bg rfl rfl) (wo ht (wm rfl (bz xP (λhV xR=>?_) (λhV xS=>?_)))))))))
             ·exact wf hV (wf hV (wf hV (wo ht (wv (r:=rB true) (Ay rfl hV rfl) (AI (b:=false) rfl rfl rfl (C7 rfl ht rfl (wv (r:=rB true) (Aw (b:=false) rfl rfl rfl) (Aj (As (At (true,()) xR (A5.c rfl A5.nil) (sS sN)))))))))))
             ·exact wo hV (vF AK rfl BH (wo hV (vL 0 Cc rfl (wo hV (wv (Bg rfl rfl) (wo ht (Co rfl hV rfl (AI (b:=false) rfl rfl rfl (C7 rfl ht rfl (wv (r:=rB (!decide (f.fHigh=0))) (Aw (b:=false) rfl rfl rfl) (Aj (As (At (!decide (f.fHigh=0),()) xS (A5.c rfl A5.nil) (sS sN))))))))))))))
            ·exact wf ht (wf ht (wf ht (wf ht (wu (wu (wu (wf ht (AI (b:=false) rfl rfl rfl (wv (r:=rB false) (Aw rfl ht rfl) (wv (r:=rB false) (Aw (b:=false) rfl rfl rfl) (Aj (As (At (false,()) xQ (A5.c rfl A5.nil) (sS sN))))))))))))))
         ·refine wf hK (wf hK (wf hK (wf hK (wv (r:=rB false) (Aw rfl hK rfl) (wm rfl (AI (b:=false) rfl rfl rfl (vF AK rfl BZ (AI (b:=false) rfl rfl rfl (vL 0 Cb rfl (AI (b:=false) rfl rfl rfl (wv (Bg rfl rfl) (AI (b:=false) rfl rfl rfl (wm rfl (bz xE (λhW xT=>?_) (λhW xU=>?_)))))))))))))))
          ·refine wo hW (vF AK rfl CE (wo hW (vL 0 CP rfl (wo hW (wv (Ed rfl rfl) (AI (b:=false) rfl rfl rfl (C7 rfl hW rfl (wv (r:=rB (!decide (f.fText=([]:Ar)))) (Aw (b:=false) rfl rfl rfl) (wm rfl (bz xT (λhf xV=>?_) (λhf xW=>?_)))))))))))
           ·exact wf hf (wf hf (wf hf (wf hf (wu (wu (wu (wu (wu (wu (wu (wu (wf hf (wv (r:=rB true) (Ay rfl hf rfl) (Aj (As (At (true,()) xV (A5.c rfl A5.nil) (sS sN)))))))))))))))))
           ·refine wo hf (vF AK rfl BZ (wo hf (vL 0 Cb rfl (wo hf (wv (Bg rfl rfl) (wo hf (wm rfl (bz xW (λhu xX=>?_) (λhu xY=>?_)))))))))
            ·refine wo hu (vF AK rfl BH (wo hu (vL 0 Cc rfl (wo hu (wv (Bg rfl rfl) (wo hu (wm rfl (bz xX (λhX xZ=>?_) (λhX va=>?_)))))))))
             ·exact wf hX (wf hX (wf hX (wo hu (wv (r:=rB true) (Ay rfl hX rfl) (wo hf (C7 rfl hu rfl (Co rfl hf rfl (Aj (As (At (true,()) xZ (A5.c rfl A5.nil) (sS sN)))))))))))
             ·exact wo hX (vF AK rfl BH (wo hX (vL 0 Cc rfl (wo hX (wv (Bg rfl rfl) (wo hu (Co rfl hX rfl (wo hf (C7 rfl hu rfl (Co rfl hf rfl (Aj (As (At (!decide (f.fHigh=0),()) va (A5.c rfl A5.nil) (sS sN))))))))))))))
            ·exact wf hu (wf hu (wf hu (wf hu (wu (wu (wu (wf hu (wo hf (wv (r:=rB false) (Aw rfl hu rfl) (Co rfl hf rfl (Aj (As (At (false,()) xY (A5.c rfl A5.nil) (sS sN))))))))))))))
          ·refine wf hW (wf hW (wf hW (AI (b:=false) rfl rfl rfl (wv (r:=rB false) (Aw rfl hW rfl) (wv (r:=rB false) (Aw (b:=false) rfl rfl rfl) (wm rfl (AI (b:=false) rfl rfl rfl (vF AK rfl BZ (AI (b:=false) rfl rfl rfl (vL 0 Cb rfl (AI (b:=false) rfl rfl rfl (wv (Bg rfl rfl) (AI (b:=false) rfl rfl rfl (wm rfl (bz xU (λhw vb=>?_) (λhw vc=>?_))))))))))))))))
           ·refine wo hw (vF AK rfl BH (wo hw (vL 0 Cc rfl (wo hw (wv (Bg rfl rfl) (wo hw (wm rfl (bz vb (λhY vd=>?_) (λhY ve=>?_)))))))))
            ·exact wf hY (wf hY (wf hY (wo hw (wv (r:=rB true) (Ay rfl hY rfl) (AI (b:=false) rfl rfl rfl (C7 rfl hw rfl (wv (r:=rB true) (Aw (b:=false) rfl rfl rfl) (Aj (As (At (true,()) vd (A5.c rfl A5.nil) (sS sN)))))))))))
            ·exact wo hY (vF AK rfl BH (wo hY (vL 0 Cc rfl (wo hY (wv (Bg rfl rfl) (wo hw (Co rfl hY rfl (AI (b:=false) rfl rfl rfl (C7 rfl hw rfl (wv (r:=rB (!decide (f.fHigh=0))) (Aw (b:=false) rfl rfl rfl) (Aj (As (At (!decide (f.fHigh=0),()) ve (A5.c rfl A5.nil) (sS sN))))))))))))))
           ·exact wf hw (wf hw (wf hw (wf hw (wu (wu (wu (wf hw (AI (b:=false) rfl rfl rfl (wv (r:=rB false) (Aw rfl hw rfl) (wv (r:=rB false) (Aw (b:=false) rfl rfl rfl) (Aj (As (At (false,()) vc (A5.c rfl A5.nil) (sS sN))))))))))))))
        ·rintro⟨gG,⟨⟩⟩ g4;refine B3 (l':=[(132,rB gG)]) (H':=[]) rfl rfl ?_;replace g4:BT gG=some r:=g4;unfold BT at g4;refine cz g4 rfl (λvf vg=>?_) (λvf vh=>?_)
         ·refine Ah (wa rfl (Al (Aq (Ac ?_))));obtain rfl:=Am vg;exact Ap (By GF (A9 rfl)) sN ⟨rfl,rfl⟩
         ·refine Av (AH (Ah (wa rfl (Al (Aq ?_)))));obtain rfl:=Am vh;exact Ap (By GF (A9 rfl)) sN ⟨rfl,rfl⟩
     ·refine Ah (wv (Bx rfl rfl) (wa rfl (Al (cz xl rfl (λvi vj=>?_) (λvi vk=>?_)))))
      ·refine Ah (vF AK rfl CE (vL 0 CP rfl (ob vj λvl vm vn=>Ct QH (KG F f.fText vl vm) rfl (wm rfl (wv (A7 rfl rfl) (wv (A7 rfl rfl) (wa rfl (wa rfl (AX (wm rfl (wv (Bg rfl rfl) (Al (cz vn rfl (λvo vp=>?_) (λvo vq=>?_))))))))))))))
       ·refine Ah (wm rfl (wa rfl (Al (Aq (An (Ac ?_))))));obtain rfl:=Am vp;exact Ap (By GF (A9 rfl)) (sS sN) ⟨rfl,rfl⟩
       ·refine Av (A8 (AH (Ao (BE (S:=(Bool)×(Unit)) (λσ=>BS σ.1=some r) (λσ=>[(132,rB σ.1)]) (λσ=>[]) ?_ ?_))))
        ·refine Ak (vF AK rfl BZ (vL 0 Cb rfl (ob vq λvr vs vt=>Ct QG (G3 f.fOp vr vs) rfl (wv (Bz rfl) (wm rfl (bz vt (λhL vu=>?_) (λhL vv=>?_)))))))
         ·refine wo hL (vF AK rfl CG (wo hL (vL 0 CS rfl (wo hL (wv (AL (ys:=f.fValues) (enc:=Ae) BM rfl) (wo hL (wv (Dh rfl rfl) (C7 rfl hL rfl (wm rfl (bz vu (λhx vw=>?_) (λhx vx=>?_)))))))))))
          ·refine wf hx (wf hx (wf hx (wf hx (wu (wu (wu (wf hx (wv (r:=rB true) (Ay rfl hx rfl) (wm rfl (wz rfl rfl (wz rfl rfl (wz rfl rfl (wz rfl rfl (wu (wu (wu (wu (wu (wu (wu (wu (wz rfl rfl (wv (r:=rB true) (Ay (b:=true) rfl rfl rfl) ?_)))))))))))))))))))))));exact Aj (As (At (true,()) vw (A5.c rfl A5.nil) (sS sN)))
          ·refine wo hx (vF AK rfl BZ (wo hx (vL 0 Cb rfl (wo hx (wv (Bg rfl rfl) (wo hx (wm rfl (bz vx (λhZ vy=>?_) (λhZ vz=>?_)))))))))
           ·refine wo hZ (vF AK rfl CE (wo hZ (vL 0 CP rfl (wo hZ (wv (Ed rfl rfl) (wo hx (C7 rfl hZ rfl (Co rfl hx rfl (wm rfl (bz vy (λhg v0=>?_) (λhg v1=>?_)))))))))))
            ·exact wf hg (wf hg (wf hg (wf hg (wu (wu (wu (wu (wu (wu (wu (wu (wf hg (wv (r:=rB true) (Ay rfl hg rfl) (Aj (As (At (true,()) v0 (A5.c rfl A5.nil) (sS sN)))))))))))))))))
            ·refine wo hg (vF AK rfl BZ (wo hg (vL 0 Cb rfl (wo hg (wv (Bg rfl rfl) (wo hg (wm rfl (bz v1 (λhy v2=>?_) (λhy v3=>?_)))))))))
             ·refine wo hy (vF AK rfl BH (wo hy (vL 0 Cc rfl (wo hy (wv (Bg rfl rfl) (wo hy (wm rfl (bz v2 (λga v4=>?_) (λga v5=>?_)))))))))
              ·exact wf ga (wf ga (wf ga (wo hy (wv (r:=rB true) (Ay rfl ga rfl) (wo hg (C7 rfl hy rfl (Co rfl hg rfl (Aj (As (At (true,()) v4 (A5.c rfl A5.nil) (sS sN)))))))))))
              ·exact wo ga (vF AK rfl BH (wo ga (vL 0 Cc rfl (wo ga (wv (Bg rfl rfl) (wo hy (Co rfl ga rfl (wo hg (C7 rfl hy rfl (Co rfl hg rfl (Aj (As (At (!decide (f.fHigh=0),()) v5 (A5.c rfl A5.nil) (sS sN))))))))))))))
             ·exact wf hy (wf hy (wf hy (wf hy (wu (wu (wu (wf hy (wo hg (wv (r:=rB false) (Aw rfl hy rfl) (Co rfl hg rfl (Aj (As (At (false,()) v3 (A5.c rfl A5.nil) (sS sN))))))))))))))
           ·refine wf hZ (wf hZ (wf hZ (wo hx (wv (r:=rB false) (Aw rfl hZ rfl) (Co rfl hx rfl (wm rfl (AI (b:=false) rfl rfl rfl (vF AK rfl BZ (AI (b:=false) rfl rfl rfl (vL 0 Cb rfl (AI (b:=false) rfl rfl rfl (wv (Bg rfl rfl) (AI (b:=false) rfl rfl rfl (wm rfl (bz vz (λhz v6=>?_) (λhz v7=>?_))))))))))))))))
            ·refine wo hz (vF AK rfl BH (wo hz (vL 0 Cc rfl (wo hz (wv (Bg rfl rfl) (wo hz (wm rfl (bz v6 (λgb v8=>?_) (λgb v9=>?_)))))))))
             ·exact wf gb (wf gb (wf gb (wo hz (wv (r:=rB true) (Ay rfl gb rfl) (AI (b:=false) rfl rfl rfl (C7 rfl hz rfl (wv (r:=rB true) (Aw (b:=false) rfl rfl rfl) (Aj (As (At (true,()) v8 (A5.c rfl A5.nil) (sS sN)))))))))))
             ·exact wo gb (vF AK rfl BH (wo gb (vL 0 Cc rfl (wo gb (wv (Bg rfl rfl) (wo hz (Co rfl gb rfl (AI (b:=false) rfl rfl rfl (C7 rfl hz rfl (wv (r:=rB (!decide (f.fHigh=0))) (Aw (b:=false) rfl rfl rfl) (Aj (As (At (!decide (f.fHigh=0),()) v9 (A5.c rfl A5.nil) (sS sN))))))))))))))
            ·exact wf hz (wf hz (wf hz (wf hz (wu (wu (wu (wf hz (AI (b:=false) rfl rfl rfl (wv (r:=rB false) (Aw rfl hz rfl) (wv (r:=rB false) (Aw (b:=false) rfl rfl rfl) (Aj (As (At (false,()) v7 (A5.c rfl A5.nil) (sS sN))))))))))))))
         ·refine wf hL (wf hL (wf hL (wf hL (wv (r:=rB false) (Aw rfl hL rfl) (wm rfl (AI (b:=false) rfl rfl rfl (vF AK rfl BZ (AI (b:=false) rfl rfl rfl (vL 0 Cb rfl (AI (b:=false) rfl rfl rfl (wv (Bg rfl rfl) (AI (b:=false) rfl rfl rfl (wm rfl (bz vv (λgc vA=>?_) (λgc vB=>?_)))))))))))))))
          ·refine wo gc (vF AK rfl CE (wo gc (vL 0 CP rfl (wo gc (wv (Ed rfl rfl) (AI (b:=false) rfl rfl rfl (C7 rfl gc rfl (wv (r:=rB (!decide (f.fText=([]:Ar)))) (Aw (b:=false) rfl rfl rfl) (wm rfl (bz vA (λhh vC=>?_) (λhh vD=>?_)))))))))))
           ·exact wf hh (wf hh (wf hh (wf hh (wu (wu (wu (wu (wu (wu (wu (wu (wf hh (wv (r:=rB true) (Ay rfl hh rfl) (Aj (As (At (true,()) vC (A5.c rfl A5.nil) (sS sN)))))))))))))))))
           ·refine wo hh (vF AK rfl BZ (wo hh (vL 0 Cb rfl (wo hh (wv (Bg rfl rfl) (wo hh (wm rfl (bz vD (λh0 vE=>?_) (λh0 vG=>?_)))))))))
            ·refine wo h0 (vF AK rfl BH (wo h0 (vL 0 Cc rfl (wo h0 (wv (Bg rfl rfl) (wo h0 (wm rfl (bz vE (λgd vH=>?_) (λgd vI=>?_)))))))))
             ·exact wf gd (wf gd (wf gd (wo h0 (wv (r:=rB true) (Ay rfl gd rfl) (wo hh (C7 rfl h0 rfl (Co rfl hh rfl (Aj (As (At (true,()) vH (A5.c rfl A5.nil) (sS sN)))))))))))
             ·exact wo gd (vF AK rfl BH (wo gd (vL 0 Cc rfl (wo gd (wv (Bg rfl rfl) (wo h0 (Co rfl gd rfl (wo hh (C7 rfl h0 rfl (Co rfl hh rfl (Aj (As (At (!decide (f.fHigh=0),()) vI (A5.c rfl A5.nil) (sS sN))))))))))))))
            ·exact wf h0 (wf h0 (wf h0 (wf h0 (wu (wu (wu (wf h0 (wo hh (wv (r:=rB false) (Aw rfl h0 rfl) (Co rfl hh rfl (Aj (As (At (false,()) vG (A5.c rfl A5.nil) (sS sN))))))))))))))
          ·refine wf gc (wf gc (wf gc (AI (b:=false) rfl rfl rfl (wv (r:=rB false) (Aw rfl gc rfl) (wv (r:=rB false) (Aw (b:=false) rfl rfl rfl) (wm rfl (AI (b:=false) rfl rfl rfl (vF AK rfl BZ (AI (b:=false) rfl rfl rfl (vL 0 Cb rfl (AI (b:=false) rfl rfl rfl (wv (Bg rfl rfl) (AI (b:=false) rfl rfl rfl (wm rfl (bz vB (λh1 vJ=>?_) (λh1 vK=>?_))))))))))))))))
           ·refine wo h1 (vF AK rfl BH (wo h1 (vL 0 Cc rfl (wo h1 (wv (Bg rfl rfl) (wo h1 (wm rfl (bz vJ (λge vM=>?_) (λge vN=>?_)))))))))
            ·exact wf ge (wf ge (wf ge (wo h1 (wv (r:=rB true) (Ay rfl ge rfl) (AI (b:=false) rfl rfl rfl (C7 rfl h1 rfl (wv (r:=rB true) (Aw (b:=false) rfl rfl rfl) (Aj (As (At (true,()) vM (A5.c rfl A5.nil) (sS sN)))))))))))
            ·exact wo ge (vF AK rfl BH (wo ge (vL 0 Cc rfl (wo ge (wv (Bg rfl rfl) (wo h1 (Co rfl ge rfl (AI (b:=false) rfl rfl rfl (C7 rfl h1 rfl (wv (r:=rB (!decide (f.fHigh=0))) (Aw (b:=false) rfl rfl rfl) (Aj (As (At (!decide (f.fHigh=0),()) vN (A5.c rfl A5.nil) (sS sN))))))))))))))
           ·exact wf h1 (wf h1 (wf h1 (wf h1 (wu (wu (wu (wf h1 (AI (b:=false) rfl rfl rfl (wv (r:=rB false) (Aw rfl h1 rfl) (wv (r:=rB false) (Aw (b:=false) rfl rfl rfl) (Aj (As (At (false,()) vK (A5.c rfl A5.nil) (sS sN))))))))))))))
        ·rintro⟨gH,⟨⟩⟩ g5;refine B3 (l':=[(132,rB gH)]) (H':=[]) rfl rfl ?_;replace g5:BS gH=some r:=g5;unfold BS at g5;refine cz g5 rfl (λvO vP=>?_) (λvO vQ=>?_)
         ·refine Ah (wa rfl (Al (Aq (Ac ?_))));obtain rfl:=Am vP;exact Ap (By GF (A9 rfl)) sN ⟨rfl,rfl⟩
         ·refine Av (AH (Ah (wa rfl (Al (Aq ?_)))));obtain rfl:=Am vQ;exact Ap (By GF (A9 rfl)) sN ⟨rfl,rfl⟩
      ·refine Ah (wv (Bx rfl rfl) (wa rfl (Al (cz vk rfl (λvR vS=>?_) (λvR vT=>?_)))))
       ·refine ck vS λvU vV=>ck vV λvW vX=>AM [(1,rP b1 0),(97,rB ((!(ov (Bj f.fLow)))||((!(ov (Bj f.fHigh)))||(decide (f.fHigh<f.fLow)))))] [.blk b1 (Ad f) 26] ?_ ?_
        ·refine Ak (vF AK rfl BH (vL 0 Cc rfl (Ct Tryz.call31 (Lg f.fLow (ov (Bj f.fLow)) (EX vU)) rfl (wv (Bz rfl) (wm rfl (AV (!(ov (Bj f.fLow))) (λh2=>?_) (λh2=>?_)))))))
         ·refine wf h2 (wf h2 (wf h2 (wf h2 (wv (r:=rB true) (Ay rfl h2 rfl) (wm rfl (wz rfl rfl (wz rfl rfl (wz rfl rfl (wz rfl rfl (wz rfl rfl (wv (r:=rB true) (Ay (b:=true) rfl rfl rfl) (Aj ?_))))))))))));exact Cq h2
         ·refine wo h2 (vF AK rfl BH (wo h2 (vL 0 Cc rfl (wo h2 (Ct Tryz.call31 (Lg f.fHigh (ov (Bj f.fHigh)) (EX (C2 vW h2))) rfl (wo h2 (wv (Bz rfl) (Co rfl h2 rfl (wm rfl (AV (!(ov (Bj f.fHigh))) (λh5=>?_) (λh5=>?_)))))))))))
          ·refine wf h5 (wf h5 (wf h5 (wf h5 (wf h5 (wv (r:=rB true) (Ay rfl h5 rfl) (Aj ?_))))));exact Cq (And.intro h2 h5)
          ·refine wo h5 (vF AK rfl BH (wo h5 (vL 0 Cc rfl (wo h5 (vF AK rfl BH (wo h5 (vL 0 Cc rfl (wo h5 (wv (Dh rfl rfl) (Co rfl h5 rfl (Aj ?_)))))))))));exact Cq (And.intro h2 h5)
        refine cz vX rfl (λvY vZ=>?_) (λvY ba=>?_)
        ·refine Ah (wa rfl (Al (Aq (An (Ac ?_)))));obtain rfl:=Am vZ;exact Ap (By GF (A9 rfl)) (sS sN) ⟨rfl,rfl⟩
        ·refine Av (A8 (AH (Ao (BE (S:=(Bool)×(Unit)) (λσ=>BR σ.1=some r) (λσ=>[(132,rB σ.1)]) (λσ=>[]) ?_ ?_))))
         ·refine Ak (vF AK rfl BZ (vL 0 Cb rfl (ob ba λbb bc bd=>Ct QG (G3 f.fOp bb bc) rfl (wv (Bz rfl) (wm rfl (bz bd (λhN be=>?_) (λhN bf=>?_)))))))
          ·refine wo hN (vF AK rfl CG (wo hN (vL 0 CS rfl (wo hN (wv (AL (ys:=f.fValues) (enc:=Ae) BM rfl) (wo hN (wv (Dh rfl rfl) (C7 rfl hN rfl (wm rfl (bz be (λh6 bg=>?_) (λh6 bh=>?_)))))))))))
           ·refine wf h6 (wf h6 (wf h6 (wf h6 (wu (wu (wu (wf h6 (wv (r:=rB true) (Ay rfl h6 rfl) (wm rfl (wz rfl rfl (wz rfl rfl (wz rfl rfl (wz rfl rfl (wu (wu (wu (wu (wu (wu (wu (wu (wz rfl rfl (wv (r:=rB true) (Ay (b:=true) rfl rfl rfl) ?_)))))))))))))))))))))));exact Aj (As (At (true,()) bg (A5.c rfl A5.nil) (sS sN)))
           ·refine wo h6 (vF AK rfl BZ (wo h6 (vL 0 Cb rfl (wo h6 (wv (Bg rfl rfl) (wo h6 (wm rfl (bz bh (λgf bi=>?_) (λgf bj=>?_)))))))))
            ·refine wo gf (vF AK rfl CE (wo gf (vL 0 CP rfl (wo gf (wv (Ed rfl rfl) (wo h6 (C7 rfl gf rfl (Co rfl h6 rfl (wm rfl (bz bi (λhi bk=>?_) (λhi bl=>?_)))))))))))
             ·exact wf hi (wf hi (wf hi (wf hi (wu (wu (wu (wu (wu (wu (wu (wu (wf hi (wv (r:=rB true) (Ay rfl hi rfl) (Aj (As (At (true,()) bk (A5.c rfl A5.nil) (sS sN)))))))))))))))))
             ·refine wo hi (vF AK rfl BZ (wo hi (vL 0 Cb rfl (wo hi (wv (Bg rfl rfl) (wo hi (wm rfl (bz bl (λh7 bm=>?_) (λh7 bn=>?_)))))))))
              ·refine wo h7 (vF AK rfl BH (wo h7 (vL 0 Cc rfl (wo h7 (wv (Bg rfl rfl) (wo h7 (wm rfl (bz bm (λgg bo=>?_) (λgg bp=>?_)))))))))
               ·exact wf gg (wf gg (wf gg (wo h7 (wv (r:=rB true) (Ay rfl gg rfl) (wo hi (C7 rfl h7 rfl (Co rfl hi rfl (Aj (As (At (true,()) bo (A5.c rfl A5.nil) (sS sN)))))))))))
               ·exact wo gg (vF AK rfl BH (wo gg (vL 0 Cc rfl (wo gg (wv (Bg rfl rfl) (wo h7 (Co rfl gg rfl (wo hi (C7 rfl h7 rfl (Co rfl hi rfl (Aj (As (At (!decide (f.fHigh=0),()) bp (A5.c rfl A5.nil) (sS sN))))))))))))))
              ·exact wf h7 (wf h7 (wf h7 (wf h7 (wu (wu (wu (wf h7 (wo hi (wv (r:=rB false) (Aw rfl h7 rfl) (Co rfl hi rfl (Aj (As (At (false,()) bn (A5.c rfl A5.nil) (sS sN))))))))))))))
            ·refine wf gf (wf gf (wf gf (wo h6 (wv (r:=rB false) (Aw rfl gf rfl) (Co rfl h6 rfl (wm rfl (AI (b:=false) rfl rfl rfl (vF AK rfl BZ (AI (b:=false) rfl rfl rfl (vL 0 Cb rfl (AI (b:=false) rfl rfl rfl (wv (Bg rfl rfl) (AI (b:=false) rfl rfl rfl (wm rfl (bz bj (λh8 bq=>?_) (λh8 br=>?_))))))))))))))))
             ·refine wo h8 (vF AK rfl BH (wo h8 (vL 0 Cc rfl (wo h8 (wv (Bg rfl rfl) (wo h8 (wm rfl (bz bq (λgh bs=>?_) (λgh bt=>?_)))))))))
              ·exact wf gh (wf gh (wf gh (wo h8 (wv (r:=rB true) (Ay rfl gh rfl) (AI (b:=false) rfl rfl rfl (C7 rfl h8 rfl (wv (r:=rB true) (Aw (b:=false) rfl rfl rfl) (Aj (As (At (true,()) bs (A5.c rfl A5.nil) (sS sN)))))))))))
              ·exact wo gh (vF AK rfl BH (wo gh (vL 0 Cc rfl (wo gh (wv (Bg rfl rfl) (wo h8 (Co rfl gh rfl (AI (b:=false) rfl rfl rfl (C7 rfl h8 rfl (wv (r:=rB (!decide (f.fHigh=0))) (Aw (b:=false) rfl rfl rfl) (Aj (As (At (!decide (f.fHigh=0),()) bt (A5.c rfl A5.nil) (sS sN))))))))))))))
             ·exact wf h8 (wf h8 (wf h8 (wf h8 (wu (wu (wu (wf h8 (AI (b:=false) rfl rfl rfl (wv (r:=rB false) (Aw rfl h8 rfl) (wv (r:=rB false) (Aw (b:=false) rfl rfl rfl) (Aj (As (At (false,()) br (A5.c rfl A5.nil) (sS sN))))))))))))))
          ·refine wf hN (wf hN (wf hN (wf hN (wv (r:=rB false) (Aw rfl hN rfl) (wm rfl (AI (b:=false) rfl rfl rfl (vF AK rfl BZ (AI (b:=false) rfl rfl rfl (vL 0 Cb rfl (AI (b:=false) rfl rfl rfl (wv (Bg rfl rfl) (AI (b:=false) rfl rfl rfl (wm rfl (bz bf (λgi bu=>?_) (λgi bv=>?_)))))))))))))))
           ·refine wo gi (vF AK rfl CE (wo gi (vL 0 CP rfl (wo gi (wv (Ed rfl rfl) (AI (b:=false) rfl rfl rfl (C7 rfl gi rfl (wv (r:=rB (!decide (f.fText=([]:Ar)))) (Aw (b:=false) rfl rfl rfl) (wm rfl (bz bu (λhj bw=>?_) (λhj bx=>?_)))))))))))
            ·exact wf hj (wf hj (wf hj (wf hj (wu (wu (wu (wu (wu (wu (wu (wu (wf hj (wv (r:=rB true) (Ay rfl hj rfl) (Aj (As (At (true,()) bw (A5.c rfl A5.nil) (sS sN)))))))))))))))))
            ·refine wo hj (vF AK rfl BZ (wo hj (vL 0 Cb rfl (wo hj (wv (Bg rfl rfl) (wo hj (wm rfl (bz bx (λh9 b0=>?_) (λh9 b2=>?_)))))))))
             ·refine wo h9 (vF AK rfl BH (wo h9 (vL 0 Cc rfl (wo h9 (wv (Bg rfl rfl) (wo h9 (wm rfl (bz b0 (λgj b3=>?_) (λgj b4=>?_)))))))))
              ·exact wf gj (wf gj (wf gj (wo h9 (wv (r:=rB true) (Ay rfl gj rfl) (wo hj (C7 rfl h9 rfl (Co rfl hj rfl (Aj (As (At (true,()) b3 (A5.c rfl A5.nil) (sS sN)))))))))))
              ·exact wo gj (vF AK rfl BH (wo gj (vL 0 Cc rfl (wo gj (wv (Bg rfl rfl) (wo h9 (Co rfl gj rfl (wo hj (C7 rfl h9 rfl (Co rfl hj rfl (Aj (As (At (!decide (f.fHigh=0),()) b4 (A5.c rfl A5.nil) (sS sN))))))))))))))
             ·exact wf h9 (wf h9 (wf h9 (wf h9 (wu (wu (wu (wf h9 (wo hj (wv (r:=rB false) (Aw rfl h9 rfl) (Co rfl hj rfl (Aj (As (At (false,()) b2 (A5.c rfl A5.nil) (sS sN))))))))))))))
           ·refine wf gi (wf gi (wf gi (AI (b:=false) rfl rfl rfl (wv (r:=rB false) (Aw rfl gi rfl) (wv (r:=rB false) (Aw (b:=false) rfl rfl rfl) (wm rfl (AI (b:=false) rfl rfl rfl (vF AK rfl BZ (AI (b:=false) rfl rfl rfl (vL 0 Cb rfl (AI (b:=false) rfl rfl rfl (wv (Bg rfl rfl) (AI (b:=false) rfl rfl rfl (wm rfl (bz bv (λhA b5=>?_) (λhA b6=>?_))))))))))))))))
            ·refine wo hA (vF AK rfl BH (wo hA (vL 0 Cc rfl (wo hA (wv (Bg rfl rfl) (wo hA (wm rfl (bz b5 (λgl b7=>?_) (λgl b8=>?_)))))))))
             ·exact wf gl (wf gl (wf gl (wo hA (wv (r:=rB true) (Ay rfl gl rfl) (AI (b:=false) rfl rfl rfl (C7 rfl hA rfl (wv (r:=rB true) (Aw (b:=false) rfl rfl rfl) (Aj (As (At (true,()) b7 (A5.c rfl A5.nil) (sS sN)))))))))))
             ·exact wo gl (vF AK rfl BH (wo gl (vL 0 Cc rfl (wo gl (wv (Bg rfl rfl) (wo hA (Co rfl gl rfl (AI (b:=false) rfl rfl rfl (C7 rfl hA rfl (wv (r:=rB (!decide (f.fHigh=0))) (Aw (b:=false) rfl rfl rfl) (Aj (As (At (!decide (f.fHigh=0),()) b8 (A5.c rfl A5.nil) (sS sN))))))))))))))
            ·exact wf hA (wf hA (wf hA (wf hA (wu (wu (wu (wf hA (AI (b:=false) rfl rfl rfl (wv (r:=rB false) (Aw rfl hA rfl) (wv (r:=rB false) (Aw (b:=false) rfl rfl rfl) (Aj (As (At (false,()) b6 (A5.c rfl A5.nil) (sS sN))))))))))))))
         ·rintro⟨gI,⟨⟩⟩ g6;refine B3 (l':=[(132,rB gI)]) (H':=[]) rfl rfl ?_;replace g6:BR gI=some r:=g6;unfold BR at g6;refine cz g6 rfl (λb9 bA=>?_) (λb9 bB=>?_)
          ·refine Ah (wa rfl (Al (Aq (Ac ?_))));obtain rfl:=Am bA;exact Ap (By GF (A9 rfl)) sN ⟨rfl,rfl⟩
          ·refine Av (AH (Ah (wa rfl (Al (Aq ?_)))));obtain rfl:=Am bB;exact Ap (By GF (A9 rfl)) sN ⟨rfl,rfl⟩
       ·refine Av (A8 (AH (Ao (BE (S:=(Bool)×(Unit)) (λσ=>BQ σ.1=some r) (λσ=>[(132,rB σ.1)]) (λσ=>[]) ?_ ?_))))
        ·refine Ak (vF AK rfl BZ (vL 0 Cb rfl (ob vT λbC bD bE=>Ct QG (G3 f.fOp bC bD) rfl (wv (Bz rfl) (wm rfl (bz bE (λhO bF=>?_) (λhO bG=>?_)))))))
         ·refine wo hO (vF AK rfl CG (wo hO (vL 0 CS rfl (wo hO (wv (AL (ys:=f.fValues) (enc:=Ae) BM rfl) (wo hO (wv (Dh rfl rfl) (C7 rfl hO rfl (wm rfl (bz bF (λhB bH=>?_) (λhB bI=>?_)))))))))))
          ·refine wf hB (wf hB (wf hB (wf hB (wu (wu (wu (wf hB (wv (r:=rB true) (Ay rfl hB rfl) (wm rfl (wz rfl rfl (wz rfl rfl (wz rfl rfl (wz rfl rfl (wu (wu (wu (wu (wu (wu (wu (wu (wz rfl rfl (wv (r:=rB true) (Ay (b:=true) rfl rfl rfl) ?_)))))))))))))))))))))));exact Aj (As (At (true,()) bH (A5.c rfl A5.nil) (sS sN)))
          ·refine wo hB (vF AK rfl BZ (wo hB (vL 0 Cb rfl (wo hB (wv (Bg rfl rfl) (wo hB (wm rfl (bz bI (λgm bJ=>?_) (λgm bK=>?_)))))))))
           ·refine wo gm (vF AK rfl CE (wo gm (vL 0 CP rfl (wo gm (wv (Ed rfl rfl) (wo hB (C7 rfl gm rfl (Co rfl hB rfl (wm rfl (bz bJ (λhk bL=>?_) (λhk bM=>?_)))))))))))
            ·exact wf hk (wf hk (wf hk (wf hk (wu (wu (wu (wu (wu (wu (wu (wu (wf hk (wv (r:=rB true) (Ay rfl hk rfl) (Aj (As (At (true,()) bL (A5.c rfl A5.nil) (sS sN)))))))))))))))))
            ·refine wo hk (vF AK rfl BZ (wo hk (vL 0 Cb rfl (wo hk (wv (Bg rfl rfl) (wo hk (wm rfl (bz bM (λhC bN=>?_) (λhC bO=>?_)))))))))
             ·refine wo hC (vF AK rfl BH (wo hC (vL 0 Cc rfl (wo hC (wv (Bg rfl rfl) (wo hC (wm rfl (bz bN (λgp bP=>?_) (λgp bQ=>?_)))))))))
              ·exact wf gp (wf gp (wf gp (wo hC (wv (r:=rB true) (Ay rfl gp rfl) (wo hk (C7 rfl hC rfl (Co rfl hk rfl (Aj (As (At (true,()) bP (A5.c rfl A5.nil) (sS sN)))))))))))
              ·exact wo gp (vF AK rfl BH (wo gp (vL 0 Cc rfl (wo gp (wv (Bg rfl rfl) (wo hC (Co rfl gp rfl (wo hk (C7 rfl hC rfl (Co rfl hk rfl (Aj (As (At (!decide (f.fHigh=0),()) bQ (A5.c rfl A5.nil) (sS sN))))))))))))))
             ·exact wf hC (wf hC (wf hC (wf hC (wu (wu (wu (wf hC (wo hk (wv (r:=rB false) (Aw rfl hC rfl) (Co rfl hk rfl (Aj (As (At (false,()) bO (A5.c rfl A5.nil) (sS sN))))))))))))))
           ·refine wf gm (wf gm (wf gm (wo hB (wv (r:=rB false) (Aw rfl gm rfl) (Co rfl hB rfl (wm rfl (AI (b:=false) rfl rfl rfl (vF AK rfl BZ (AI (b:=false) rfl rfl rfl (vL 0 Cb rfl (AI (b:=false) rfl rfl rfl (wv (Bg rfl rfl) (AI (b:=false) rfl rfl rfl (wm rfl (bz bK (λhD bR=>?_) (λhD bS=>?_))))))))))))))))
            ·refine wo hD (vF AK rfl BH (wo hD (vL 0 Cc rfl (wo hD (wv (Bg rfl rfl) (wo hD (wm rfl (bz bR (λgq bT=>?_) (λgq bU=>?_)))))))))
             ·exact wf gq (wf gq (wf gq (wo hD (wv (r:=rB true) (Ay rfl gq rfl) (AI (b:=false) rfl rfl rfl (C7 rfl hD rfl (wv (r:=rB true) (Aw (b:=false) rfl rfl rfl) (Aj (As (At (true,()) bT (A5.c rfl A5.nil) (sS sN)))))))))))
             ·exact wo gq (vF AK rfl BH (wo gq (vL 0 Cc rfl (wo gq (wv (Bg rfl rfl) (wo hD (Co rfl gq rfl (AI (b:=false) rfl rfl rfl (C7 rfl hD rfl (wv (r:=rB (!decide (f.fHigh=0))) (Aw (b:=false) rfl rfl rfl) (Aj (As (At (!decide (f.fHigh=0),()) bU (A5.c rfl A5.nil) (sS sN))))))))))))))
            ·exact wf hD (wf hD (wf hD (wf hD (wu (wu (wu (wf hD (AI (b:=false) rfl rfl rfl (wv (r:=rB false) (Aw rfl hD rfl) (wv (r:=rB false) (Aw (b:=false) rfl rfl rfl) (Aj (As (At (false,()) bS (A5.c rfl A5.nil) (sS sN))))))))))))))
         ·refine wf hO (wf hO (wf hO (wf hO (wv (r:=rB false) (Aw rfl hO rfl) (wm rfl (AI (b:=false) rfl rfl rfl (vF AK rfl BZ (AI (b:=false) rfl rfl rfl (vL 0 Cb rfl (AI (b:=false) rfl rfl rfl (wv (Bg rfl rfl) (AI (b:=false) rfl rfl rfl (wm rfl (bz bG (λgr bV=>?_) (λgr bW=>?_)))))))))))))))
          ·refine wo gr (vF AK rfl CE (wo gr (vL 0 CP rfl (wo gr (wv (Ed rfl rfl) (AI (b:=false) rfl rfl rfl (C7 rfl gr rfl (wv (r:=rB (!decide (f.fText=([]:Ar)))) (Aw (b:=false) rfl rfl rfl) (wm rfl (bz bV (λhl bX=>?_) (λhl bY=>?_)))))))))))
           ·exact wf hl (wf hl (wf hl (wf hl (wu (wu (wu (wu (wu (wu (wu (wu (wf hl (wv (r:=rB true) (Ay rfl hl rfl) (Aj (As (At (true,()) bX (A5.c rfl A5.nil) (sS sN)))))))))))))))))
           ·refine wo hl (vF AK rfl BZ (wo hl (vL 0 Cb rfl (wo hl (wv (Bg rfl rfl) (wo hl (wm rfl (bz bY (λhE bZ=>?_) (λhE ra=>?_)))))))))
            ·refine wo hE (vF AK rfl BH (wo hE (vL 0 Cc rfl (wo hE (wv (Bg rfl rfl) (wo hE (wm rfl (bz bZ (λgs rb=>?_) (λgs rc=>?_)))))))))
             ·exact wf gs (wf gs (wf gs (wo hE (wv (r:=rB true) (Ay rfl gs rfl) (wo hl (C7 rfl hE rfl (Co rfl hl rfl (Aj (As (At (true,()) rb (A5.c rfl A5.nil) (sS sN)))))))))))
             ·exact wo gs (vF AK rfl BH (wo gs (vL 0 Cc rfl (wo gs (wv (Bg rfl rfl) (wo hE (Co rfl gs rfl (wo hl (C7 rfl hE rfl (Co rfl hl rfl (Aj (As (At (!decide (f.fHigh=0),()) rc (A5.c rfl A5.nil) (sS sN))))))))))))))
            ·exact wf hE (wf hE (wf hE (wf hE (wu (wu (wu (wf hE (wo hl (wv (r:=rB false) (Aw rfl hE rfl) (Co rfl hl rfl (Aj (As (At (false,()) ra (A5.c rfl A5.nil) (sS sN))))))))))))))
          ·refine wf gr (wf gr (wf gr (AI (b:=false) rfl rfl rfl (wv (r:=rB false) (Aw rfl gr rfl) (wv (r:=rB false) (Aw (b:=false) rfl rfl rfl) (wm rfl (AI (b:=false) rfl rfl rfl (vF AK rfl BZ (AI (b:=false) rfl rfl rfl (vL 0 Cb rfl (AI (b:=false) rfl rfl rfl (wv (Bg rfl rfl) (AI (b:=false) rfl rfl rfl (wm rfl (bz bW (λhG rd=>?_) (λhG re=>?_))))))))))))))))
           ·refine wo hG (vF AK rfl BH (wo hG (vL 0 Cc rfl (wo hG (wv (Bg rfl rfl) (wo hG (wm rfl (bz rd (λgt rg=>?_) (λgt rh=>?_)))))))))
            ·exact wf gt (wf gt (wf gt (wo hG (wv (r:=rB true) (Ay rfl gt rfl) (AI (b:=false) rfl rfl rfl (C7 rfl hG rfl (wv (r:=rB true) (Aw (b:=false) rfl rfl rfl) (Aj (As (At (true,()) rg (A5.c rfl A5.nil) (sS sN)))))))))))
            ·exact wo gt (vF AK rfl BH (wo gt (vL 0 Cc rfl (wo gt (wv (Bg rfl rfl) (wo hG (Co rfl gt rfl (AI (b:=false) rfl rfl rfl (C7 rfl hG rfl (wv (r:=rB (!decide (f.fHigh=0))) (Aw (b:=false) rfl rfl rfl) (Aj (As (At (!decide (f.fHigh=0),()) rh (A5.c rfl A5.nil) (sS sN))))))))))))))
           ·exact wf hG (wf hG (wf hG (wf hG (wu (wu (wu (wf hG (AI (b:=false) rfl rfl rfl (wv (r:=rB false) (Aw rfl hG rfl) (wv (r:=rB false) (Aw (b:=false) rfl rfl rfl) (Aj (As (At (false,()) re (A5.c rfl A5.nil) (sS sN))))))))))))))
        ·rintro⟨gJ,⟨⟩⟩ g7;refine B3 (l':=[(132,rB gJ)]) (H':=[]) rfl rfl ?_;replace g7:BQ gJ=some r:=g7;unfold BQ at g7;refine cz g7 rfl (λri rj=>?_) (λri rk=>?_)
         ·refine Ah (wa rfl (Al (Aq (Ac ?_))));obtain rfl:=Am rj;exact Ap (By GF (A9 rfl)) sN ⟨rfl,rfl⟩
         ·refine Av (AH (Ah (wa rfl (Al (Aq ?_)))));obtain rfl:=Am rk;exact Ap (By GF (A9 rfl)) sN ⟨rfl,rfl⟩
theorem Qs (F:Nat)(ha:Nat)(x:(List Aa))(v:(List Aa))(r:Bool)(h:K3 F x v=some r):Fn Tryz.prog GE 109 [AE 4 (A3 Ab x),rP ha 0] [.blk ha [AE 4 (A3 Ab v)] 28] (λR H=>R=rB r∧H=[.blk ha [AE 4 (A3 Ab v)] 28]):=by
 refine enter (n:=7) Tryz.func109 rfl Tryz.ntmps109 rfl (λw Z=>?_);unfold K3 at h;refine Ah (wa rfl (AX (wm rfl (vL 0 CC rfl (ob h λr1 e3 h2=>Ct Tryz.call110 (S5 F x v r1 e3) rfl (wa rfl (Al (Aq ?_))))))));obtain rfl:=Am h2;exact Ap (By Tryz.results109 (A9 rfl)) (sC sN) ⟨rfl,rfl⟩
theorem Ug (F:Nat)(ha:Nat)(ys:(List (List Aa)))(v:(List Aa))(r:Int)(h:Ta F ys v=some r):Fn Tryz.prog GE 141 [AE 1 (A3 Ae ys),rv (.func (.func 109) #[] #[(.pointer (some ⟨ha,0,none⟩))])] [.blk ha [AE 4 (A3 Ab v)] 28] (λR H=>R=Ai r∧H=[.blk ha [AE 4 (A3 Ab v)] 28]):=by
 refine enter (n:=19) JK rfl JG rfl (λw Z=>?_);unfold Ta at h;refine Ah (wa rfl (Al (Ao (Ah (wm rfl (wv (AL (ys:=ys) (enc:=Ae) BM rfl) (wv (r:=Ai 0) (A4 rfl) (Al (AB (ob h λhi hj hh=>Bi (S:=Nat×(Int)×(Unit)) (V:=(Unit)×(Unit)) 0 (λσ=>BW (λσ=>HX F ys v σ) σ.1 σ.2.1=some hi) (λσ=>[(0,AE 1 (A3 Ae ys)),(1,rv (.func (.func 109) #[] #[(.pointer (some ⟨ha,0,none⟩))])),(7,Ai (ys.length:Int)),(8,Ai σ.2.1)]) (λσ=>[.blk ha [AE 4 (A3 Ab v)] 28]) (λσ=>σ.1) (F,0,()) hj (A5.c rfl (A5.c rfl (A5.c rfl (A5.c rfl A5.nil)))) (sC sN) (λσ=>Kx =some r) (λσ=>[]) (λσ=>[.blk ha [AE 4 (A3 Ab v)] 28]) ?_ ?_))))))))))
 ·rintro⟨h4,hb,⟨⟩⟩ hk;refine B3 (l':=[(0,AE 1 (A3 Ae ys)),(1,rv (.func (.func 109) #[] #[(.pointer (some ⟨ha,0,none⟩))])),(7,Ai (ys.length:Int)),(8,Ai hb)]) (H':=[.blk ha [AE 4 (A3 Ab v)] 28]) rfl rfl ?_;obtain⟨hl,rfl,hm,he,hg⟩:=Ch hk;replace he:HX F ys v hb=some hm:=he;unfold HX at he;refine Ah (wv (Cr rfl rfl) (Al (Ao (cz he rfl (λhn ho=>?_) (λhn hp=>?_)))))
  ·refine Av (AH (Ao (AB (Ah (wm rfl (wa rfl (AX (wm rfl (wm rfl (wm rfl (ck ho λhq hr=>wv (AU (enc:=Ae) (ys:=ys) BM BY rfl rfl hq) (wv (AJ CC rfl rfl) (ob hr λhs ht hu=>C4 (rs:=[AE 4 (A3 Ab (Ax ys hb))]) (Hin:=[.blk ha [AE 4 (A3 Ab v)] 28]) (Hr:=[]) Tryz.call109 rfl rfl (VF _) (Qs F ha (Ax ys hb) v hs ht) rfl ?_)))))))))))));rintro _ _ ⟨rfl,rfl⟩;refine Al (cz hu rfl (λhw hx=>?_) (λhw hy=>?_))
   ·refine Ah (wm rfl (wa rfl (Al (Aq (An (Ac (Ac (AN ?_))))))));have hz:=Bh hx hg hh;refine An (Ac ?_);obtain rfl:=Am hz;exact Ap (By El (A9 rfl)) (sC sN) ⟨rfl,rfl⟩
   ·refine Av (A8 (AH (Ak (ck hy λh0 h1=>wv (Bk rfl rfl h0) (wm rfl (Aj ?_))))));have h2:=Bc h1 hg;exact As (At (hl,hb+1,()) ⟨h2,VO _⟩ (A5.c rfl (A5.c rfl (A5.c rfl (A5.c rfl A5.nil)))) (sC sN))
  ·refine Bs (A0 ?_);have h3:=BF hp hg hh;exact A0 (AS (At ((),()) h3 A5.nil (sC sN)))
 ·rintro⟨⟨⟩,⟨⟩⟩ hf;refine Cj (l':=[]) (H':=[.blk ha [AE 4 (A3 Ab v)] 28]) rfl rfl ?_;replace hf:Kx =some r:=hf;unfold Kx at hf;refine AW (AH (Ah (wv (r:=Ai (-1)) (AD rfl) (Al (Aq ?_)))));obtain rfl:=Am hf;exact Ap (By El (A9 rfl)) (sC sN) ⟨rfl,rfl⟩
theorem U7 (F:Nat)(ha:Nat)(ys:(List (List Aa)))(v:(List Aa))(r:Bool)(h:RU F ys v=some r):Fn Tryz.prog GE 108 [AE 1 (A3 Ae ys),rv (.func (.func 109) #[] #[(.pointer (some ⟨ha,0,none⟩))])] [.blk ha [AE 4 (A3 Ab v)] 28] (λR H=>R=rB r∧H=[.blk ha [AE 4 (A3 Ab v)] 28]):=by
 refine enter (n:=9) JL rfl JH rfl (λw Z=>?_);unfold RU at h;refine Ah (wa rfl (AX (wm rfl (wm rfl (ob h λr1 e3 h2=>Dm (Hr:=[]) JI (Ug F ha ys v r1 e3) rfl (VF _) rfl ?_)))));rintro _ _ ⟨rfl,rfl⟩;refine wv (Hz rfl rfl) (wa rfl (Al (Aq ?_)));obtain rfl:=Am h2;exact Ap (By JF (A9 rfl)) (sC sN) ⟨rfl,rfl⟩
theorem HI (F:Nat)(l:(List (List Aa)))(v:(List Aa))(r:Bool)(h:He F l v=some r):Fn Tryz.prog GE 78 [AE 1 (A3 Ae l),AE 4 (A3 Ab v)] [] (λR H=>R=rB r∧H=[]):=by
 refine enter (n:=8) Tryz.func78 rfl Tryz.ntmps78 rfl (λw Z=>?_);unfold He at h;refine Ah (JO rfl (B2 rfl) rfl (λb1=>?_));refine wa rfl (AX (wm rfl (wv (r:=rv (.func (.func 109) #[] #[(.pointer (some ⟨b1,0,none⟩))])) (BA rfl) (ob h λr2 e4 h3=>Dm (Hr:=[]) JJ (U7 F b1 l v r2 e4) rfl (VF _) rfl ?_))));rintro _ _ ⟨rfl,rfl⟩;refine wa rfl (Al (Aq ?_));obtain rfl:=Am h3;exact Ap (By Tryz.results78 (A9 rfl)) (sS sN) ⟨rfl,rfl⟩
theorem J5 (v:(List Aa))(pre:Ar)(r:Bool)(h:Hc v pre=some r):Fn Tryz.prog GE 79 [AE 4 (A3 Ab v),rS pre] [] (λR H=>R=rB r∧H=[]):=by
 refine enter (n:=18) Tryz.func79 rfl Tryz.ntmps79 rfl (λw Z=>?_);unfold Hc at h;refine Ah (wa rfl (Al (ck h λg1 h2=>ck h2 λg3 h4=>AM [(4,rB ((decide (((Ax v 0).fKind)=4))&&(ov (CJ ((Ax v 0).fStr) pre))))] [] ?_ ?_)))
 ·refine Ak (wm rfl (wv (AU (enc:=Ab) (ys:=v) B0 BI rfl rfl g1) (wv (AQ B9 rfl Dw rfl rfl) (wv (AJ DN rfl rfl) (wv (Bx rfl rfl) (wm rfl (AV (decide (((Ax v 0).fKind)=4)) (λc5=>?_) (λc5=>?_))))))))
  ·refine wo c5 (wm rfl (wo c5 (wv (AU (enc:=Ab) (ys:=v) B0 BI rfl rfl g1) (wo c5 (wv (AQ B9 rfl CE rfl rfl) (wo c5 (wv (AJ CP rfl rfl) (wo c5 (wm rfl (wo c5 (Ct Tryz.call98 (EQ ((Ax v 0).fStr) pre (ov (CJ ((Ax v 0).fStr) pre)) (EX (D3 g3 c5))) rfl (C7 rfl c5 rfl (wa rfl (Aj ?_))))))))))))));exact Cq c5
  ·refine wf c5 (wf c5 (wf c5 (wf c5 (wf c5 (wf c5 (wv (r:=rB false) (Aw rfl c5 rfl) (wa rfl (Aj ?_))))))));exact Cq c5
 refine Aq ?_;obtain rfl:=Am h4;exact Ap (By Tryz.results79 (A9 rfl)) sN ⟨rfl,rfl⟩
theorem J2 (v:(List Aa))(low:Int)(high:Int)(r:Bool)(h:GZ v low high=some r):Fn Tryz.prog GE 80 [AE 4 (A3 Ab v),Ai low,Ai high] [] (λR H=>R=rB r∧H=[]):=by
 refine enter (n:=28) Tryz.func80 rfl Tryz.ntmps80 rfl (λw Z=>?_);unfold GZ at h;refine Ah (wa rfl (Al (ck h λg1 h2=>AM [(6,rB ((decide (((Ax v 0).fKind)=3))&&((decide (low≤((Ax v 0).fInt)))&&(decide (((Ax v 0).fInt)≤high)))))] [] ?_ ?_)))
 ·refine Ak (wm rfl (wv (AU (enc:=Ab) (ys:=v) B0 BI rfl rfl g1) (wv (AQ B9 rfl Dw rfl rfl) (wv (AJ DN rfl rfl) (wv (Bx rfl rfl) (wm rfl (AV (decide (((Ax v 0).fKind)=3)) (λc3=>?_) (λc3=>?_))))))))
  ·refine wo c3 (wm rfl (wo c3 (wm rfl (wo c3 (wv (AU (enc:=Ab) (ys:=v) B0 BI rfl rfl g1) (wo c3 (wv (AQ B9 rfl BH rfl rfl) (wo c3 (wv (AJ Cc rfl rfl) (wo c3 (wv (Lf rfl rfl) (C7 rfl c3 rfl (wm rfl (AV (decide (low≤((Ax v 0).fInt))) (λc4=>?_) (λc4=>?_)))))))))))))))
   ·refine wo c4 (wm rfl (wo c4 (wv (AU (enc:=Ab) (ys:=v) B0 BI rfl rfl g1) (wo c4 (wv (AQ B9 rfl BH rfl rfl) (wo c4 (wv (AJ Cc rfl rfl) (wo c4 (wm rfl (wo c4 (wv (Lf rfl rfl) (C7 rfl c4 rfl (wa rfl (Aj ?_))))))))))))));exact Cq (And.intro c3 c4)
   ·refine wf c4 (wf c4 (wf c4 (wf c4 (wf c4 (wf c4 (wv (r:=rB false) (Aw rfl c4 rfl) (wa rfl (Aj ?_))))))));exact Cq (And.intro c3 c4)
  ·refine wf c3 (wf c3 (wf c3 (wf c3 (wf c3 (wf c3 (wv (r:=rB false) (Aw rfl c3 rfl) (wm rfl (wz rfl rfl (wz rfl rfl (wz rfl rfl (wz rfl rfl (wz rfl rfl (wz rfl rfl (wv (r:=rB false) (Aw (b:=false) rfl rfl rfl) (wa rfl (Aj ?_))))))))))))))));exact Cq c3
 refine Aq ?_;obtain rfl:=Am h2;exact Ap (By Tryz.results80 (A9 rfl)) sN ⟨rfl,rfl⟩
theorem Th (F:Nat)(f:Af)(v:(List Aa))(r:Bool)(h:JX F f v=some r):Fn Tryz.prog GE 37 [Bv (Ad f),AE 4 (A3 Ab v)] [] (λR H=>R=rB r∧H=[]):=by
 refine enter (n:=48) Tryz.func37 rfl Tryz.ntmps37 rfl (λw Z=>?_);unfold JX at h;refine Ah (Bt rfl rfl (λb1=>?_));refine wa rfl (AX (wm rfl (vF AK rfl Gh (vL 0 Hx rfl (ob h λr2 e4 h3=>Ct Tryz.call77 (S7 F v f.fPath r2 e4) rfl (wm rfl (wv (A7 rfl rfl) (wv (A7 rfl rfl) (wa rfl (wa rfl (Al (Ao (Ah (wm rfl (wv (Bg rfl rfl) (Al (cz h3 rfl (λc5 h6=>?_) (λc5 h7=>?_))))))))))))))))))
 ·refine Ah (vF AK rfl BZ (vL 0 Cb rfl (wv (Bx rfl rfl) (wa rfl (Al (Aq (Ac ?_)))))));obtain rfl:=Am h6;exact Ap (By Oe (A9 rfl)) (sS sN) ⟨rfl,rfl⟩
 ·refine Av (AH (Ao (Ah (vF AK rfl BZ (vL 0 Cb rfl (Al (AB (Ah (wv (Bx rfl rfl) (wa rfl (Al (cz h7 rfl (λc8 h9=>?_) (λc8 hf=>?_)))))))))))))
  ·refine Ah (wa rfl (Al (Aq (An (Ac ?_)))));obtain rfl:=Am h9;exact Ap (By Oe (A9 rfl)) (sS sN) ⟨rfl,rfl⟩
  ·refine Ao (Ah (wv (Bx rfl rfl) (wa rfl (Al (cz hf rfl (λhe hg=>?_) (λhe hh=>?_))))))
   ·refine Av (AH (De rfl he (Ao (ob hg λha hi hj=>Cz [2,5] [⟨[],rP b1 2,0⟩,⟨[0],AE 1 (A3 Ae f.fValues),1⟩,⟨[],AE 4 (A3 Ab r2.1),0⟩,⟨[1,2],rB ha,0⟩,⟨[],rP b1 1,0⟩,⟨[4],Ai f.fOp,1⟩,⟨[5],rB (decide (f.fOp=3)),0⟩,⟨[3,6],rB (ha ==(decide (f.fOp=3))),0⟩,⟨[7],rB (ha ==(decide (f.fOp=3))),0⟩] [4] ?_ ?_))))
    ·refine oq (AA AK rfl CG rfl rfl) (of (Bb (i:=0) CS rfl rfl rfl) (oq (A4 rfl) (Dj rfl (λH=>Ec QF (HI F f.fValues r2.1 ha hi) rfl) ?_)));refine oq (AA AK rfl BZ rfl rfl) (of (Bb (i:=0) Cb rfl rfl rfl) (oq (Bx rfl rfl) (oq (Rw Tryz.underlying4 rfl rfl) (oq (AD rfl) ?_))));exact Cd
    refine AH (Aq (An (Ac ?_)));obtain rfl:=Am hj;exact Ap (By Oe (A9 rfl)) (sS sN) ⟨rfl,rfl⟩
   ·refine Ak (wv (Bx rfl rfl) (wa rfl (Al (cz hh rfl (λhk hl=>?_) (λhk hm=>?_)))))
    ·refine Ao (ob hl λhb hn ho=>Cz [2,5] [⟨[],rP b1 2,0⟩,⟨[0],AE 1 (A3 Ae f.fValues),1⟩,⟨[],AE 4 (A3 Ab r2.1),0⟩,⟨[1,2],rB hb,0⟩,⟨[],rP b1 1,0⟩,⟨[4],Ai f.fOp,1⟩,⟨[5],rB (decide (f.fOp=3)),0⟩,⟨[3,6],rB (hb ==(decide (f.fOp=3))),0⟩,⟨[7],rB (hb ==(decide (f.fOp=3))),0⟩] [4] ?_ ?_)
     ·refine oq (AA AK rfl CG rfl rfl) (of (Bb (i:=0) CS rfl rfl rfl) (oq (A4 rfl) (Dj rfl (λH=>Ec QF (HI F f.fValues r2.1 hb hn) rfl) ?_)));refine oq (AA AK rfl BZ rfl rfl) (of (Bb (i:=0) Cb rfl rfl rfl) (oq (Bx rfl rfl) (oq (Rw Tryz.underlying4 rfl rfl) (oq (AD rfl) ?_))));exact Cd
     refine AH (Aq (An (Ac ?_)));obtain rfl:=Am ho;exact Ap (By Oe (A9 rfl)) (sS sN) ⟨rfl,rfl⟩
    ·refine Ah (wv (Bx rfl rfl) (wa rfl (Al (cz hm rfl (λhp hq=>?_) (λhp hr=>?_)))))
     ·refine Ah (wm rfl (vF AK rfl CE (vL 0 CP rfl (ob hq λhs ht hu=>Ct Tryz.call79 (J5 r2.1 f.fText hs ht) rfl (wa rfl (Al (Aq (An (Ac ?_)))))))));obtain rfl:=Am hu;exact Ap (By Oe (A9 rfl)) (sS sN) ⟨rfl,rfl⟩
     ·refine Ah (wv (Bx rfl rfl) (wa rfl (Al (cz hr rfl (λhw hx=>?_) (λhw hy=>?_)))))
      ·refine Ah (wm rfl (vF AK rfl BH (vL 0 Cc rfl (vF AK rfl BH (vL 0 Cc rfl (ob hx λhz h0 h1=>Ct Tryz.call80 (J2 r2.1 f.fLow f.fHigh hz h0) rfl (wa rfl (Al (Aq (An (Ac ?_)))))))))));obtain rfl:=Am h1;exact Ap (By Oe (A9 rfl)) (sS sN) ⟨rfl,rfl⟩
      ·refine Av (A8 (AH (Ah (wa rfl (Al (Aq ?_))))));obtain rfl:=Am hy;exact Ap (By Oe (A9 rfl)) (sS sN) ⟨rfl,rfl⟩
theorem Lp (F:Nat)(f:Af)(v:(List Aa))(r:Bool)(h:Gc F f v=some r):Fn Tryz.prog GE 15 [Bv (Ad f),AE 4 (A3 Ab v)] [] (λR H=>R=rB r∧H=[]):=by
 refine enter (n:=18) Tryz.func15 rfl Tryz.ntmps15 rfl (λw Z=>?_);unfold Gc at h;refine Ah (Bt rfl rfl (λb1=>?_));refine wa rfl (Al (ck h λg2 h3=>ck h3 λg4 h5=>ck h5 λg6 h7=>AM [(4,rB ((decide ((ov (C3 F f))=0))&&((decide ((ov (CO F v))=0))&&(ov (JX F f v)))))] [] ?_ ?_))
 ·refine Ak (wv (AG (i:=0) BN B1 rfl rfl rfl rfl) (Ct QJ (HH F f (ov (C3 F f)) (EX g2)) rfl (wv (Bx rfl rfl) (wm rfl (AV (decide ((ov (C3 F f))=0)) (λc8=>?_) (λc8=>?_))))))
  ·refine wo c8 (wm rfl (wo c8 (Ct LC (Do F v (ov (CO F v)) (EX (D3 g4 c8))) rfl (wo c8 (wv (Bx rfl rfl) (C7 rfl c8 rfl (wm rfl (AV (decide ((ov (CO F v))=0)) (λc9=>?_) (λc9=>?_)))))))))
   ·refine wo c9 (wv (AG (i:=0) BN B1 rfl rfl rfl rfl) (wo c9 (wm rfl (wo c9 (Ct Tryz.call37 (Th F f v (ov (JX F f v)) (EX (D3 (D3 g6 c8) c9))) rfl (C7 rfl c9 rfl (wa rfl (Aj ?_))))))));exact Cq (And.intro c8 c9)
   ·refine wf c9 (wf c9 (wf c9 (wv (r:=rB false) (Aw rfl c9 rfl) (wa rfl (Aj ?_)))));exact Cq (And.intro c8 c9)
  ·refine wf c8 (wf c8 (wf c8 (wv (r:=rB false) (Aw rfl c8 rfl) (wm rfl (wz rfl rfl (wz rfl rfl (wz rfl rfl (wv (r:=rB false) (Aw (b:=false) rfl rfl rfl) (wa rfl (Aj ?_))))))))));exact Cq c8
 refine Aq ?_;obtain rfl:=Am h7;exact Ap (By Tryz.results15 (A9 rfl)) sN ⟨rfl,rfl⟩
theorem Qm (F:Nat)(ha:Nat)(f:Af)(v:(List Aa))(r:Bool)(h:MG F f v=some r):Fn Tryz.prog GE 43 [Bv (Ad f),rP ha 0] [.blk ha [AE 4 (A3 Ab v)] 28] (λR H=>R=rB r∧H=[.blk ha [AE 4 (A3 Ab v)] 28]):=by
 refine enter (n:=8) Tryz.func43 rfl Tryz.ntmps43 rfl (λw Z=>?_);unfold MG at h;refine Ah (Bt rfl rfl (λb1=>?_));refine wa rfl (AX (wv (AG (i:=0) BN B1 rfl rfl rfl rfl) (vL 1 CC rfl (ob h λr2 e4 h3=>Ct QI (Lp F f v r2 e4) rfl (wv (Bz rfl) (wa rfl (Al (Aq ?_))))))));obtain rfl:=Am h3;exact Ap (By Tryz.results43 (A9 rfl)) (sS (sC sN)) ⟨rfl,rfl⟩
theorem Vc (F:Nat)(ha:Nat)(ys:(List Af))(v:(List Aa))(r:Int)(h:Vz F ys v=some r):Fn Tryz.prog GE 84 [AE 6 (A3 Ad ys),rv (.func (.func 43) #[] #[(.pointer (some ⟨ha,0,none⟩))])] [.blk ha [AE 4 (A3 Ab v)] 28] (λR H=>R=Ai r∧H=[.blk ha [AE 4 (A3 Ab v)] 28]):=by
 refine enter (n:=19) Tryz.func84 rfl Tryz.ntmps84 rfl (λw Z=>?_);unfold Vz at h;refine Ah (wa rfl (Al (Ao (Ah (wm rfl (wv (AL (ys:=ys) (enc:=Ad) TL rfl) (wv (r:=Ai 0) (A4 rfl) (Al (AB (ob h λhi hj hh=>Bi (S:=Nat×(Int)×(Unit)) (V:=(Unit)×(Unit)) 0 (λσ=>BW (λσ=>MC F ys v σ) σ.1 σ.2.1=some hi) (λσ=>[(0,AE 6 (A3 Ad ys)),(1,rv (.func (.func 43) #[] #[(.pointer (some ⟨ha,0,none⟩))])),(7,Ai (ys.length:Int)),(8,Ai σ.2.1)]) (λσ=>[.blk ha [AE 4 (A3 Ab v)] 28]) (λσ=>σ.1) (F,0,()) hj (A5.c rfl (A5.c rfl (A5.c rfl (A5.c rfl A5.nil)))) (sC sN) (λσ=>MB =some r) (λσ=>[]) (λσ=>[.blk ha [AE 4 (A3 Ab v)] 28]) ?_ ?_))))))))))
 ·rintro⟨h4,hb,⟨⟩⟩ hk;refine B3 (l':=[(0,AE 6 (A3 Ad ys)),(1,rv (.func (.func 43) #[] #[(.pointer (some ⟨ha,0,none⟩))])),(7,Ai (ys.length:Int)),(8,Ai hb)]) (H':=[.blk ha [AE 4 (A3 Ab v)] 28]) rfl rfl ?_;obtain⟨hl,rfl,hm,he,hg⟩:=Ch hk;replace he:MC F ys v hb=some hm:=he;unfold MC at he;refine Ah (wv (Cr rfl rfl) (Al (Ao (cz he rfl (λhn ho=>?_) (λhn hp=>?_)))))
  ·refine Av (AH (Ao (AB (Ah (wm rfl (wa rfl (AX (wm rfl (wm rfl (wm rfl (ck ho λhq hr=>wv (AU (enc:=Ad) (ys:=ys) TL B1 rfl rfl hq) (wv (DQ BN B1 rfl rfl rfl) (ob hr λhs ht hu=>C4 (rs:=[Bv (Ad (Ax ys hb))]) (Hin:=[.blk ha [AE 4 (A3 Ab v)] 28]) (Hr:=[]) Tryz.call43 rfl rfl (VF _) (Qm F ha (Ax ys hb) v hs ht) rfl ?_)))))))))))));rintro _ _ ⟨rfl,rfl⟩;refine Al (cz hu rfl (λhw hx=>?_) (λhw hy=>?_))
   ·refine Ah (wm rfl (wa rfl (Al (Aq (An (Ac (Ac (AN ?_))))))));have hz:=Bh hx hg hh;refine An (Ac ?_);obtain rfl:=Am hz;exact Ap (By Tryz.results84 (A9 rfl)) (sC sN) ⟨rfl,rfl⟩
   ·refine Av (A8 (AH (Ak (ck hy λh0 h1=>wv (Bk rfl rfl h0) (wm rfl (Aj ?_))))));have h2:=Bc h1 hg;exact As (At (hl,hb+1,()) ⟨h2,VO _⟩ (A5.c rfl (A5.c rfl (A5.c rfl (A5.c rfl A5.nil)))) (sC sN))
  ·refine Bs (A0 ?_);have h3:=BF hp hg hh;exact A0 (AS (At ((),()) h3 A5.nil (sC sN)))
 ·rintro⟨⟨⟩,⟨⟩⟩ hf;refine Cj (l':=[]) (H':=[.blk ha [AE 4 (A3 Ab v)] 28]) rfl rfl ?_;replace hf:MB =some r:=hf;unfold MB at hf;refine AW (AH (Ah (wv (r:=Ai (-1)) (AD rfl) (Al (Aq ?_)))));obtain rfl:=Am hf;exact Ap (By Tryz.results84 (A9 rfl)) (sC sN) ⟨rfl,rfl⟩
theorem Vh (F:Nat)(ha:Nat)(ys:(List Af))(v:(List Aa))(r:Bool)(h:V0 F ys v=some r):Fn Tryz.prog GE 42 [AE 6 (A3 Ad ys),rv (.func (.func 43) #[] #[(.pointer (some ⟨ha,0,none⟩))])] [.blk ha [AE 4 (A3 Ab v)] 28] (λR H=>R=rB r∧H=[.blk ha [AE 4 (A3 Ab v)] 28]):=by
 refine enter (n:=9) Tryz.func42 rfl Tryz.ntmps42 rfl (λw Z=>?_);unfold V0 at h;refine Ah (wa rfl (AX (wm rfl (wm rfl (ob h λr1 e3 h2=>Dm (Hr:=[]) Tryz.call84 (Vc F ha ys v r1 e3) rfl (VF _) rfl ?_)))));rintro _ _ ⟨rfl,rfl⟩;refine wv (Hz rfl rfl) (wa rfl (Al (Aq ?_)));obtain rfl:=Am h2;exact Ap (By Tryz.results42 (A9 rfl)) (sC sN) ⟨rfl,rfl⟩
theorem RG (F:Nat)(l:(List Af))(v:(List Aa))(r:Bool)(h:O5 F l v=some r):Fn Tryz.prog GE 17 [AE 6 (A3 Ad l),AE 4 (A3 Ab v)] [] (λR H=>R=rB r∧H=[]):=by
 refine enter (n:=19) Tryz.func17 rfl Tryz.ntmps17 rfl (λw Z=>?_);unfold O5 at h;refine Ah (JO rfl (B2 rfl) rfl (λb1=>?_));refine wa rfl (Al (BE (S:=(Bool)×(Unit)) (λσ=>Ex σ.1=some r) (λσ=>[(4,rB σ.1)]) (λσ=>[]) ?_ ?_))
 ·refine Ak (wm rfl (wv (AL (ys:=l) (enc:=Ad) TL rfl) (wv (Lf rfl rfl) (wm rfl (bz h (λhb hh=>?_) (λhb hi=>?_))))))
  ·refine wo hb (vL 0 CC rfl (wo hb (ob hh λhj hk hl=>Ct LC (Do F v hj hk) rfl (wo hb (wv (Bx rfl rfl) (C7 rfl hb rfl (wm rfl (bz hl (λha hm=>?_) (λha hn=>?_)))))))))
   ·refine wo ha (wm rfl (wo ha (wv (r:=rv (.func (.func 43) #[] #[(.pointer (some ⟨b1,0,none⟩))])) (BA rfl) (wo ha (ob hm λhf ho hp=>Dm (Hr:=[]) Tryz.call42 (Vh F b1 l v hf ho) rfl (VF _) rfl ?_)))));rintro _ _ ⟨rfl,rfl⟩;exact wo ha (wv (Bz rfl) (C7 rfl ha rfl (wa rfl (Aj (As (At (!hf,()) hp (A5.c rfl A5.nil) (sS sN)))))))
   ·exact wf ha (wf ha (wf ha (wf ha (wv (r:=rB false) (Aw rfl ha rfl) (wa rfl (Aj (As (At (false,()) hn (A5.c rfl A5.nil) (sS sN)))))))))
  ·exact wf hb (wf hb (wf hb (wv (r:=rB false) (Aw rfl hb rfl) (wm rfl (wz rfl rfl (wz rfl rfl (wz rfl rfl (wz rfl rfl (wv (r:=rB false) (Aw (b:=false) rfl rfl rfl) (wa rfl (Aj (As (At (false,()) hi (A5.c rfl A5.nil) (sS sN))))))))))))))
 ·rintro⟨hg,⟨⟩⟩ he;refine B3 (l':=[(4,rB hg)]) (H':=[]) rfl rfl ?_;replace he:Ex hg=some r:=he;unfold Ex at he;refine Aq ?_;obtain rfl:=Am he;exact Ap (By Tryz.results17 (A9 rfl)) sN ⟨rfl,rfl⟩
theorem Uv (F:Nat)(ha:Nat)(v:(List Aa))(a:Af)(r:Bool)(h:To F v a=some r):Fn Tryz.prog GE 132 [AE 4 (A3 Ab v),rP ha 0] [.blk ha (Ad a) 26] (λR H=>R=rB r∧H=[.blk ha (Ad a) 26]):=by
 refine enter (n:=9) Tryz.func132 rfl Tryz.ntmps132 rfl (λw Z=>?_);unfold To at h;refine Ah (wa rfl (AX (vF AK rfl CG (vL 0 CS rfl (wm rfl (ob h λr1 e3 h2=>Ct QF (HI F a.fValues v r1 e3) rfl (wv (Bz rfl) (wa rfl (Al (Aq ?_))))))))));obtain rfl:=Am h2;exact Ap (By Tryz.results132 (A9 rfl)) (sC sN) ⟨rfl,rfl⟩
theorem SZ (F:Nat)(ha:Nat)(ys:(List (List Aa)))(a:Af)(r:Int)(h:Pj F ys a=some r):Fn Tryz.prog GE 141 [AE 1 (A3 Ae ys),rv (.func (.func 132) #[] #[(.pointer (some ⟨ha,0,none⟩))])] [.blk ha (Ad a) 26] (λR H=>R=Ai r∧H=[.blk ha (Ad a) 26]):=by
 refine enter (n:=19) JK rfl JG rfl (λw Z=>?_);unfold Pj at h;refine Ah (wa rfl (Al (Ao (Ah (wm rfl (wv (AL (ys:=ys) (enc:=Ae) BM rfl) (wv (r:=Ai 0) (A4 rfl) (Al (AB (ob h λhi hj hh=>Bi (S:=Nat×(Int)×(Unit)) (V:=(Unit)×(Unit)) 0 (λσ=>BW (λσ=>Gy F ys a σ) σ.1 σ.2.1=some hi) (λσ=>[(0,AE 1 (A3 Ae ys)),(1,rv (.func (.func 132) #[] #[(.pointer (some ⟨ha,0,none⟩))])),(7,Ai (ys.length:Int)),(8,Ai σ.2.1)]) (λσ=>[.blk ha (Ad a) 26]) (λσ=>σ.1) (F,0,()) hj (A5.c rfl (A5.c rfl (A5.c rfl (A5.c rfl A5.nil)))) (sC sN) (λσ=>Ja =some r) (λσ=>[]) (λσ=>[.blk ha (Ad a) 26]) ?_ ?_))))))))))
 ·rintro⟨h4,hb,⟨⟩⟩ hk;refine B3 (l':=[(0,AE 1 (A3 Ae ys)),(1,rv (.func (.func 132) #[] #[(.pointer (some ⟨ha,0,none⟩))])),(7,Ai (ys.length:Int)),(8,Ai hb)]) (H':=[.blk ha (Ad a) 26]) rfl rfl ?_;obtain⟨hl,rfl,hm,he,hg⟩:=Ch hk;replace he:Gy F ys a hb=some hm:=he;unfold Gy at he;refine Ah (wv (Cr rfl rfl) (Al (Ao (cz he rfl (λhn ho=>?_) (λhn hp=>?_)))))
  ·refine Av (AH (Ao (AB (Ah (wm rfl (wa rfl (AX (wm rfl (wm rfl (wm rfl (ck ho λhq hr=>wv (AU (enc:=Ae) (ys:=ys) BM BY rfl rfl hq) (wv (AJ CC rfl rfl) (ob hr λhs ht hu=>C4 (rs:=[AE 4 (A3 Ab (Ax ys hb))]) (Hin:=[.blk ha (Ad a) 26]) (Hr:=[]) Tryz.call132 rfl rfl (VF _) (Uv F ha (Ax ys hb) a hs ht) rfl ?_)))))))))))));rintro _ _ ⟨rfl,rfl⟩;refine Al (cz hu rfl (λhw hx=>?_) (λhw hy=>?_))
   ·refine Ah (wm rfl (wa rfl (Al (Aq (An (Ac (Ac (AN ?_))))))));have hz:=Bh hx hg hh;refine An (Ac ?_);obtain rfl:=Am hz;exact Ap (By El (A9 rfl)) (sC sN) ⟨rfl,rfl⟩
   ·refine Av (A8 (AH (Ak (ck hy λh0 h1=>wv (Bk rfl rfl h0) (wm rfl (Aj ?_))))));have h2:=Bc h1 hg;exact As (At (hl,hb+1,()) ⟨h2,VO _⟩ (A5.c rfl (A5.c rfl (A5.c rfl (A5.c rfl A5.nil)))) (sC sN))
  ·refine Bs (A0 ?_);have h3:=BF hp hg hh;exact A0 (AS (At ((),()) h3 A5.nil (sC sN)))
 ·rintro⟨⟨⟩,⟨⟩⟩ hf;refine Cj (l':=[]) (H':=[.blk ha (Ad a) 26]) rfl rfl ?_;replace hf:Ja =some r:=hf;unfold Ja at hf;refine AW (AH (Ah (wv (r:=Ai (-1)) (AD rfl) (Al (Aq ?_)))));obtain rfl:=Am hf;exact Ap (By El (A9 rfl)) (sC sN) ⟨rfl,rfl⟩
theorem T1 (F:Nat)(ha:Nat)(ys:(List (List Aa)))(a:Af)(r:Bool)(h:NV F ys a=some r):Fn Tryz.prog GE 108 [AE 1 (A3 Ae ys),rv (.func (.func 132) #[] #[(.pointer (some ⟨ha,0,none⟩))])] [.blk ha (Ad a) 26] (λR H=>R=rB r∧H=[.blk ha (Ad a) 26]):=by
 refine enter (n:=9) JL rfl JH rfl (λw Z=>?_);unfold NV at h;refine Ah (wa rfl (AX (wm rfl (wm rfl (ob h λr1 e3 h2=>Dm (Hr:=[]) JI (SZ F ha ys a r1 e3) rfl (VF _) rfl ?_)))));rintro _ _ ⟨rfl,rfl⟩;refine wv (Hz rfl rfl) (wa rfl (Al (Aq ?_)));obtain rfl:=Am h2;exact Ap (By JF (A9 rfl)) (sC sN) ⟨rfl,rfl⟩
theorem RF (F:Nat)(ha:Nat)(f:Af)(a:Af)(r:Bool)(h:Lt F f a=some r):Fn Tryz.prog GE 131 [Bv (Ad f),rv (.func (.func 132) #[] #[(.pointer (some ⟨ha,0,none⟩))])] [.blk ha (Ad a) 26] (λR H=>R=rB r∧H=[.blk ha (Ad a) 26]):=by
 refine enter (n:=10) Tryz.func131 rfl Tryz.ntmps131 rfl (λw Z=>?_);unfold Lt at h;refine Ah (Bt rfl rfl (λb1=>?_));refine wa rfl (AX (vF AK rfl CG (vL 0 CS rfl (wm rfl (ob h λr2 e4 h3=>Dm (Hr:=[.blk b1 (Ad f) 26]) JJ (T1 F ha f.fValues a r2 e4) rfl ((Az (i:=1) rfl).trans (VG _ (VF _))) rfl ?_)))));rintro _ _ ⟨rfl,rfl⟩;refine wv (Bz rfl) (wa rfl (Al (Aq ?_)));obtain rfl:=Am h3;exact Ap (By OI (A9 rfl)) (sC (sS sN)) ⟨rfl,rfl⟩
theorem Uu (F:Nat)(ha:Nat)(v:(List Aa))(b:Af)(r:Bool)(h:Tn F v b=some r):Fn Tryz.prog GE 133 [AE 4 (A3 Ab v),rP ha 0] [.blk ha (Ad b) 26] (λR H=>R=rB r∧H=[.blk ha (Ad b) 26]):=by
 refine enter (n:=8) Tryz.func133 rfl Tryz.ntmps133 rfl (λw Z=>?_);unfold Tn at h;refine Ah (wa rfl (AX (vF AK rfl CG (vL 0 CS rfl (wm rfl (ob h λr1 e3 h2=>Ct QF (HI F b.fValues v r1 e3) rfl (wa rfl (Al (Aq ?_)))))))));obtain rfl:=Am h2;exact Ap (By Tryz.results133 (A9 rfl)) (sC sN) ⟨rfl,rfl⟩
theorem SY (F:Nat)(ha:Nat)(ys:(List (List Aa)))(b:Af)(r:Int)(h:Pi F ys b=some r):Fn Tryz.prog GE 141 [AE 1 (A3 Ae ys),rv (.func (.func 133) #[] #[(.pointer (some ⟨ha,0,none⟩))])] [.blk ha (Ad b) 26] (λR H=>R=Ai r∧H=[.blk ha (Ad b) 26]):=by
 refine enter (n:=19) JK rfl JG rfl (λw Z=>?_);unfold Pi at h;refine Ah (wa rfl (Al (Ao (Ah (wm rfl (wv (AL (ys:=ys) (enc:=Ae) BM rfl) (wv (r:=Ai 0) (A4 rfl) (Al (AB (ob h λhi hj hh=>Bi (S:=Nat×(Int)×(Unit)) (V:=(Unit)×(Unit)) 0 (λσ=>BW (λσ=>Gx F ys b σ) σ.1 σ.2.1=some hi) (λσ=>[(0,AE 1 (A3 Ae ys)),(1,rv (.func (.func 133) #[] #[(.pointer (some ⟨ha,0,none⟩))])),(7,Ai (ys.length:Int)),(8,Ai σ.2.1)]) (λσ=>[.blk ha (Ad b) 26]) (λσ=>σ.1) (F,0,()) hj (A5.c rfl (A5.c rfl (A5.c rfl (A5.c rfl A5.nil)))) (sC sN) (λσ=>IZ =some r) (λσ=>[]) (λσ=>[.blk ha (Ad b) 26]) ?_ ?_))))))))))
 ·rintro⟨h4,hb,⟨⟩⟩ hk;refine B3 (l':=[(0,AE 1 (A3 Ae ys)),(1,rv (.func (.func 133) #[] #[(.pointer (some ⟨ha,0,none⟩))])),(7,Ai (ys.length:Int)),(8,Ai hb)]) (H':=[.blk ha (Ad b) 26]) rfl rfl ?_;obtain⟨hl,rfl,hm,he,hg⟩:=Ch hk;replace he:Gx F ys b hb=some hm:=he;unfold Gx at he;refine Ah (wv (Cr rfl rfl) (Al (Ao (cz he rfl (λhn ho=>?_) (λhn hp=>?_)))))
  ·refine Av (AH (Ao (AB (Ah (wm rfl (wa rfl (AX (wm rfl (wm rfl (wm rfl (ck ho λhq hr=>wv (AU (enc:=Ae) (ys:=ys) BM BY rfl rfl hq) (wv (AJ CC rfl rfl) (ob hr λhs ht hu=>C4 (rs:=[AE 4 (A3 Ab (Ax ys hb))]) (Hin:=[.blk ha (Ad b) 26]) (Hr:=[]) Tryz.call133 rfl rfl (VF _) (Uu F ha (Ax ys hb) b hs ht) rfl ?_)))))))))))));rintro _ _ ⟨rfl,rfl⟩;refine Al (cz hu rfl (λhw hx=>?_) (λhw hy=>?_))
   ·refine Ah (wm rfl (wa rfl (Al (Aq (An (Ac (Ac (AN ?_))))))));have hz:=Bh hx hg hh;refine An (Ac ?_);obtain rfl:=Am hz;exact Ap (By El (A9 rfl)) (sC sN) ⟨rfl,rfl⟩
   ·refine Av (A8 (AH (Ak (ck hy λh0 h1=>wv (Bk rfl rfl h0) (wm rfl (Aj ?_))))));have h2:=Bc h1 hg;exact As (At (hl,hb+1,()) ⟨h2,VO _⟩ (A5.c rfl (A5.c rfl (A5.c rfl (A5.c rfl A5.nil)))) (sC sN))
  ·refine Bs (A0 ?_);have h3:=BF hp hg hh;exact A0 (AS (At ((),()) h3 A5.nil (sC sN)))
 ·rintro⟨⟨⟩,⟨⟩⟩ hf;refine Cj (l':=[]) (H':=[.blk ha (Ad b) 26]) rfl rfl ?_;replace hf:IZ =some r:=hf;unfold IZ at hf;refine AW (AH (Ah (wv (r:=Ai (-1)) (AD rfl) (Al (Aq ?_)))));obtain rfl:=Am hf;exact Ap (By El (A9 rfl)) (sC sN) ⟨rfl,rfl⟩
theorem T0 (F:Nat)(ha:Nat)(ys:(List (List Aa)))(b:Af)(r:Bool)(h:NU F ys b=some r):Fn Tryz.prog GE 108 [AE 1 (A3 Ae ys),rv (.func (.func 133) #[] #[(.pointer (some ⟨ha,0,none⟩))])] [.blk ha (Ad b) 26] (λR H=>R=rB r∧H=[.blk ha (Ad b) 26]):=by
 refine enter (n:=9) JL rfl JH rfl (λw Z=>?_);unfold NU at h;refine Ah (wa rfl (AX (wm rfl (wm rfl (ob h λr1 e3 h2=>Dm (Hr:=[]) JI (SY F ha ys b r1 e3) rfl (VF _) rfl ?_)))));rintro _ _ ⟨rfl,rfl⟩;refine wv (Hz rfl rfl) (wa rfl (Al (Aq ?_)));obtain rfl:=Am h2;exact Ap (By JF (A9 rfl)) (sC sN) ⟨rfl,rfl⟩
theorem RE (F:Nat)(ha:Nat)(f:Af)(b:Af)(r:Bool)(h:Ls F f b=some r):Fn Tryz.prog GE 131 [Bv (Ad f),rv (.func (.func 133) #[] #[(.pointer (some ⟨ha,0,none⟩))])] [.blk ha (Ad b) 26] (λR H=>R=rB r∧H=[.blk ha (Ad b) 26]):=by
 refine enter (n:=10) Tryz.func131 rfl Tryz.ntmps131 rfl (λw Z=>?_);unfold Ls at h;refine Ah (Bt rfl rfl (λb1=>?_));refine wa rfl (AX (vF AK rfl CG (vL 0 CS rfl (wm rfl (ob h λr2 e4 h3=>Dm (Hr:=[.blk b1 (Ad f) 26]) JJ (T0 F ha f.fValues b r2 e4) rfl ((Az (i:=1) rfl).trans (VG _ (VF _))) rfl ?_)))));rintro _ _ ⟨rfl,rfl⟩;refine wv (Bz rfl) (wa rfl (Al (Aq ?_)));obtain rfl:=Am h3;exact Ap (By OI (A9 rfl)) (sC (sS sN)) ⟨rfl,rfl⟩
theorem Ut (ha:Nat)(v:(List Aa))(a:Af)(r:Bool)(h:Tm v a=some r):Fn Tryz.prog GE 134 [AE 4 (A3 Ab v),rP ha 0] [.blk ha (Ad a) 26] (λR H=>R=rB r∧H=[.blk ha (Ad a) 26]):=by
 refine enter (n:=8) Tryz.func134 rfl Tryz.ntmps134 rfl (λw Z=>?_);unfold Tm at h;refine Ah (wa rfl (AX (wm rfl (vF AK rfl CE (vL 0 CP rfl (ob h λr1 e3 h2=>Ct Tryz.call79 (J5 v a.fText r1 e3) rfl (wa rfl (Al (Aq ?_)))))))));obtain rfl:=Am h2;exact Ap (By Tryz.results134 (A9 rfl)) (sC sN) ⟨rfl,rfl⟩
theorem SX (F:Nat)(ha:Nat)(ys:(List (List Aa)))(a:Af)(r:Int)(h:Ph F ys a=some r):Fn Tryz.prog GE 141 [AE 1 (A3 Ae ys),rv (.func (.func 134) #[] #[(.pointer (some ⟨ha,0,none⟩))])] [.blk ha (Ad a) 26] (λR H=>R=Ai r∧H=[.blk ha (Ad a) 26]):=by
 refine enter (n:=19) JK rfl JG rfl (λw Z=>?_);unfold Ph at h;refine Ah (wa rfl (Al (Ao (Ah (wm rfl (wv (AL (ys:=ys) (enc:=Ae) BM rfl) (wv (r:=Ai 0) (A4 rfl) (Al (AB (ob h λhi hj hh=>Bi (S:=Nat×(Int)×(Unit)) (V:=(Unit)×(Unit)) 0 (λσ=>BW (λσ=>Gw ys a σ) σ.1 σ.2.1=some hi) (λσ=>[(0,AE 1 (A3 Ae ys)),(1,rv (.func (.func 134) #[] #[(.pointer (some ⟨ha,0,none⟩))])),(7,Ai (ys.length:Int)),(8,Ai σ.2.1)]) (λσ=>[.blk ha (Ad a) 26]) (λσ=>σ.1) (F,0,()) hj (A5.c rfl (A5.c rfl (A5.c rfl (A5.c rfl A5.nil)))) (sC sN) (λσ=>IY =some r) (λσ=>[]) (λσ=>[.blk ha (Ad a) 26]) ?_ ?_))))))))))
 ·rintro⟨h4,hb,⟨⟩⟩ hk;refine B3 (l':=[(0,AE 1 (A3 Ae ys)),(1,rv (.func (.func 134) #[] #[(.pointer (some ⟨ha,0,none⟩))])),(7,Ai (ys.length:Int)),(8,Ai hb)]) (H':=[.blk ha (Ad a) 26]) rfl rfl ?_;obtain⟨hl,rfl,hm,he,hg⟩:=Ch hk;replace he:Gw ys a hb=some hm:=he;unfold Gw at he;refine Ah (wv (Cr rfl rfl) (Al (Ao (cz he rfl (λhn ho=>?_) (λhn hp=>?_)))))
  ·refine Av (AH (Ao (AB (Ah (wm rfl (wa rfl (AX (wm rfl (wm rfl (wm rfl (ck ho λhq hr=>wv (AU (enc:=Ae) (ys:=ys) BM BY rfl rfl hq) (wv (AJ CC rfl rfl) (ob hr λhs ht hu=>C4 (rs:=[AE 4 (A3 Ab (Ax ys hb))]) (Hin:=[.blk ha (Ad a) 26]) (Hr:=[]) Tryz.call134 rfl rfl (VF _) (Ut ha (Ax ys hb) a hs ht) rfl ?_)))))))))))));rintro _ _ ⟨rfl,rfl⟩;refine Al (cz hu rfl (λhw hx=>?_) (λhw hy=>?_))
   ·refine Ah (wm rfl (wa rfl (Al (Aq (An (Ac (Ac (AN ?_))))))));have hz:=Bh hx hg hh;refine An (Ac ?_);obtain rfl:=Am hz;exact Ap (By El (A9 rfl)) (sC sN) ⟨rfl,rfl⟩
   ·refine Av (A8 (AH (Ak (ck hy λh0 h1=>wv (Bk rfl rfl h0) (wm rfl (Aj ?_))))));have h2:=Bc h1 hg;exact As (At (hl,hb+1,()) ⟨h2,VO _⟩ (A5.c rfl (A5.c rfl (A5.c rfl (A5.c rfl A5.nil)))) (sC sN))
  ·refine Bs (A0 ?_);have h3:=BF hp hg hh;exact A0 (AS (At ((),()) h3 A5.nil (sC sN)))
 ·rintro⟨⟨⟩,⟨⟩⟩ hf;refine Cj (l':=[]) (H':=[.blk ha (Ad a) 26]) rfl rfl ?_;replace hf:IY =some r:=hf;unfold IY at hf;refine AW (AH (Ah (wv (r:=Ai (-1)) (AD rfl) (Al (Aq ?_)))));obtain rfl:=Am hf;exact Ap (By El (A9 rfl)) (sC sN) ⟨rfl,rfl⟩
theorem Tz (F:Nat)(ha:Nat)(ys:(List (List Aa)))(a:Af)(r:Bool)(h:NT F ys a=some r):Fn Tryz.prog GE 108 [AE 1 (A3 Ae ys),rv (.func (.func 134) #[] #[(.pointer (some ⟨ha,0,none⟩))])] [.blk ha (Ad a) 26] (λR H=>R=rB r∧H=[.blk ha (Ad a) 26]):=by
 refine enter (n:=9) JL rfl JH rfl (λw Z=>?_);unfold NT at h;refine Ah (wa rfl (AX (wm rfl (wm rfl (ob h λr1 e3 h2=>Dm (Hr:=[]) JI (SX F ha ys a r1 e3) rfl (VF _) rfl ?_)))));rintro _ _ ⟨rfl,rfl⟩;refine wv (Hz rfl rfl) (wa rfl (Al (Aq ?_)));obtain rfl:=Am h2;exact Ap (By JF (A9 rfl)) (sC sN) ⟨rfl,rfl⟩
theorem RD (F:Nat)(ha:Nat)(f:Af)(a:Af)(r:Bool)(h:Lr F f a=some r):Fn Tryz.prog GE 131 [Bv (Ad f),rv (.func (.func 134) #[] #[(.pointer (some ⟨ha,0,none⟩))])] [.blk ha (Ad a) 26] (λR H=>R=rB r∧H=[.blk ha (Ad a) 26]):=by
 refine enter (n:=10) Tryz.func131 rfl Tryz.ntmps131 rfl (λw Z=>?_);unfold Lr at h;refine Ah (Bt rfl rfl (λb1=>?_));refine wa rfl (AX (vF AK rfl CG (vL 0 CS rfl (wm rfl (ob h λr2 e4 h3=>Dm (Hr:=[.blk b1 (Ad f) 26]) JJ (Tz F ha f.fValues a r2 e4) rfl ((Az (i:=1) rfl).trans (VG _ (VF _))) rfl ?_)))));rintro _ _ ⟨rfl,rfl⟩;refine wv (Bz rfl) (wa rfl (Al (Aq ?_)));obtain rfl:=Am h3;exact Ap (By OI (A9 rfl)) (sC (sS sN)) ⟨rfl,rfl⟩
theorem Us (ha:Nat)(v:(List Aa))(a:Af)(r:Bool)(h:Tl v a=some r):Fn Tryz.prog GE 135 [AE 4 (A3 Ab v),rP ha 0] [.blk ha (Ad a) 26] (λR H=>R=rB r∧H=[.blk ha (Ad a) 26]):=by
 refine enter (n:=10) Tryz.func135 rfl Tryz.ntmps135 rfl (λw Z=>?_);unfold Tl at h;refine Ah (wa rfl (AX (wm rfl (vF AK rfl BH (vL 0 Cc rfl (vF AK rfl BH (vL 0 Cc rfl (ob h λr1 e3 h2=>Ct Tryz.call80 (J2 v a.fLow a.fHigh r1 e3) rfl (wa rfl (Al (Aq ?_)))))))))));obtain rfl:=Am h2;exact Ap (By Tryz.results135 (A9 rfl)) (sC sN) ⟨rfl,rfl⟩
theorem SW (F:Nat)(ha:Nat)(ys:(List (List Aa)))(a:Af)(r:Int)(h:Pg F ys a=some r):Fn Tryz.prog GE 141 [AE 1 (A3 Ae ys),rv (.func (.func 135) #[] #[(.pointer (some ⟨ha,0,none⟩))])] [.blk ha (Ad a) 26] (λR H=>R=Ai r∧H=[.blk ha (Ad a) 26]):=by
 refine enter (n:=19) JK rfl JG rfl (λw Z=>?_);unfold Pg at h;refine Ah (wa rfl (Al (Ao (Ah (wm rfl (wv (AL (ys:=ys) (enc:=Ae) BM rfl) (wv (r:=Ai 0) (A4 rfl) (Al (AB (ob h λhi hj hh=>Bi (S:=Nat×(Int)×(Unit)) (V:=(Unit)×(Unit)) 0 (λσ=>BW (λσ=>Gv ys a σ) σ.1 σ.2.1=some hi) (λσ=>[(0,AE 1 (A3 Ae ys)),(1,rv (.func (.func 135) #[] #[(.pointer (some ⟨ha,0,none⟩))])),(7,Ai (ys.length:Int)),(8,Ai σ.2.1)]) (λσ=>[.blk ha (Ad a) 26]) (λσ=>σ.1) (F,0,()) hj (A5.c rfl (A5.c rfl (A5.c rfl (A5.c rfl A5.nil)))) (sC sN) (λσ=>IX =some r) (λσ=>[]) (λσ=>[.blk ha (Ad a) 26]) ?_ ?_))))))))))
 ·rintro⟨h4,hb,⟨⟩⟩ hk;refine B3 (l':=[(0,AE 1 (A3 Ae ys)),(1,rv (.func (.func 135) #[] #[(.pointer (some ⟨ha,0,none⟩))])),(7,Ai (ys.length:Int)),(8,Ai hb)]) (H':=[.blk ha (Ad a) 26]) rfl rfl ?_;obtain⟨hl,rfl,hm,he,hg⟩:=Ch hk;replace he:Gv ys a hb=some hm:=he;unfold Gv at he;refine Ah (wv (Cr rfl rfl) (Al (Ao (cz he rfl (λhn ho=>?_) (λhn hp=>?_)))))
  ·refine Av (AH (Ao (AB (Ah (wm rfl (wa rfl (AX (wm rfl (wm rfl (wm rfl (ck ho λhq hr=>wv (AU (enc:=Ae) (ys:=ys) BM BY rfl rfl hq) (wv (AJ CC rfl rfl) (ob hr λhs ht hu=>C4 (rs:=[AE 4 (A3 Ab (Ax ys hb))]) (Hin:=[.blk ha (Ad a) 26]) (Hr:=[]) Tryz.call135 rfl rfl (VF _) (Us ha (Ax ys hb) a hs ht) rfl ?_)))))))))))));rintro _ _ ⟨rfl,rfl⟩;refine Al (cz hu rfl (λhw hx=>?_) (λhw hy=>?_))
   ·refine Ah (wm rfl (wa rfl (Al (Aq (An (Ac (Ac (AN ?_))))))));have hz:=Bh hx hg hh;refine An (Ac ?_);obtain rfl:=Am hz;exact Ap (By El (A9 rfl)) (sC sN) ⟨rfl,rfl⟩
   ·refine Av (A8 (AH (Ak (ck hy λh0 h1=>wv (Bk rfl rfl h0) (wm rfl (Aj ?_))))));have h2:=Bc h1 hg;exact As (At (hl,hb+1,()) ⟨h2,VO _⟩ (A5.c rfl (A5.c rfl (A5.c rfl (A5.c rfl A5.nil)))) (sC sN))
  ·refine Bs (A0 ?_);have h3:=BF hp hg hh;exact A0 (AS (At ((),()) h3 A5.nil (sC sN)))
 ·rintro⟨⟨⟩,⟨⟩⟩ hf;refine Cj (l':=[]) (H':=[.blk ha (Ad a) 26]) rfl rfl ?_;replace hf:IX =some r:=hf;unfold IX at hf;refine AW (AH (Ah (wv (r:=Ai (-1)) (AD rfl) (Al (Aq ?_)))));obtain rfl:=Am hf;exact Ap (By El (A9 rfl)) (sC sN) ⟨rfl,rfl⟩
theorem Ty (F:Nat)(ha:Nat)(ys:(List (List Aa)))(a:Af)(r:Bool)(h:NS F ys a=some r):Fn Tryz.prog GE 108 [AE 1 (A3 Ae ys),rv (.func (.func 135) #[] #[(.pointer (some ⟨ha,0,none⟩))])] [.blk ha (Ad a) 26] (λR H=>R=rB r∧H=[.blk ha (Ad a) 26]):=by
 refine enter (n:=9) JL rfl JH rfl (λw Z=>?_);unfold NS at h;refine Ah (wa rfl (AX (wm rfl (wm rfl (ob h λr1 e3 h2=>Dm (Hr:=[]) JI (SW F ha ys a r1 e3) rfl (VF _) rfl ?_)))));rintro _ _ ⟨rfl,rfl⟩;refine wv (Hz rfl rfl) (wa rfl (Al (Aq ?_)));obtain rfl:=Am h2;exact Ap (By JF (A9 rfl)) (sC sN) ⟨rfl,rfl⟩
theorem RC (F:Nat)(ha:Nat)(f:Af)(a:Af)(r:Bool)(h:Lq F f a=some r):Fn Tryz.prog GE 131 [Bv (Ad f),rv (.func (.func 135) #[] #[(.pointer (some ⟨ha,0,none⟩))])] [.blk ha (Ad a) 26] (λR H=>R=rB r∧H=[.blk ha (Ad a) 26]):=by
 refine enter (n:=10) Tryz.func131 rfl Tryz.ntmps131 rfl (λw Z=>?_);unfold Lq at h;refine Ah (Bt rfl rfl (λb1=>?_));refine wa rfl (AX (vF AK rfl CG (vL 0 CS rfl (wm rfl (ob h λr2 e4 h3=>Dm (Hr:=[.blk b1 (Ad f) 26]) JJ (Ty F ha f.fValues a r2 e4) rfl ((Az (i:=1) rfl).trans (VG _ (VF _))) rfl ?_)))));rintro _ _ ⟨rfl,rfl⟩;refine wv (Bz rfl) (wa rfl (Al (Aq ?_)));obtain rfl:=Am h3;exact Ap (By OI (A9 rfl)) (sC (sS sN)) ⟨rfl,rfl⟩
theorem NJ (F:Nat)(a:Af)(b:Af)(r:Bool)(h:Ia F a b=some r):Fn Tryz.prog GE 97 [Bv (Ad a),Bv (Ad b)] [] (λR H=>R=rB r∧H=[]):=by
 refine enter (n:=27) Tryz.func97 rfl Tryz.ntmps97 rfl (λw Z=>?_);unfold Ia at h;refine Ah (Bt rfl rfl (λb1=>?_));refine Bt rfl rfl (λb2=>?_);refine wa rfl (Al (Ao (Ah (vF AK rfl BZ (vL 1 Cb rfl (Al (AB (Ah (wv (Bx rfl rfl) (wa rfl (Al (cz h rfl (λc3 h4=>?_) (λc3 h8=>?_)))))))))))))
 ·refine Ah (wv (AG (i:=0) BN B1 rfl rfl rfl rfl) (wv (r:=rv (.func (.func 132) #[] #[(.pointer (some ⟨b1,0,none⟩))])) (BA rfl) (ob h4 λr5 e7 h6=>Dm (Hr:=[.blk b2 (Ad b) 26]) Tryz.call131 (RF F b1 b a r5 e7) rfl ((Az (i:=1) rfl).trans (VG _ (VF _))) rfl ?_)));rintro _ _ ⟨rfl,rfl⟩;refine wa rfl (Al (Aq (An (Ac ?_))));obtain rfl:=Am h6;exact Ap (By QA (A9 rfl)) (sS (sS sN)) ⟨rfl,rfl⟩
 ·refine Ah (wv (Bx rfl rfl) (wa rfl (Al (cz h8 rfl (λc9 ha=>?_) (λc9 hb=>?_)))))
  ·refine Ah (wv (AG (i:=1) BN B1 rfl rfl rfl rfl) (wv (r:=rv (.func (.func 133) #[] #[(.pointer (some ⟨b2,0,none⟩))])) (BA rfl) (ob ha λhe hf hg=>Dm (Hr:=[.blk b1 (Ad a) 26]) Tryz.call131 (RE F b2 a b he hf) rfl (VF _) rfl ?_)));rintro _ _ ⟨rfl,rfl⟩;refine wa rfl (Al (Aq (An (Ac ?_))));obtain rfl:=Am hg;exact Ap (By QA (A9 rfl)) (sS (sS sN)) ⟨rfl,rfl⟩
  ·refine Ah (wv (Bx rfl rfl) (wa rfl (Al (cz hb rfl (λhh hi=>?_) (λhh hj=>?_)))))
   ·refine Ah (wv (AG (i:=0) BN B1 rfl rfl rfl rfl) (wv (r:=rv (.func (.func 134) #[] #[(.pointer (some ⟨b1,0,none⟩))])) (BA rfl) (ob hi λhk hl hm=>Dm (Hr:=[.blk b2 (Ad b) 26]) Tryz.call131 (RD F b1 b a hk hl) rfl ((Az (i:=1) rfl).trans (VG _ (VF _))) rfl ?_)));rintro _ _ ⟨rfl,rfl⟩;refine wa rfl (Al (Aq (An (Ac ?_))));obtain rfl:=Am hm;exact Ap (By QA (A9 rfl)) (sS (sS sN)) ⟨rfl,rfl⟩
   ·refine Ah (wv (Bx rfl rfl) (wa rfl (Al (cz hj rfl (λc21 hn=>?_) (λc21 ho=>?_)))))
    ·refine Ah (wv (AG (i:=0) BN B1 rfl rfl rfl rfl) (wv (r:=rv (.func (.func 135) #[] #[(.pointer (some ⟨b1,0,none⟩))])) (BA rfl) (ob hn λhp hq hr=>Dm (Hr:=[.blk b2 (Ad b) 26]) Tryz.call131 (RC F b1 b a hp hq) rfl ((Az (i:=1) rfl).trans (VG _ (VF _))) rfl ?_)));rintro _ _ ⟨rfl,rfl⟩;refine wa rfl (Al (Aq (An (Ac ?_))));obtain rfl:=Am hr;exact Ap (By QA (A9 rfl)) (sS (sS sN)) ⟨rfl,rfl⟩
    ·refine Av (A8 (AH (Ah (wa rfl (Al (Aq ?_))))));obtain rfl:=Am ho;exact Ap (By QA (A9 rfl)) (sS (sS sN)) ⟨rfl,rfl⟩
theorem Ur (F:Nat)(ha:Nat)(v:(List Aa))(b:Af)(r:Bool)(h:Tk F v b=some r):Fn Tryz.prog GE 96 [AE 4 (A3 Ab v),rP ha 0] [.blk ha (Ad b) 26] (λR H=>R=rB r∧H=[.blk ha (Ad b) 26]):=by
 refine enter (n:=8) Tryz.func96 rfl Tryz.ntmps96 rfl (λw Z=>?_);unfold Tk at h;refine Ah (wa rfl (AX (vF AK rfl CG (vL 0 CS rfl (wm rfl (ob h λr1 e3 h2=>Ct QF (HI F b.fValues v r1 e3) rfl (wa rfl (Al (Aq ?_)))))))));obtain rfl:=Am h2;exact Ap (By Tryz.results96 (A9 rfl)) (sC sN) ⟨rfl,rfl⟩
theorem Uz (F:Nat)(hb:Nat)(ha:Nat)(v:(List Aa))(b:Af)(r:Bool)(h:Ts F v b=some r):Fn Tryz.prog GE 130 [AE 4 (A3 Ab v),rP hb 0] [.blk hb [rv (.func (.func 96) #[] #[(.pointer (some ⟨ha,0,none⟩))])] 31,.blk ha (Ad b) 26] (λR H=>R=rB r∧H=[.blk hb [rv (.func (.func 96) #[] #[(.pointer (some ⟨ha,0,none⟩))])] 31,.blk ha (Ad b) 26]):=by
 refine enter (n:=8) Tryz.func130 rfl Tryz.ntmps130 rfl (λw Z=>?_);unfold Ts at h;refine Ah (wa rfl (AX (vL 0 Tryz.isAgg31 rfl (wm rfl (ob h λr1 e3 h2=>C4 (rs:=[AE 4 (A3 Ab v)]) (Hin:=[.blk ha (Ad b) 26]) (Hr:=[.blk hb [rv (.func (.func 96) #[] #[(.pointer (some ⟨ha,0,none⟩))])] 31]) Tryz.call96 rfl rfl ((Az (i:=1) rfl).trans (VG _ (VF _))) (Ur F ha v b r1 e3) rfl ?_)))));rintro _ _ ⟨rfl,rfl⟩;refine wv (Bz rfl) (wa rfl (Al (Aq (Cl (H2:=[.blk hb [rv (.func (.func 96) #[] #[(.pointer (some ⟨ha,0,none⟩))])] 31,.blk ha (Ad b) 26]) ((Az (i:=1) rfl).trans (VG _ (VF _))) ?_))));obtain rfl:=Am h2;exact Ap (By Tryz.results130 (A9 rfl)) (sC (sC sN)) ⟨rfl,rfl⟩
theorem Td (F:Nat)(hb:Nat)(ha:Nat)(ys:(List (List Aa)))(b:Af)(r:Int)(h:Pn F ys b=some r):Fn Tryz.prog GE 141 [AE 1 (A3 Ae ys),rv (.func (.func 130) #[] #[(.pointer (some ⟨hb,0,none⟩))])] [.blk hb [rv (.func (.func 96) #[] #[(.pointer (some ⟨ha,0,none⟩))])] 31,.blk ha (Ad b) 26] (λR H=>R=Ai r∧H=[.blk hb [rv (.func (.func 96) #[] #[(.pointer (some ⟨ha,0,none⟩))])] 31,.blk ha (Ad b) 26]):=by
 refine enter (n:=19) JK rfl JG rfl (λw Z=>?_);unfold Pn at h;refine Ah (wa rfl (Al (Ao (Ah (wm rfl (wv (AL (ys:=ys) (enc:=Ae) BM rfl) (wv (r:=Ai 0) (A4 rfl) (Al (AB (ob h λhj hk hi=>Bi (S:=Nat×(Int)×(Unit)) (V:=(Unit)×(Unit)) 0 (λσ=>BW (λσ=>G1 F ys b σ) σ.1 σ.2.1=some hj) (λσ=>[(0,AE 1 (A3 Ae ys)),(1,rv (.func (.func 130) #[] #[(.pointer (some ⟨hb,0,none⟩))])),(7,Ai (ys.length:Int)),(8,Ai σ.2.1)]) (λσ=>[.blk hb [rv (.func (.func 96) #[] #[(.pointer (some ⟨ha,0,none⟩))])] 31,.blk ha (Ad b) 26]) (λσ=>σ.1) (F,0,()) hk (A5.c rfl (A5.c rfl (A5.c rfl (A5.c rfl A5.nil)))) (sC (sC sN)) (λσ=>Jd =some r) (λσ=>[]) (λσ=>[.blk hb [rv (.func (.func 96) #[] #[(.pointer (some ⟨ha,0,none⟩))])] 31,.blk ha (Ad b) 26]) ?_ ?_))))))))))
 ·rintro⟨h5,he,⟨⟩⟩ hl;refine B3 (l':=[(0,AE 1 (A3 Ae ys)),(1,rv (.func (.func 130) #[] #[(.pointer (some ⟨hb,0,none⟩))])),(7,Ai (ys.length:Int)),(8,Ai he)]) (H':=[.blk hb [rv (.func (.func 96) #[] #[(.pointer (some ⟨ha,0,none⟩))])] 31,.blk ha (Ad b) 26]) rfl rfl ?_;obtain⟨hm,rfl,hn,hf,hh⟩:=Ch hl;replace hf:G1 F ys b he=some hn:=hf;unfold G1 at hf;refine Ah (wv (Cr rfl rfl) (Al (Ao (cz hf rfl (λho hp=>?_) (λho hq=>?_)))))
  ·refine Av (AH (Ao (AB (Ah (wm rfl (wa rfl (AX (wm rfl (wm rfl (wm rfl (ck hp λhr hs=>wv (AU (enc:=Ae) (ys:=ys) BM BY rfl rfl hr) (wv (AJ CC rfl rfl) (ob hs λht hu hw=>C4 (rs:=[AE 4 (A3 Ab (Ax ys he))]) (Hin:=[.blk hb [rv (.func (.func 96) #[] #[(.pointer (some ⟨ha,0,none⟩))])] 31,.blk ha (Ad b) 26]) (Hr:=[]) Tryz.call130 rfl rfl (VF _) (Uz F hb ha (Ax ys he) b ht hu) rfl ?_)))))))))))));rintro _ _ ⟨rfl,rfl⟩;refine Al (cz hw rfl (λhx hy=>?_) (λhx hz=>?_))
   ·refine Ah (wm rfl (wa rfl (Al (Aq (An (Ac (Ac (AN ?_))))))));have h0:=Bh hy hh hi;refine An (Ac ?_);obtain rfl:=Am h0;exact Ap (By El (A9 rfl)) (sC (sC sN)) ⟨rfl,rfl⟩
   ·refine Av (A8 (AH (Ak (ck hz λh1 h2=>wv (Bk rfl rfl h1) (wm rfl (Aj ?_))))));have h3:=Bc h2 hh;exact As (At (hm,he+1,()) ⟨h3,VO _⟩ (A5.c rfl (A5.c rfl (A5.c rfl (A5.c rfl A5.nil)))) (sC (sC sN)))
  ·refine Bs (A0 ?_);have h4:=BF hq hh hi;exact A0 (AS (At ((),()) h4 A5.nil (sC (sC sN))))
 ·rintro⟨⟨⟩,⟨⟩⟩ hg;refine Cj (l':=[]) (H':=[.blk hb [rv (.func (.func 96) #[] #[(.pointer (some ⟨ha,0,none⟩))])] 31,.blk ha (Ad b) 26]) rfl rfl ?_;replace hg:Jd =some r:=hg;unfold Jd at hg;refine AW (AH (Ah (wv (r:=Ai (-1)) (AD rfl) (Al (Aq ?_)))));obtain rfl:=Am hg;exact Ap (By El (A9 rfl)) (sC (sC sN)) ⟨rfl,rfl⟩
theorem T4 (F:Nat)(hb:Nat)(ha:Nat)(ys:(List (List Aa)))(b:Af)(r:Bool)(h:NY F ys b=some r):Fn Tryz.prog GE 108 [AE 1 (A3 Ae ys),rv (.func (.func 130) #[] #[(.pointer (some ⟨hb,0,none⟩))])] [.blk hb [rv (.func (.func 96) #[] #[(.pointer (some ⟨ha,0,none⟩))])] 31,.blk ha (Ad b) 26] (λR H=>R=rB r∧H=[.blk hb [rv (.func (.func 96) #[] #[(.pointer (some ⟨ha,0,none⟩))])] 31,.blk ha (Ad b) 26]):=by
 refine enter (n:=9) JL rfl JH rfl (λw Z=>?_);unfold NY at h;refine Ah (wa rfl (AX (wm rfl (wm rfl (ob h λr1 e3 h2=>Dm (Hr:=[]) JI (Td F hb ha ys b r1 e3) rfl (VF _) rfl ?_)))));rintro _ _ ⟨rfl,rfl⟩;refine wv (Hz rfl rfl) (wa rfl (Al (Aq ?_)));obtain rfl:=Am h2;exact Ap (By JF (A9 rfl)) (sC (sC sN)) ⟨rfl,rfl⟩
theorem Tp (F:Nat)(hb:Nat)(f:Af)(b:Af)(r:Bool)(h:NK F f b=some r):Fn Tryz.prog GE 95 [Bv (Ad f),rv (.func (.func 96) #[] #[(.pointer (some ⟨hb,0,none⟩))])] [.blk hb (Ad b) 26] (λR H=>R=rB r∧H=[.blk hb (Ad b) 26]):=by
 refine enter (n:=15) Tryz.func95 rfl Tryz.ntmps95 rfl (λw Z=>?_);unfold NK at h;refine Ah (Bt rfl rfl (λb1=>?_));refine JO rfl (B2 rfl) rfl (λb2=>?_);refine wa rfl (Al (BE (S:=(Bool)×(Unit)) (λσ=>HL σ.1=some r) (λσ=>[(4,rB σ.1)]) (λσ=>[.blk hb (Ad b) 26]) ?_ ?_))
 ·refine Ak (vF AK rfl BZ (vL 1 Cb rfl (wv (Bx rfl rfl) (wm rfl (bz h (λha hh=>?_) (λha hi=>?_))))))
  ·refine wo ha (vF AK rfl CG (wo ha (vL 1 CS rfl (wo ha (wv (r:=rv (.func (.func 130) #[] #[(.pointer (some ⟨b2,0,none⟩))])) (BA rfl) (wo ha (ob hh λhf hj hk=>Dm (Hr:=[.blk b1 (Ad f) 26]) JJ (T4 F b2 hb f.fValues b hf hj) rfl ((Az (i:=0) rfl).trans (VG _ ((Az (i:=1) rfl).trans (VG _ (VF _))))) rfl ?_)))))));rintro _ _ ⟨rfl,rfl⟩;exact wo ha (wv (Bz rfl) (C7 rfl ha rfl (wa rfl (Aj (As (At (!hf,()) hk (A5.c rfl A5.nil) (sS (sC (sS sN)))))))))
  ·exact wf ha (wf ha (wf ha (wf ha (wf ha (wv (r:=rB false) (Aw rfl ha rfl) (wa rfl (Aj (As (At (false,()) hi (A5.c rfl A5.nil) (sS (sS (sC sN))))))))))))
 ·rintro⟨hg,⟨⟩⟩ he;refine B3 (l':=[(4,rB hg)]) (H':=[.blk hb (Ad b) 26]) rfl rfl ?_;replace he:HL hg=some r:=he;unfold HL at he;refine Aq ?_;obtain rfl:=Am he;exact Ap (By Tryz.results95 (A9 rfl)) (sC sN) ⟨rfl,rfl⟩
theorem Uq (ha:Nat)(v:(List Aa))(b:Af)(r:Bool)(h:Tj v b=some r):Fn Tryz.prog GE 99 [AE 4 (A3 Ab v),rP ha 0] [.blk ha (Ad b) 26] (λR H=>R=rB r∧H=[.blk ha (Ad b) 26]):=by
 refine enter (n:=8) Tryz.func99 rfl Tryz.ntmps99 rfl (λw Z=>?_);unfold Tj at h;refine Ah (wa rfl (AX (wm rfl (vF AK rfl CE (vL 0 CP rfl (ob h λr1 e3 h2=>Ct Tryz.call79 (J5 v b.fText r1 e3) rfl (wa rfl (Al (Aq ?_)))))))));obtain rfl:=Am h2;exact Ap (By Tryz.results99 (A9 rfl)) (sC sN) ⟨rfl,rfl⟩
theorem Uy (hb:Nat)(ha:Nat)(v:(List Aa))(b:Af)(r:Bool)(h:Tr v b=some r):Fn Tryz.prog GE 130 [AE 4 (A3 Ab v),rP hb 0] [.blk hb [rv (.func (.func 99) #[] #[(.pointer (some ⟨ha,0,none⟩))])] 31,.blk ha (Ad b) 26] (λR H=>R=rB r∧H=[.blk hb [rv (.func (.func 99) #[] #[(.pointer (some ⟨ha,0,none⟩))])] 31,.blk ha (Ad b) 26]):=by
 refine enter (n:=8) Tryz.func130 rfl Tryz.ntmps130 rfl (λw Z=>?_);unfold Tr at h;refine Ah (wa rfl (AX (vL 0 Tryz.isAgg31 rfl (wm rfl (ob h λr1 e3 h2=>C4 (rs:=[AE 4 (A3 Ab v)]) (Hin:=[.blk ha (Ad b) 26]) (Hr:=[.blk hb [rv (.func (.func 99) #[] #[(.pointer (some ⟨ha,0,none⟩))])] 31]) Tryz.call99 rfl rfl ((Az (i:=1) rfl).trans (VG _ (VF _))) (Uq ha v b r1 e3) rfl ?_)))));rintro _ _ ⟨rfl,rfl⟩;refine wv (Bz rfl) (wa rfl (Al (Aq (Cl (H2:=[.blk hb [rv (.func (.func 99) #[] #[(.pointer (some ⟨ha,0,none⟩))])] 31,.blk ha (Ad b) 26]) ((Az (i:=1) rfl).trans (VG _ (VF _))) ?_))));obtain rfl:=Am h2;exact Ap (By Tryz.results130 (A9 rfl)) (sC (sC sN)) ⟨rfl,rfl⟩
theorem Tc (F:Nat)(hb:Nat)(ha:Nat)(ys:(List (List Aa)))(b:Af)(r:Int)(h:Pm F ys b=some r):Fn Tryz.prog GE 141 [AE 1 (A3 Ae ys),rv (.func (.func 130) #[] #[(.pointer (some ⟨hb,0,none⟩))])] [.blk hb [rv (.func (.func 99) #[] #[(.pointer (some ⟨ha,0,none⟩))])] 31,.blk ha (Ad b) 26] (λR H=>R=Ai r∧H=[.blk hb [rv (.func (.func 99) #[] #[(.pointer (some ⟨ha,0,none⟩))])] 31,.blk ha (Ad b) 26]):=by
 refine enter (n:=19) JK rfl JG rfl (λw Z=>?_);unfold Pm at h;refine Ah (wa rfl (Al (Ao (Ah (wm rfl (wv (AL (ys:=ys) (enc:=Ae) BM rfl) (wv (r:=Ai 0) (A4 rfl) (Al (AB (ob h λhj hk hi=>Bi (S:=Nat×(Int)×(Unit)) (V:=(Unit)×(Unit)) 0 (λσ=>BW (λσ=>G0 ys b σ) σ.1 σ.2.1=some hj) (λσ=>[(0,AE 1 (A3 Ae ys)),(1,rv (.func (.func 130) #[] #[(.pointer (some ⟨hb,0,none⟩))])),(7,Ai (ys.length:Int)),(8,Ai σ.2.1)]) (λσ=>[.blk hb [rv (.func (.func 99) #[] #[(.pointer (some ⟨ha,0,none⟩))])] 31,.blk ha (Ad b) 26]) (λσ=>σ.1) (F,0,()) hk (A5.c rfl (A5.c rfl (A5.c rfl (A5.c rfl A5.nil)))) (sC (sC sN)) (λσ=>Jc =some r) (λσ=>[]) (λσ=>[.blk hb [rv (.func (.func 99) #[] #[(.pointer (some ⟨ha,0,none⟩))])] 31,.blk ha (Ad b) 26]) ?_ ?_))))))))))
 ·rintro⟨h5,he,⟨⟩⟩ hl;refine B3 (l':=[(0,AE 1 (A3 Ae ys)),(1,rv (.func (.func 130) #[] #[(.pointer (some ⟨hb,0,none⟩))])),(7,Ai (ys.length:Int)),(8,Ai he)]) (H':=[.blk hb [rv (.func (.func 99) #[] #[(.pointer (some ⟨ha,0,none⟩))])] 31,.blk ha (Ad b) 26]) rfl rfl ?_;obtain⟨hm,rfl,hn,hf,hh⟩:=Ch hl;replace hf:G0 ys b he=some hn:=hf;unfold G0 at hf;refine Ah (wv (Cr rfl rfl) (Al (Ao (cz hf rfl (λho hp=>?_) (λho hq=>?_)))))
  ·refine Av (AH (Ao (AB (Ah (wm rfl (wa rfl (AX (wm rfl (wm rfl (wm rfl (ck hp λhr hs=>wv (AU (enc:=Ae) (ys:=ys) BM BY rfl rfl hr) (wv (AJ CC rfl rfl) (ob hs λht hu hw=>C4 (rs:=[AE 4 (A3 Ab (Ax ys he))]) (Hin:=[.blk hb [rv (.func (.func 99) #[] #[(.pointer (some ⟨ha,0,none⟩))])] 31,.blk ha (Ad b) 26]) (Hr:=[]) Tryz.call130 rfl rfl (VF _) (Uy hb ha (Ax ys he) b ht hu) rfl ?_)))))))))))));rintro _ _ ⟨rfl,rfl⟩;refine Al (cz hw rfl (λhx hy=>?_) (λhx hz=>?_))
   ·refine Ah (wm rfl (wa rfl (Al (Aq (An (Ac (Ac (AN ?_))))))));have h0:=Bh hy hh hi;refine An (Ac ?_);obtain rfl:=Am h0;exact Ap (By El (A9 rfl)) (sC (sC sN)) ⟨rfl,rfl⟩
   ·refine Av (A8 (AH (Ak (ck hz λh1 h2=>wv (Bk rfl rfl h1) (wm rfl (Aj ?_))))));have h3:=Bc h2 hh;exact As (At (hm,he+1,()) ⟨h3,VO _⟩ (A5.c rfl (A5.c rfl (A5.c rfl (A5.c rfl A5.nil)))) (sC (sC sN)))
  ·refine Bs (A0 ?_);have h4:=BF hq hh hi;exact A0 (AS (At ((),()) h4 A5.nil (sC (sC sN))))
 ·rintro⟨⟨⟩,⟨⟩⟩ hg;refine Cj (l':=[]) (H':=[.blk hb [rv (.func (.func 99) #[] #[(.pointer (some ⟨ha,0,none⟩))])] 31,.blk ha (Ad b) 26]) rfl rfl ?_;replace hg:Jc =some r:=hg;unfold Jc at hg;refine AW (AH (Ah (wv (r:=Ai (-1)) (AD rfl) (Al (Aq ?_)))));obtain rfl:=Am hg;exact Ap (By El (A9 rfl)) (sC (sC sN)) ⟨rfl,rfl⟩
theorem T3 (F:Nat)(hb:Nat)(ha:Nat)(ys:(List (List Aa)))(b:Af)(r:Bool)(h:NX F ys b=some r):Fn Tryz.prog GE 108 [AE 1 (A3 Ae ys),rv (.func (.func 130) #[] #[(.pointer (some ⟨hb,0,none⟩))])] [.blk hb [rv (.func (.func 99) #[] #[(.pointer (some ⟨ha,0,none⟩))])] 31,.blk ha (Ad b) 26] (λR H=>R=rB r∧H=[.blk hb [rv (.func (.func 99) #[] #[(.pointer (some ⟨ha,0,none⟩))])] 31,.blk ha (Ad b) 26]):=by
 refine enter (n:=9) JL rfl JH rfl (λw Z=>?_);unfold NX at h;refine Ah (wa rfl (AX (wm rfl (wm rfl (ob h λr1 e3 h2=>Dm (Hr:=[]) JI (Tc F hb ha ys b r1 e3) rfl (VF _) rfl ?_)))));rintro _ _ ⟨rfl,rfl⟩;refine wv (Hz rfl rfl) (wa rfl (Al (Aq ?_)));obtain rfl:=Am h2;exact Ap (By JF (A9 rfl)) (sC (sC sN)) ⟨rfl,rfl⟩
theorem Ps (F:Nat)(hb:Nat)(f:Af)(b:Af)(r:Bool)(h:Mh F f b=some r):Fn Tryz.prog GE 95 [Bv (Ad f),rv (.func (.func 99) #[] #[(.pointer (some ⟨hb,0,none⟩))])] [.blk hb (Ad b) 26] (λR H=>R=rB r∧H=[.blk hb (Ad b) 26]):=by
 refine enter (n:=15) Tryz.func95 rfl Tryz.ntmps95 rfl (λw Z=>?_);unfold Mh at h;refine Ah (Bt rfl rfl (λb1=>?_));refine JO rfl (B2 rfl) rfl (λb2=>?_);refine wa rfl (Al (BE (S:=(Bool)×(Unit)) (λσ=>HK σ.1=some r) (λσ=>[(4,rB σ.1)]) (λσ=>[.blk hb (Ad b) 26]) ?_ ?_))
 ·refine Ak (vF AK rfl BZ (vL 1 Cb rfl (wv (Bx rfl rfl) (wm rfl (bz h (λha hh=>?_) (λha hi=>?_))))))
  ·refine wo ha (vF AK rfl CG (wo ha (vL 1 CS rfl (wo ha (wv (r:=rv (.func (.func 130) #[] #[(.pointer (some ⟨b2,0,none⟩))])) (BA rfl) (wo ha (ob hh λhf hj hk=>Dm (Hr:=[.blk b1 (Ad f) 26]) JJ (T3 F b2 hb f.fValues b hf hj) rfl ((Az (i:=0) rfl).trans (VG _ ((Az (i:=1) rfl).trans (VG _ (VF _))))) rfl ?_)))))));rintro _ _ ⟨rfl,rfl⟩;exact wo ha (wv (Bz rfl) (C7 rfl ha rfl (wa rfl (Aj (As (At (!hf,()) hk (A5.c rfl A5.nil) (sS (sC (sS sN)))))))))
  ·exact wf ha (wf ha (wf ha (wf ha (wf ha (wv (r:=rB false) (Aw rfl ha rfl) (wa rfl (Aj (As (At (false,()) hi (A5.c rfl A5.nil) (sS (sS (sC sN))))))))))))
 ·rintro⟨hg,⟨⟩⟩ he;refine B3 (l':=[(4,rB hg)]) (H':=[.blk hb (Ad b) 26]) rfl rfl ?_;replace he:HK hg=some r:=he;unfold HK at he;refine Aq ?_;obtain rfl:=Am he;exact Ap (By Tryz.results95 (A9 rfl)) (sC sN) ⟨rfl,rfl⟩
theorem Uo (ha:Nat)(v:(List Aa))(b:Af)(r:Bool)(h:Ti v b=some r):Fn Tryz.prog GE 100 [AE 4 (A3 Ab v),rP ha 0] [.blk ha (Ad b) 26] (λR H=>R=rB r∧H=[.blk ha (Ad b) 26]):=by
 refine enter (n:=10) Tryz.func100 rfl Tryz.ntmps100 rfl (λw Z=>?_);unfold Ti at h;refine Ah (wa rfl (AX (wm rfl (vF AK rfl BH (vL 0 Cc rfl (vF AK rfl BH (vL 0 Cc rfl (ob h λr1 e3 h2=>Ct Tryz.call80 (J2 v b.fLow b.fHigh r1 e3) rfl (wa rfl (Al (Aq ?_)))))))))));obtain rfl:=Am h2;exact Ap (By Tryz.results100 (A9 rfl)) (sC sN) ⟨rfl,rfl⟩
theorem Uw (hb:Nat)(ha:Nat)(v:(List Aa))(b:Af)(r:Bool)(h:Tq v b=some r):Fn Tryz.prog GE 130 [AE 4 (A3 Ab v),rP hb 0] [.blk hb [rv (.func (.func 100) #[] #[(.pointer (some ⟨ha,0,none⟩))])] 31,.blk ha (Ad b) 26] (λR H=>R=rB r∧H=[.blk hb [rv (.func (.func 100) #[] #[(.pointer (some ⟨ha,0,none⟩))])] 31,.blk ha (Ad b) 26]):=by
 refine enter (n:=8) Tryz.func130 rfl Tryz.ntmps130 rfl (λw Z=>?_);unfold Tq at h;refine Ah (wa rfl (AX (vL 0 Tryz.isAgg31 rfl (wm rfl (ob h λr1 e3 h2=>C4 (rs:=[AE 4 (A3 Ab v)]) (Hin:=[.blk ha (Ad b) 26]) (Hr:=[.blk hb [rv (.func (.func 100) #[] #[(.pointer (some ⟨ha,0,none⟩))])] 31]) Tryz.call100 rfl rfl ((Az (i:=1) rfl).trans (VG _ (VF _))) (Uo ha v b r1 e3) rfl ?_)))));rintro _ _ ⟨rfl,rfl⟩;refine wv (Bz rfl) (wa rfl (Al (Aq (Cl (H2:=[.blk hb [rv (.func (.func 100) #[] #[(.pointer (some ⟨ha,0,none⟩))])] 31,.blk ha (Ad b) 26]) ((Az (i:=1) rfl).trans (VG _ (VF _))) ?_))));obtain rfl:=Am h2;exact Ap (By Tryz.results130 (A9 rfl)) (sC (sC sN)) ⟨rfl,rfl⟩
theorem Tb (F:Nat)(hb:Nat)(ha:Nat)(ys:(List (List Aa)))(b:Af)(r:Int)(h:Pk F ys b=some r):Fn Tryz.prog GE 141 [AE 1 (A3 Ae ys),rv (.func (.func 130) #[] #[(.pointer (some ⟨hb,0,none⟩))])] [.blk hb [rv (.func (.func 100) #[] #[(.pointer (some ⟨ha,0,none⟩))])] 31,.blk ha (Ad b) 26] (λR H=>R=Ai r∧H=[.blk hb [rv (.func (.func 100) #[] #[(.pointer (some ⟨ha,0,none⟩))])] 31,.blk ha (Ad b) 26]):=by
 refine enter (n:=19) JK rfl JG rfl (λw Z=>?_);unfold Pk at h;refine Ah (wa rfl (Al (Ao (Ah (wm rfl (wv (AL (ys:=ys) (enc:=Ae) BM rfl) (wv (r:=Ai 0) (A4 rfl) (Al (AB (ob h λhj hk hi=>Bi (S:=Nat×(Int)×(Unit)) (V:=(Unit)×(Unit)) 0 (λσ=>BW (λσ=>Gz ys b σ) σ.1 σ.2.1=some hj) (λσ=>[(0,AE 1 (A3 Ae ys)),(1,rv (.func (.func 130) #[] #[(.pointer (some ⟨hb,0,none⟩))])),(7,Ai (ys.length:Int)),(8,Ai σ.2.1)]) (λσ=>[.blk hb [rv (.func (.func 100) #[] #[(.pointer (some ⟨ha,0,none⟩))])] 31,.blk ha (Ad b) 26]) (λσ=>σ.1) (F,0,()) hk (A5.c rfl (A5.c rfl (A5.c rfl (A5.c rfl A5.nil)))) (sC (sC sN)) (λσ=>Jb =some r) (λσ=>[]) (λσ=>[.blk hb [rv (.func (.func 100) #[] #[(.pointer (some ⟨ha,0,none⟩))])] 31,.blk ha (Ad b) 26]) ?_ ?_))))))))))
 ·rintro⟨h5,he,⟨⟩⟩ hl;refine B3 (l':=[(0,AE 1 (A3 Ae ys)),(1,rv (.func (.func 130) #[] #[(.pointer (some ⟨hb,0,none⟩))])),(7,Ai (ys.length:Int)),(8,Ai he)]) (H':=[.blk hb [rv (.func (.func 100) #[] #[(.pointer (some ⟨ha,0,none⟩))])] 31,.blk ha (Ad b) 26]) rfl rfl ?_;obtain⟨hm,rfl,hn,hf,hh⟩:=Ch hl;replace hf:Gz ys b he=some hn:=hf;unfold Gz at hf;refine Ah (wv (Cr rfl rfl) (Al (Ao (cz hf rfl (λho hp=>?_) (λho hq=>?_)))))
  ·refine Av (AH (Ao (AB (Ah (wm rfl (wa rfl (AX (wm rfl (wm rfl (wm rfl (ck hp λhr hs=>wv (AU (enc:=Ae) (ys:=ys) BM BY rfl rfl hr) (wv (AJ CC rfl rfl) (ob hs λht hu hw=>C4 (rs:=[AE 4 (A3 Ab (Ax ys he))]) (Hin:=[.blk hb [rv (.func (.func 100) #[] #[(.pointer (some ⟨ha,0,none⟩))])] 31,.blk ha (Ad b) 26]) (Hr:=[]) Tryz.call130 rfl rfl (VF _) (Uw hb ha (Ax ys he) b ht hu) rfl ?_)))))))))))));rintro _ _ ⟨rfl,rfl⟩;refine Al (cz hw rfl (λhx hy=>?_) (λhx hz=>?_))
   ·refine Ah (wm rfl (wa rfl (Al (Aq (An (Ac (Ac (AN ?_))))))));have h0:=Bh hy hh hi;refine An (Ac ?_);obtain rfl:=Am h0;exact Ap (By El (A9 rfl)) (sC (sC sN)) ⟨rfl,rfl⟩
   ·refine Av (A8 (AH (Ak (ck hz λh1 h2=>wv (Bk rfl rfl h1) (wm rfl (Aj ?_))))));have h3:=Bc h2 hh;exact As (At (hm,he+1,()) ⟨h3,VO _⟩ (A5.c rfl (A5.c rfl (A5.c rfl (A5.c rfl A5.nil)))) (sC (sC sN)))
  ·refine Bs (A0 ?_);have h4:=BF hq hh hi;exact A0 (AS (At ((),()) h4 A5.nil (sC (sC sN))))
 ·rintro⟨⟨⟩,⟨⟩⟩ hg;refine Cj (l':=[]) (H':=[.blk hb [rv (.func (.func 100) #[] #[(.pointer (some ⟨ha,0,none⟩))])] 31,.blk ha (Ad b) 26]) rfl rfl ?_;replace hg:Jb =some r:=hg;unfold Jb at hg;refine AW (AH (Ah (wv (r:=Ai (-1)) (AD rfl) (Al (Aq ?_)))));obtain rfl:=Am hg;exact Ap (By El (A9 rfl)) (sC (sC sN)) ⟨rfl,rfl⟩
theorem T2 (F:Nat)(hb:Nat)(ha:Nat)(ys:(List (List Aa)))(b:Af)(r:Bool)(h:NW F ys b=some r):Fn Tryz.prog GE 108 [AE 1 (A3 Ae ys),rv (.func (.func 130) #[] #[(.pointer (some ⟨hb,0,none⟩))])] [.blk hb [rv (.func (.func 100) #[] #[(.pointer (some ⟨ha,0,none⟩))])] 31,.blk ha (Ad b) 26] (λR H=>R=rB r∧H=[.blk hb [rv (.func (.func 100) #[] #[(.pointer (some ⟨ha,0,none⟩))])] 31,.blk ha (Ad b) 26]):=by
 refine enter (n:=9) JL rfl JH rfl (λw Z=>?_);unfold NW at h;refine Ah (wa rfl (AX (wm rfl (wm rfl (ob h λr1 e3 h2=>Dm (Hr:=[]) JI (Tb F hb ha ys b r1 e3) rfl (VF _) rfl ?_)))));rintro _ _ ⟨rfl,rfl⟩;refine wv (Hz rfl rfl) (wa rfl (Al (Aq ?_)));obtain rfl:=Am h2;exact Ap (By JF (A9 rfl)) (sC (sC sN)) ⟨rfl,rfl⟩
theorem MJ (F:Nat)(hb:Nat)(f:Af)(b:Af)(r:Bool)(h:Lv F f b=some r):Fn Tryz.prog GE 95 [Bv (Ad f),rv (.func (.func 100) #[] #[(.pointer (some ⟨hb,0,none⟩))])] [.blk hb (Ad b) 26] (λR H=>R=rB r∧H=[.blk hb (Ad b) 26]):=by
 refine enter (n:=15) Tryz.func95 rfl Tryz.ntmps95 rfl (λw Z=>?_);unfold Lv at h;refine Ah (Bt rfl rfl (λb1=>?_));refine JO rfl (B2 rfl) rfl (λb2=>?_);refine wa rfl (Al (BE (S:=(Bool)×(Unit)) (λσ=>HJ σ.1=some r) (λσ=>[(4,rB σ.1)]) (λσ=>[.blk hb (Ad b) 26]) ?_ ?_))
 ·refine Ak (vF AK rfl BZ (vL 1 Cb rfl (wv (Bx rfl rfl) (wm rfl (bz h (λha hh=>?_) (λha hi=>?_))))))
  ·refine wo ha (vF AK rfl CG (wo ha (vL 1 CS rfl (wo ha (wv (r:=rv (.func (.func 130) #[] #[(.pointer (some ⟨b2,0,none⟩))])) (BA rfl) (wo ha (ob hh λhf hj hk=>Dm (Hr:=[.blk b1 (Ad f) 26]) JJ (T2 F b2 hb f.fValues b hf hj) rfl ((Az (i:=0) rfl).trans (VG _ ((Az (i:=1) rfl).trans (VG _ (VF _))))) rfl ?_)))))));rintro _ _ ⟨rfl,rfl⟩;exact wo ha (wv (Bz rfl) (C7 rfl ha rfl (wa rfl (Aj (As (At (!hf,()) hk (A5.c rfl A5.nil) (sS (sC (sS sN)))))))))
  ·exact wf ha (wf ha (wf ha (wf ha (wf ha (wv (r:=rB false) (Aw rfl ha rfl) (wa rfl (Aj (As (At (false,()) hi (A5.c rfl A5.nil) (sS (sS (sC sN))))))))))))
 ·rintro⟨hg,⟨⟩⟩ he;refine B3 (l':=[(4,rB hg)]) (H':=[.blk hb (Ad b) 26]) rfl rfl ?_;replace he:HJ hg=some r:=he;unfold HJ at he;refine Aq ?_;obtain rfl:=Am he;exact Ap (By Tryz.results95 (A9 rfl)) (sC sN) ⟨rfl,rfl⟩
theorem O6 (F:Nat)(a:Af)(b:Af)(r:Bool)(h:HG F a b=some r):Fn Tryz.prog GE 66 [Bv (Ad a),Bv (Ad b)] [] (λR H=>R=rB r∧H=[]):=by
 refine enter (n:=66) Tryz.func66 rfl Tryz.ntmps66 rfl (λw Z=>?_);unfold HG at h;refine Ah (Bt rfl rfl (λb1=>?_));refine Bt rfl rfl (λb2=>?_);refine wa rfl (Al (Ao (Ah (vF AK rfl BZ (vL 0 Cb rfl (Al (AB (Ah (wv (Bx rfl rfl) (wa rfl (Al (cz h rfl (λc3 h4=>?_) (λc3 h5=>?_)))))))))))))
 ·refine Ah (vF AK rfl BZ (vL 1 Cb rfl (wv (Bg rfl rfl) (wa rfl (Al (Aq (An (Ac ?_))))))));obtain rfl:=Am h4;exact Ap (By P5 (A9 rfl)) (sS (sS sN)) ⟨rfl,rfl⟩
 ·refine Ah (wv (Bx rfl rfl) (wa rfl (Al (cz h5 rfl (λc6 h7=>?_) (λc6 h8=>?_)))))
  ·refine Ah (vF AK rfl BZ (vL 1 Cb rfl (wv (Bx rfl rfl) (wa rfl (Al (Aq (An (Ac ?_))))))));obtain rfl:=Am h7;exact Ap (By P5 (A9 rfl)) (sS (sS sN)) ⟨rfl,rfl⟩
  ·refine Ah (wv (Bx rfl rfl) (wa rfl (Al (cz h8 rfl (λc9 ho=>?_) (λc9 hp=>?_)))))
   ·refine Ah (wv (AG (i:=1) BN B1 rfl rfl rfl rfl) (wv (r:=rv (.func (.func 96) #[] #[(.pointer (some ⟨b2,0,none⟩))])) (BA rfl) (ob ho λhq hr hs=>Dm (Hr:=[.blk b1 (Ad a) 26]) P7 (Tp F b2 a b hq hr) rfl (VF _) rfl ?_)));rintro _ _ ⟨rfl,rfl⟩;refine wa rfl (Al (Aq (An (Ac ?_))));obtain rfl:=Am hs;exact Ap (By P5 (A9 rfl)) (sS (sS sN)) ⟨rfl,rfl⟩
   ·refine Ah (wv (Bx rfl rfl) (wa rfl (Al (cz hp rfl (λht hu=>?_) (λht hw=>?_)))))
    ·refine Ah (wv (AG (i:=1) BN B1 rfl rfl rfl rfl) (wv (AG (i:=0) BN B1 rfl rfl rfl rfl) (ob hu λhx hy hz=>Ct Tryz.call97 (NJ F a b hx hy) rfl (wa rfl (Al (Aq (An (Ac ?_))))))));obtain rfl:=Am hz;exact Ap (By P5 (A9 rfl)) (sS (sS sN)) ⟨rfl,rfl⟩
    ·refine Ah (wv (Bx rfl rfl) (wa rfl (Al (cz hw rfl (λc21 h0=>?_) (λc21 h1=>?_)))))
     ·refine BE (S:=(Bool)×(Unit)) (λσ=>D4 σ.1=some r) (λσ=>[(4,rB σ.1)]) (λσ=>[]) ?_ ?_
      ·refine Ak (vF AK rfl BZ (vL 1 Cb rfl (wv (Bx rfl rfl) (wm rfl (bz h0 (λha h2=>?_) (λha h3=>?_))))))
       ·refine wo ha (vF AK rfl CE (wo ha (vL 1 CP rfl (wo ha (vF AK rfl CE (wo ha (vL 0 CP rfl (wo ha (ob h2 λh6 h9 hA=>Ct Tryz.call98 (EQ a.fText b.fText h6 h9) rfl (C7 rfl ha rfl (wm rfl (bz hA (λc46 hB=>?_) (λc46 hC=>?_)))))))))))))
        ·exact wf c46 (wf c46 (wf c46 (wv (r:=rB true) (Ay rfl c46 rfl) (wa rfl (Aj (As (At (true,()) hB (A5.c rfl A5.nil) (sS (sS sN)))))))))
        ·refine wo c46 (wv (AG (i:=1) BN B1 rfl rfl rfl rfl) (wo c46 (wv (r:=rv (.func (.func 99) #[] #[(.pointer (some ⟨b2,0,none⟩))])) (BA rfl) (wo c46 (ob hC λhk hD hE=>Dm (Hr:=[.blk b1 (Ad a) 26]) P7 (Ps F b2 a b hk hD) rfl (VF _) rfl ?_)))));rintro _ _ ⟨rfl,rfl⟩;exact Co rfl c46 rfl (wa rfl (Aj (As (At (hk,()) hE (A5.c rfl A5.nil) (sS (sS sN))))))
       ·refine wf ha (wf ha (wf ha (wf ha (wf ha (wv (r:=rB false) (Aw rfl ha rfl) (wm rfl (AI (b:=false) rfl rfl rfl (wv (AG (i:=1) BN B1 rfl rfl rfl rfl) (AI (b:=false) rfl rfl rfl (wv (r:=rv (.func (.func 99) #[] #[(.pointer (some ⟨b2,0,none⟩))])) (BA rfl) (AI (b:=false) rfl rfl rfl (ob h3 λhh hG hH=>Dm (Hr:=[.blk b1 (Ad a) 26]) P7 (Ps F b2 a b hh hG) rfl (VF _) rfl ?_))))))))))));rintro _ _ ⟨rfl,rfl⟩;exact wv (r:=rB hh) (Aw (b:=false) rfl rfl rfl) (wa rfl (Aj (As (At (hh,()) hH (A5.c rfl A5.nil) (sS (sS sN))))))
      ·rintro⟨hl,⟨⟩⟩ hf;refine B3 (l':=[(4,rB hl)]) (H':=[]) rfl rfl ?_;replace hf:D4 hl=some r:=hf;unfold D4 at hf;refine Aq (An (Ac ?_));obtain rfl:=Am hf;exact Ap (By P5 (A9 rfl)) sN ⟨rfl,rfl⟩
     ·refine Av (A8 (AH (BE (S:=(Bool)×(Unit)) (λσ=>Dd σ.1=some r) (λσ=>[(4,rB σ.1)]) (λσ=>[]) ?_ ?_)))
      ·refine Ak (vF AK rfl BZ (vL 1 Cb rfl (wv (Bx rfl rfl) (wm rfl (bz h1 (λc80 hI=>?_) (λc80 hJ=>?_))))))
       ·refine wo c80 (vF AK rfl BH (wo c80 (vL 0 Cc rfl (wo c80 (vF AK rfl BH (wo c80 (vL 1 Cc rfl (wo c80 (wv (Lf rfl rfl) (C7 rfl c80 rfl (wm rfl (bz hI (λhb hK=>?_) (λhb hL=>?_)))))))))))))
        ·refine wo hb (vF AK rfl BH (wo hb (vL 1 Cc rfl (wo hb (vF AK rfl BH (wo hb (vL 0 Cc rfl (wo hb (wv (Lf rfl rfl) (C7 rfl hb rfl (wm rfl (bz hK (λhe hN=>?_) (λhe hO=>?_)))))))))))))
         ·exact wf he (wf he (wf he (wv (r:=rB true) (Ay rfl he rfl) (wa rfl (Aj (As (At (true,()) hN (A5.c rfl A5.nil) (sS (sS sN)))))))))
         ·refine wo he (wv (AG (i:=1) BN B1 rfl rfl rfl rfl) (wo he (wv (r:=rv (.func (.func 100) #[] #[(.pointer (some ⟨b2,0,none⟩))])) (BA rfl) (wo he (ob hO λhm hP hQ=>Dm (Hr:=[.blk b1 (Ad a) 26]) P7 (MJ F b2 a b hm hP) rfl (VF _) rfl ?_)))));rintro _ _ ⟨rfl,rfl⟩;exact Co rfl he rfl (wa rfl (Aj (As (At (hm,()) hQ (A5.c rfl A5.nil) (sS (sS sN))))))
        ·refine wf hb (wf hb (wf hb (wf hb (wf hb (wv (r:=rB false) (Aw rfl hb rfl) (wm rfl (AI (b:=false) rfl rfl rfl (wv (AG (i:=1) BN B1 rfl rfl rfl rfl) (AI (b:=false) rfl rfl rfl (wv (r:=rv (.func (.func 100) #[] #[(.pointer (some ⟨b2,0,none⟩))])) (BA rfl) (AI (b:=false) rfl rfl rfl (ob hL λhi hR hS=>Dm (Hr:=[.blk b1 (Ad a) 26]) P7 (MJ F b2 a b hi hR) rfl (VF _) rfl ?_))))))))))));rintro _ _ ⟨rfl,rfl⟩;exact wv (r:=rB hi) (Aw (b:=false) rfl rfl rfl) (wa rfl (Aj (As (At (hi,()) hS (A5.c rfl A5.nil) (sS (sS sN))))))
       ·refine wf c80 (wf c80 (wf c80 (wf c80 (wf c80 (wv (r:=rB false) (Aw rfl c80 rfl) (wm rfl (wz rfl rfl (wz rfl rfl (wz rfl rfl (wz rfl rfl (wz rfl rfl (wv (r:=rB false) (Aw (b:=false) rfl rfl rfl) (wm rfl (AI (b:=false) rfl rfl rfl (wv (AG (i:=1) BN B1 rfl rfl rfl rfl) (AI (b:=false) rfl rfl rfl (wv (r:=rv (.func (.func 100) #[] #[(.pointer (some ⟨b2,0,none⟩))])) (BA rfl) (AI (b:=false) rfl rfl rfl (ob hJ λhj hT hU=>Dm (Hr:=[.blk b1 (Ad a) 26]) P7 (MJ F b2 a b hj hT) rfl (VF _) rfl ?_)))))))))))))))))));rintro _ _ ⟨rfl,rfl⟩;exact wv (r:=rB hj) (Aw (b:=false) rfl rfl rfl) (wa rfl (Aj (As (At (hj,()) hU (A5.c rfl A5.nil) (sS (sS sN))))))
      ·rintro⟨hn,⟨⟩⟩ hg;refine B3 (l':=[(4,rB hn)]) (H':=[]) rfl rfl ?_;replace hg:Dd hn=some r:=hg;unfold Dd at hg;refine Aq ?_;obtain rfl:=Am hg;exact Ap (By P5 (A9 rfl)) sN ⟨rfl,rfl⟩
theorem Lu (F:Nat)(long:(List Ar))(short:(List Ar))(r:Bool)(h:G4 F long short=some r):Fn Tryz.prog GE 67 [AE 1 (A3 eS long),AE 1 (A3 eS short)] [] (λR H=>R=rB r∧H=[]):=by
 refine enter (n:=18) Tryz.func67 rfl Tryz.ntmps67 rfl (λw Z=>?_);unfold G4 at h;refine Ah (wa rfl (Al (ck h λg1 h2=>ck h2 λg3 h4=>AM [(4,rB ((decide ((short.length:Int)<(long.length:Int)))&&(ov (DD F (List.take (Bm (short.length:Int)) long) short))))] [] ?_ ?_)))
 ·refine Ak (wm rfl (wv (AL (ys:=long) (enc:=eS) CR rfl) (wm rfl (wv (AL (ys:=short) (enc:=eS) CR rfl) (wv (Dh rfl rfl) (wm rfl (AV (decide ((short.length:Int)<(long.length:Int))) (λc5=>?_) (λc5=>?_))))))))
  ·refine wo c5 (wm rfl (wo c5 (wm rfl (wo c5 (wv (AL (ys:=short) (enc:=eS) CR rfl) (wo c5 (wv (r:=AE 1 (A3 eS (List.take (Bm (short.length:Int)) long))) (Ox CR CE rfl rfl (D3 g1 c5)) (wo c5 (wm rfl (wo c5 (Ct Tryz.call65 (KR F (List.take (Bm (short.length:Int)) long) short (ov (DD F (List.take (Bm (short.length:Int)) long) short)) (EX (D3 g3 c5))) rfl (C7 rfl c5 rfl (wa rfl (Aj ?_))))))))))))));exact Cq c5
  ·refine wf c5 (wf c5 (wf c5 (wf c5 (wf c5 (wf c5 (wv (r:=rB false) (Aw rfl c5 rfl) (wa rfl (Aj ?_))))))));exact Cq c5
 refine Aq ?_;obtain rfl:=Am h4;exact Ap (By Tryz.results67 (A9 rfl)) sN ⟨rfl,rfl⟩
theorem Ix (F:Nat)(a:Af)(b:Af)(r:Bool)(h:Cs F a b=some r):Fn Tryz.prog GE 24 [Bv (Ad a),Bv (Ad b)] [] (λR H=>R=rB r∧H=[]):=by
 refine enter (n:=51) Tryz.func24 rfl Tryz.ntmps24 rfl (λw Z=>?_);unfold Cs at h;refine Ah (Bt rfl rfl (λb1=>?_));refine Bt rfl rfl (λb2=>?_);refine wa rfl (Al (Ao (AB (ck h λg3 h4=>ck h4 λg5 h6=>AM [(2,rP b1 0),(3,rP b2 0),(5,rB ((!decide ((ov (C3 F a))=0))||(!decide ((ov (C3 F b))=0))))] [.blk b2 (Ad b) 26,.blk b1 (Ad a) 26] ?_ ?_))))
 ·refine Ak (wv (AG (i:=1) BN B1 rfl rfl rfl rfl) (Ct QJ (HH F a (ov (C3 F a)) (EX g3)) rfl (wv (Bg rfl rfl) (wm rfl (AV (!decide ((ov (C3 F a))=0)) (λc7=>?_) (λc7=>?_))))))
  ·refine wf c7 (wf c7 (wf c7 (wv (r:=rB true) (Ay rfl c7 rfl) (wa rfl (Aj ?_)))));exact Cq c7
  ·refine wo c7 (wv (AG (i:=0) BN B1 rfl rfl rfl rfl) (wo c7 (Ct QJ (HH F b (ov (C3 F b)) (EX (C2 g5 c7))) rfl (wo c7 (wv (Bg rfl rfl) (Co rfl c7 rfl (wa rfl (Aj ?_))))))));exact Cq c7
 refine cz h6 rfl (λc8 h9=>?_) (λc8 he=>?_)
 ·refine Ah (wa rfl (Al (Aq (An (Ac ?_)))));obtain rfl:=Am h9;exact Ap (By QD (A9 rfl)) (sS (sS sN)) ⟨rfl,rfl⟩
 ·refine Ah (vF AK rfl Gh (vL 1 Hx rfl (vF AK rfl Gh (vL 0 Hx rfl (ob he λhf hg hh=>Ct Tryz.call65 (KR F a.fPath b.fPath hf hg) rfl (wa rfl (Al (cz hh rfl (λhi hj=>?_) (λhi hk=>?_)))))))))
  ·refine Ah (wv (AG (i:=1) BN B1 rfl rfl rfl rfl) (wv (AG (i:=0) BN B1 rfl rfl rfl rfl) (ob hj λhl hm hn=>Ct Tryz.call66 (O6 F a b hl hm) rfl (wa rfl (Al (Aq (An (Ac ?_))))))));obtain rfl:=Am hn;exact Ap (By QD (A9 rfl)) (sS (sS sN)) ⟨rfl,rfl⟩
  ·refine Ah (vF AK rfl Gh (vL 1 Hx rfl (vF AK rfl Gh (vL 0 Hx rfl (ob hk λho hp hq=>Ct Tryz.call67 (Lu F a.fPath b.fPath ho hp) rfl (wa rfl (Al (cz hq rfl (λhr hs=>?_) (λhr ht=>?_)))))))))
   ·refine AM [(4,rB ((decide (b.fOp=1))&&(!decide (a.fOp=2))))] [] ?_ ?_
    ·refine Ak (vF AK rfl BZ (vL 0 Cb rfl (wv (Bx rfl rfl) (wm rfl (AV (decide (b.fOp=1)) (λha=>?_) (λha=>?_))))))
     ·refine wo ha (vF AK rfl BZ (wo ha (vL 1 Cb rfl (wo ha (wv (Bg rfl rfl) (C7 rfl ha rfl (wa rfl (Aj ?_))))))));exact Cq ha
     ·refine wf ha (wf ha (wf ha (wv (r:=rB false) (Aw rfl ha rfl) (wa rfl (Aj ?_)))));exact Cq ha
    refine Aq (An (Ac ?_));obtain rfl:=Am hs;exact Ap (By QD (A9 rfl)) sN ⟨rfl,rfl⟩
   ·refine Ah (vF AK rfl Gh (vL 0 Hx rfl (vF AK rfl Gh (vL 1 Hx rfl (ob ht λhu hw hx=>Ct Tryz.call67 (Lu F b.fPath a.fPath hu hw) rfl (wa rfl (Al (cz hx rfl (λhy hz=>?_) (λhy h0=>?_)))))))))
    ·refine AM [(4,rB ((decide (a.fOp=2))&&(decide (b.fOp=2))))] [] ?_ ?_
     ·refine Ak (vF AK rfl BZ (vL 1 Cb rfl (wv (Bx rfl rfl) (wm rfl (AV (decide (a.fOp=2)) (λhb=>?_) (λhb=>?_))))))
      ·refine wo hb (vF AK rfl BZ (wo hb (vL 0 Cb rfl (wo hb (wv (Bx rfl rfl) (C7 rfl hb rfl (wa rfl (Aj ?_))))))));exact Cq hb
      ·refine wf hb (wf hb (wf hb (wv (r:=rB false) (Aw rfl hb rfl) (wa rfl (Aj ?_)))));exact Cq hb
     refine Aq (An (Ac ?_));obtain rfl:=Am hz;exact Ap (By QD (A9 rfl)) sN ⟨rfl,rfl⟩
    ·refine Av (A8 (AH (Ah (wa rfl (Al (Aq ?_))))));obtain rfl:=Am h0;exact Ap (By QD (A9 rfl)) (sS (sS sN)) ⟨rfl,rfl⟩
end Go.Proofs.YtghdglcmblpbeaaGreatDoor.Q
namespace Go.Proofs.YtghdglcmblpbeaaGreatDoor
open Go
def EZ {T:Type}:List (Int×T)→Int→T→T
 | [],_,z=>z
 | p::r,k,z=>bif decide (k=p.1) then p.2 else EZ r k z
def Lo {T:Type}:List (Int×T)→Int→Bool
 | [],_=>false
 | p::r,k=>decide (k=p.1)||Lo r k
set_option linter.unusedVariables false
def EJ (ls:(List (List (List Aa))))(hb:(List (List Aa)))(ha:Int):Option (Stp ((List (List Aa))×Int) (Out ((List (List Aa))) ((List (List Aa))))):=
 AP (decide (ha<(ls.length:Int))) (AR (Cp ha (ls.length:Int))<|AR (En 24 (hb.length+(Ax ls ha).length))<|AR (BL .i64 (ha+1))<|some (.next (hb++(Ax ls ha),ha+1))) (some (.out (.go hb)))
def EH (ha:(List (List Aa))):Option ((List (List Aa))):=
 some ha
def EK (ls:(List (List (List Aa))))(hb:Int)(ha:Int):Option (Stp (Int×Int) (Out ((List (List Aa))) (Int))):=
 AP (decide (ha<(ls.length:Int))) (AR (Cp ha (ls.length:Int))<|AR (BL .i64 (hb+((Ax ls ha).length:Int)))<|AR (!(decide ((hb+((Ax ls ha).length:Int))<0)))<|AR (BL .i64 (ha+1))<|some (.next (hb+((Ax ls ha).length:Int),ha+1))) (some (.out (.go hb)))
def EI (F:Nat)(ls:(List (List (List Aa))))(ha:Int):Option ((List (List Aa))):=
 AR (decide (0<ha))<|AR (En 24 (Int.toNat ha))<|Bf (BW (λσ=>EJ ls σ.1 σ.2) F (([]:List (List Aa)),0)) (BV λν=>EH ν)
def KS (F:Nat)(ls:(List (List (List Aa)))):Option ((List (List Aa))):=
 Bf (BW (λσ=>EK ls σ.1 σ.2) F (0,0)) (BV λν=>EI F ls ν)
def Ji (F:Nat)(l:(List Ar))(he:(List (List Aa)))(ha:Int):Option (Stp ((List (List Aa))×Int) (Out ((List Aa)×Int) ((List (List Aa))))):=
 AP (decide (ha<(l.length:Int))) (AR (Cp ha (l.length:Int))<|Bf (Mu F (Ax l ha)) λhb=>AP (!decide (hb.2=0)) (some (.out (.ret (([]:List Aa),hb.2)))) (AR (En 24 (he.length+([hb.1]:List (List Aa)).length))<|AR (BL .i64 (ha+1))<|some (.next (he++([hb.1]:List (List Aa)),ha+1)))) (some (.out (.go he)))
def Jh (F:Nat)(hb:(List (List Aa))):Option ((List Aa)×Int):=
 Bf (LR F hb) λha=>some (ha.1,ha.2)
def R9 (F:Nat)(l:(List Ar)):Option ((List Aa)×Int):=
 Bf (BW (λσ=>Ji F l σ.1 σ.2) F (([]:List (List Aa)),0)) (BV λν=>Jh F ν)
def J3 (F:Nat)(f:Af):Option ((List (List Aa))×Int):=
 AP (decide (f.fOp=3)) (Bf (LR F f.fValues) λr4=>some (([r4.1]:List (List Aa)),r4.2)) (AP (decide (f.fOp=4)) (Bf (LR F f.fValues) λha=>some (([ha.1]:List (List Aa)),ha.2)) (AP (decide (f.fOp=5)) (Bf (Mu F f.fText) λhb=>some (([hb.1]:List (List Aa)),hb.2)) (AP (decide (f.fOp=6)) (Bf (S8 F f.fLow) λhe=>Bf (S8 F f.fHigh) λhf=>some (([he.1,hf.1]:List (List Aa)),max he.2 hf.2)) (some (([]:List (List Aa)),0)))))
def MH (F:Nat)(f:Af):Option (Ar×Int):=
 Bf (C3 F f) λr2=>AP (!decide (r2=0)) (some (([]:Ar),r2)) (Bf (R9 F f.fPath) λr8=>AP (!decide (r8.2=0)) (some (([]:Ar),r8.2)) (Bf (MF) λhf=>AR (Cp f.fOp (hf.length:Int))<|Bf (Mu F (Ax hf f.fOp)) λha=>AP (!decide (ha.2=0)) (some (([]:Ar),ha.2)) (Bf (J3 F f) λhb=>AP (!decide (hb.2=0)) (some (([]:Ar),hb.2)) (Bf (KS F ([([r8.1,ha.1]:List (List Aa)),hb.1]:List (List (List Aa)))) λhh=>Bf (LR F hh) λhe=>AP (!decide (he.2=0)) (some (([]:Ar),he.2)) (Bf (Mw F he.1) λhg=>some (hg.1,hg.2))))))
def Hb (f:Af)(l:(List (List Aa)))(ha:Int):Option (Stp (Int) (Out (Af×Bool) (Unit))):=
 AP (decide (ha<((EZ ((((([]:List (Int×(List Int)))++[(3,([5]:List Int))])++[(4,([5]:List Int))])++[(5,([4]:List Int))])++[(6,([3,3]:List Int))]) f.fOp ([]:(List Int))).length:Int))) (AR (Cp ha ((EZ ((((([]:List (Int×(List Int)))++[(3,([5]:List Int))])++[(4,([5]:List Int))])++[(5,([4]:List Int))])++[(6,([3,3]:List Int))]) f.fOp ([]:(List Int))).length:Int))<|AR (Cp ha (l.length:Int))<|AR (Cp 0 ((Ax l ha).length:Int))<|AP (!decide (((Ax (Ax l ha) 0).fKind)=(Ax (EZ ((((([]:List (Int×(List Int)))++[(3,([5]:List Int))])++[(4,([5]:List Int))])++[(5,([4]:List Int))])++[(6,([3,3]:List Int))]) f.fOp ([]:(List Int))) ha))) (some (.out (.ret (f,false)))) (AR (BL .i64 (ha+1))<|some (.next (ha+1)))) (some (.out (.go ())))
def Ha (F:Nat)(f:Af)(l:(List (List Aa))):Option (Af×Bool):=
 AP (decide (f.fOp=3)) (AR (Cp 0 (l.length:Int))<|Bf (Jp F (Ax l 0)) λha=>some ((Af.mk f.fPath f.fOp ha.1 f.fText f.fLow f.fHigh),decide (ha.2=0))) (AP (decide (f.fOp=4)) (AR (Cp 0 (l.length:Int))<|Bf (Jp F (Ax l 0)) λhb=>some ((Af.mk f.fPath f.fOp hb.1 f.fText f.fLow f.fHigh),decide (hb.2=0))) (AP (decide (f.fOp=5)) (AR (Cp 0 (l.length:Int))<|AR (Cp 0 ((Ax l 0).length:Int))<|some ((Af.mk f.fPath f.fOp f.fValues ((Ax (Ax l 0) 0).fStr) f.fLow f.fHigh),true)) (AP (decide (f.fOp=6)) (AR (Cp 0 (l.length:Int))<|AR (Cp 0 ((Ax l 0).length:Int))<|AR (Cp 1 (l.length:Int))<|AR (Cp 0 ((Ax l 1).length:Int))<|some ((Af.mk f.fPath f.fOp f.fValues f.fText ((Ax (Ax l 0) 0).fInt) ((Ax (Ax l 1) 0).fInt)),true)) (some (f,true)))))
def MI (F:Nat)(f:Af)(l:(List (List Aa))):Option (Af×Bool):=
 AP (!decide (((EZ ((((([]:List (Int×(List Int)))++[(3,([5]:List Int))])++[(4,([5]:List Int))])++[(5,([4]:List Int))])++[(6,([3,3]:List Int))]) f.fOp ([]:(List Int))).length:Int)=(l.length:Int))) (some (f,false)) (Bf (BW (λσ=>Hb f l σ) F 0) (BV λν=>Ha F f l ))
def HZ (hb:(List (List Aa))×Int)(ha:Int)(he:(List Ar)):Option (Stp (Int×(List Ar)) (Out (Af×Int) ((List Ar)))):=
 AP (decide (ha<(hb.1.length:Int))) (AR (Cp ha (hb.1.length:Int))<|AR (Cp 0 ((Ax hb.1 ha).length:Int))<|AP (!decide (((Ax (Ax hb.1 ha) 0).fKind)=4)) (some (.out (.ret ((Af.mk ([]:List Ar) 0 ([]:List (List Aa)) ([]:Ar) 0 0),1)))) (AR (En 16 (he.length+([(Ax (Ax hb.1 ha) 0).fStr]:List Ar).length))<|AR (BL .i64 (ha+1))<|some (.next (ha+1,he++([(Ax (Ax hb.1 ha) 0).fStr]:List Ar))))) (some (.out (.go he)))
def HY (F:Nat)(r9:(List (List Aa))×Int)(he:(List Ar)):Option (Af×Int):=
 Bf (MF) λhf=>AR (Cp 1 (r9.1.length:Int))<|AR (Cp 0 ((Ax r9.1 1).length:Int))<|Bf (KQ F hf ((Ax (Ax r9.1 1) 0).fStr)) λhg=>AR (EB 2 (r9.1.length:Int))<|Bf (MI F (Af.mk he hg ([]:List (List Aa)) ([]:Ar) 0 0) (List.drop (Int.toNat 2) r9.1)) λha=>AP (((decide (ha.1.fOp<1))||(!ha.2))) (some ((Af.mk ([]:List Ar) 0 ([]:List (List Aa)) ([]:Ar) 0 0),1)) (Bf (C3 F ha.1) λhb=>AP (!decide (hb=0)) (some ((Af.mk ([]:List Ar) 0 ([]:List (List Aa)) ([]:Ar) 0 0),hb)) (some (ha.1,0)))
def O4 (F:Nat)(s:Ar):Option (Af×Int):=
 Bf (Mx F s) λr3=>AP (!decide (r3.2=0)) (some ((Af.mk ([]:List Ar) 0 ([]:List (List Aa)) ([]:Ar) 0 0),r3.2)) (Bf (Jp F r3.1) λr9=>AR (imp (!(!decide (r9.2=0))) (Cp 0 (r3.1.length:Int)))<|AR (imp (!(!decide (r9.2=0))) (imp (!(!decide (((Ax r3.1 0).fKind)=5))) (imp (!(decide ((r9.1.length:Int)<2))) (Cp 0 (r9.1.length:Int)))))<|AR (imp (!(!decide (r9.2=0))) (imp (!(!decide (((Ax r3.1 0).fKind)=5))) (imp (!(decide ((r9.1.length:Int)<2))) (Cp 0 ((Ax r9.1 0).length:Int)))))<|AR (imp (!(!decide (r9.2=0))) (imp (!(!decide (((Ax r3.1 0).fKind)=5))) (imp (!(decide ((r9.1.length:Int)<2))) (imp (!(!decide (((Ax (Ax r9.1 0) 0).fKind)=5))) (Cp 1 (r9.1.length:Int))))))<|AR (imp (!(!decide (r9.2=0))) (imp (!(!decide (((Ax r3.1 0).fKind)=5))) (imp (!(decide ((r9.1.length:Int)<2))) (imp (!(!decide (((Ax (Ax r9.1 0) 0).fKind)=5))) (Cp 0 ((Ax r9.1 1).length:Int))))))<|AP (((!decide (r9.2=0))||((!decide (((Ax r3.1 0).fKind)=5))||((decide ((r9.1.length:Int)<2))||((!decide (((Ax (Ax r9.1 0) 0).fKind)=5))||(!decide (((Ax (Ax r9.1 1) 0).fKind)=4))))))) (some ((Af.mk ([]:List Ar) 0 ([]:List (List Aa)) ([]:Ar) 0 0),1)) (AR (Cp 0 (r9.1.length:Int))<|Bf (Jp F (Ax r9.1 0)) λha=>AP (!decide (ha.2=0)) (some ((Af.mk ([]:List Ar) 0 ([]:List (List Aa)) ([]:Ar) 0 0),1)) (Bf (BW (λσ=>HZ ha σ.1 σ.2) F (0,([]:List Ar))) (BV λν=>HY F r9 ν))))
end Go.Proofs.YtghdglcmblpbeaaGreatDoor
namespace Go.Proofs.YtghdglcmblpbeaaGreatDoor.Q
open Go Go.RowKit
set_option linter.unusedVariables false
def EP {T:Type}(enc:T→Rp)(xs:List (Int×T)):List (Int×Rp):=xs.map λp=>(p.1,enc p.2)
section
variable {P : Program} {n : Nat} {c : Cx} {ops : Array Oper} {Q : Exit → Act → World → Prop} {rest : List Oper} {l : Fr} {H : List Ent} {d : Nat} {d' : Option Nat} {t kt et ty : TypeId} {pos : String} {af : Array Edge} {g : Option (Nat × Bool)} {x y u : Operand} {b i : Nat} {T : Type} {enc : T → Rp} {xs : List (Int × T)} {z : T} {zv : Value}
theorem Oi (hn:Nat.blt d n=true)(h:∀b,WL P n c ops Q rest ((d,rv (.map (some b)))::l) (.imap b []::H)) :
  WL P n c ops Q ({ dst:=some d,op:=.makeMap t none,type:=ty,pos:=pos,after:=af,guard:=none }::rest) l H:=
 Kc (λa w Z ha hw=>⟨_,w.alloc (.map #[] 0),_,_,Z,by simp[execOp,run_makeMap],Fz.le.refl _,rfl,
  hw.alloc _ (e:=.imap w.heap.size []) ⟨#[],0,by simpa using heap_alloc_new w _,trivial⟩ rfl,h w.heap.size⟩) hn
theorem J0 (k:IntKind)(m:Int):MapKept.IsKey (.int k) (.int k m):=by simp[MapKept.IsKey]
theorem St.imapset {Z:Fz}{w:World}(h:St c H Z w){m m':List (Int×Rp)}(hi:H[i]? =some (.imap b m)){es es':Array MapEntry}{ck ck':Nat}(h1:w.heap[b]? =some (.map es ck))(h2:L9 Z m' es'.toList) :
  St c (H.set i (.imap b m')) Z { w with heap:=w.heap.setIfInBounds b (.map es' ck') }:=by
 obtain⟨q1,q2⟩:=MapKept.heap_set (o':=.map es' ck') h1;exact h.set hi rfl rfl rfl (by simp) (λk _ hk=>q2 k (by simpa[Ent.foot] using hk)) ⟨es',ck',q1,h2⟩ (by simp[Ent.foot])
theorem R4 {Z:Fz}(k:Int):∀{m:List (Int×Rp)} {es:List MapEntry} (j:Nat),L9 Z m es→(∃q,Instr.findNow (.int .i64) (.int .i64 k) es j=some q)∧(Lo m k=false→Instr.findNow (.int .i64) (.int .i64 k) es j=some none)∧(Lo m k=true→∃q v,Instr.findNow (.int .i64) (.int .i64 k) es j=some (some (q,v))∧∀z,(EZ m k z).p Z v)
 | [],[],j,_=>⟨⟨_,rfl⟩,λ_=>rfl,λh=>by cases h⟩
 | p::m,e::es,j,⟨⟨h1,h2⟩,h3⟩=>by
  have ih:=R4 k (j+1) h3;unfold Instr.findNow Lo EZ;rw[h1];have hs:Instr.sameNow (.int .i64) (.int .i64 k) (.int .i64 p.1)=some (k ==p.1):=by simp[Instr.sameNow]
  rw[hs]
  by_cases hk:k=p.1
  ·subst hk;rw[beq_self_eq_true,VN rfl,Wj];refine⟨⟨_,rfl⟩,λh=>?_,λ_=>⟨j,e.val,rfl,λz=>h2⟩⟩
   cases h
  ·have hb:(k ==p.1)=false:=by simp[hk]
   rw[hb];simp only[VL hk,VY,VK];exact ih
theorem L9.push {Z:Fz}{k:Int}{r:Rp}{v:Value}(hv:r.p Z v)(ck:Nat):∀{m:List (Int×Rp)} {es:List MapEntry},L9 Z m es→L9 Z (m++[(k,r)]) (es++[⟨.int .i64 k,v,ck⟩])
 | [],[],_=>⟨⟨rfl,hv⟩,trivial⟩
 | p::m,e::es,⟨h1,h2⟩=>⟨h1,h2.push hv ck⟩
theorem PH {k:Int}{r:Rp}{m:List (Int×Rp)}(ht:P.underlying t=some (.map kt et))(hk:P.underlying kt=some (.int .i64))(hx:ev l x=some (rv (.map (some b))))(hi:H[i]? =some (.imap b m))(hy:ev l y=some (rI .i64 k))(hu:ev l u=some r)(hm:Lo m k=false){H':List Ent}(hH:H.set i (.imap b (m++[(k,r)]))=H')(h:WL P n c ops Q rest l H') :
  WL P n c ops Q ({ dst:=none,op:=.insert t x y u,type:=ty,pos:=pos,after:=af,guard:=none }::rest) l H:=
 Nf λa w Z ha hw=>by
  obtain⟨es,ck,h1,h2⟩:=hw.ent hi;have hv:=ha.ev hu;subst hH;have q1:=(R4 k 0 h2).2.1 hm;refine⟨_,_,?_,hw.imapset hi h1 (es':=es.push { key:=.int .i64 k,val:=a.eval u,born:=ck }) (ck':=ck+1) (by simpa using h2.push hv ck),h⟩;simp[execOp,ha.eval hx,ha.eval hy,Instr.mapUpdate,run_underlying ht,MapKept.run_getObj_map h1,MapKept.run_checkKey hk (J0 _ _),MapKept.run_findKey hk q1,MapKept.run_setObj_map _ h1]
theorem ND (enc:T→Rp)(xs:List (Int×T))(k:Int):Lo (EP enc xs) k=Lo xs k:=by
 induction xs with
 | nil=>rfl
 | cons p r ih=>unfold EP at ih ⊢;simp only[W2,Lo,ih]
theorem R2 (enc:T→Rp)(xs:List (Int×T))(k:Int)(z:T):EZ (EP enc xs) k (enc z)=enc (EZ xs k z):=by
 induction xs with
 | nil=>rfl
 | cons p r ih=>unfold EP at ih ⊢;simp only[W2,EZ,ih];cases decide (k=p.1)<;>rfl
theorem GR {k:Int}{v:T}(ht:P.underlying t=some (.map kt et))(hk:P.underlying kt=some (.int .i64))(hx:ev l x=some (rv (.map (some b))))(hi:H[i]? =some (.imap b (EP enc xs)))(hy:ev l y=some (rI .i64 k))(hu:ev l u=some (enc v))(hm:Lo xs k=false){H':List Ent}(hH:H.set i (.imap b (EP enc (xs++[(k,v)])))=H')(h:WL P n c ops Q rest l H') :
  WL P n c ops Q ({ dst:=none,op:=.insert t x y u,type:=ty,pos:=pos,after:=af,guard:=none }::rest) l H:=
 PH ht hk hx hi hy hu (by rw[ND];exact hm) (by rw[← hH];unfold EP;simp) h
theorem TX {k:Int}(ht:P.underlying t=some (.map kt et))(hk:P.underlying kt=some (.int .i64))(hz:∀w,(zeroValue et).run P w = .ok zv w)(hzr:∀Z,(enc z).p Z zv)(hx:ev l x=some (rv (.map (some b))))(hi:H[i]? =some (.imap b (EP enc xs)))(hy:ev l y=some (rI .i64 k)) :
  Bn P n c l H { dst:=d',op:=.lookup t x y false,type:=ty,pos:=pos,after:=af,guard:=g } (enc (EZ xs k z)):=λa w Z ha hw=>by
 obtain⟨es,ck,h1,h2⟩:=hw.ent hi;have hf:=R4 k 0 h2
 cases hh:Lo (EP enc xs) k with
 | false=>
  have hv:EZ xs k z=z:=by
   rw[ND] at hh;clear hf h1 h2 hi
   induction xs with
   | nil=>rfl
   | cons p r ih=>
    simp only[Lo,Wa] at hh;simp only[EZ,hh.1,VK];exact ih hh.2
  rw[hv];exact⟨zv,hzr Z,by simp[execOp,ha.eval hx,ha.eval hy,Instr.lookup,run_underlying ht,MapKept.run_getObj_map h1,MapKept.run_checkKey hk (J0 _ _),MapKept.run_findKey hk (hf.2.1 hh),hz]⟩
 | true=>
  obtain⟨q,v,q1,q2⟩:=hf.2.2 hh;refine⟨v,by have:=q2 (enc z);rw[R2] at this;exact this,by simp[execOp,ha.eval hx,ha.eval hy,Instr.lookup,run_underlying ht,MapKept.run_getObj_map h1,MapKept.run_checkKey hk (J0 _ _),MapKept.run_findKey hk q1]⟩
end
end Go.Proofs.YtghdglcmblpbeaaGreatDoor.Q
namespace Go.Proofs
open Go.Shelf
def Tryz.GrowL_ren:Go.Shelf.Ren:=⟨fun | 4=>86 | n=>n,fun | 22=>24 | 25=>28 | 3=>3 | 4=>4 | 9=>9 | 20=>20 | 0=>0 | n=>n,fun | n=>n⟩
theorem Tryz.GrowL:Go.Proofs.Lays8.n4 Tryz.prog Tryz.GrowL_ren:={
 mixed:=by kernel_rfl
 f4:=⟨Tryz.f86.name,by decide,Tryz.func86.trans (congrArg some (by kernel_rfl))⟩
 t0:=Tryz.underlying0
 a0:=Tryz.isAgg0
 z0:=Tryz.sizeOf0
 v0:=Tryz.zeroValue0
 t3:=Tryz.underlying3
 a3:=Tryz.isAgg3
 z3:=Tryz.sizeOf3
 v3:=Tryz.zeroValue3
 t4:=Tryz.underlying4
 a4:=Tryz.isAgg4
 z4:=Tryz.sizeOf4
 v4:=Tryz.zeroValue4
 t9:=Tryz.underlying9
 a9:=Tryz.isAgg9
 z9:=Tryz.sizeOf9
 v9:=Tryz.zeroValue9
 t20:=Tryz.underlying20
 a20:=Tryz.isAgg20
 z20:=Tryz.sizeOf20
 v20:=Tryz.zeroValue20
 t22:=Tryz.underlying24
 a22:=Tryz.isAgg24
 z22:=Tryz.sizeOf24
 v22:=Tryz.zeroValue24 }
end Go.Proofs
namespace Go.Proofs.YtghdglcmblpbeaaGreatDoor.Q
open Go Go.RowKit Go.Proofs Go.Shelf
set_option linter.unusedVariables false
theorem Ul {T:Type}(enc:T→List Rp)(m:Int)(g1:decide (0<m)=true)(g2:En 24 (Int.toNat m)=true):Fn Tryz.prog GE 86 [rv (.slice none 0 0),rI .i64 m] [] (λR H=>∃v:Value,R=rv v∧H=[.row v 28 1 (([]:List T).map enc)]):=λw Z vs hv hs=>by
 have e:=AZ.eq_rv (us:=[.slice none 0 0,.int .i64 m]) hv;subst e;have g1':=Wc g1;have g2':Int.toNat m*24≤140737488355328:=Wc g2;have key:(Tryz.prog.info? 28).map (λi=>(i.zero,i.size,i.bytes))=some (some (.slice none 0 0),1,24):=by kernel_rfl
 obtain⟨inf,hi,h2⟩:=Option.map_eq_some_iff.1 key;simp only[Prod.mk.injEq] at h2;obtain⟨hz,hsz,hb⟩:=h2;have h:=Any8.slices_Grow_grow Tryz.GrowL inf (.slice none 0 0) hi hz (by rw[hsz];decide) none 0 0 (Int.toNat m) [] w (VZ 0) (by omega) (by rw[hb,Wo];exact g2') (by omega) (by simp) (λ_=>rfl) (λa h=>by cases h);rw[Int.toNat_of_nonneg (by omega)] at h;refine h.mono ?_;rintro e w' ⟨rfl,rfl⟩;have hG:=grownCap_ge w (0+Int.toNat m) 0 28;have hG2:=grownCap_le_maxLen w (0+Int.toNat m) 0 28 (by have e:maxLen=9223372036854775807:=rfl;omega);refine⟨_,_,_,Z,rfl,⟨_,rfl,rfl⟩,rfl,(hs.drawn (w.drawn+1)).alloc _ ⟨λc hc=>by simp at hc,[],⟨rfl,.inr ⟨w.heap.size,_,_,rfl,Wq _,heap_alloc_new w.drew _,Wq _,hG2,?_,rfl⟩⟩,trivial⟩ rfl⟩;rw[Array.size_append,Array.size_append,size_zeroCells,size_zeroCells];have:(Value.cells (.slice none 0 0)).size=1:=rfl;rw[this];simp only[List.size_toArray,Wv];show 0+(0+Int.toNat m-0)*1+(grownCap w (0+Int.toNat m) 0 28-(0+Int.toNat m))*1=grownCap w (0+Int.toNat m) 0 28*1;omega
end Go.Proofs.YtghdglcmblpbeaaGreatDoor.Q
