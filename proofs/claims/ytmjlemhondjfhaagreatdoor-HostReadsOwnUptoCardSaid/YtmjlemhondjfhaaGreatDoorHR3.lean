/-
  Texts of the proof, put together: QU, QT, QN, QM, QI, QW, QV, QJ, QX, QL, PI, QF, Q6, Q9, Qg, WHa, PHb, WHb, PHc, Qw, Qv, QK, WHc, PHd.
-/
import Derived.Test.YtmjlemhondjfhaaGreatDoorHR2
import Derived.Laws.Cover3
import Derived.MapKept
import Derived.Maps.RangeRun
import Derived.ScopeJumps
import Derived.Laws.CopyRow
import Derived.Laws.IdiomCopy
import Derived.Laws.OwnMore
import Derived.Laws.IdiomStrings
import Derived.Sort.KeysCollected
namespace Go.Proofs.YtmjlemhondjfhaaGreatDoor.Q
open Go Go.RowKit
set_option linter.unusedVariables false
set_option linter.unusedSimpArgs false
def PR (ops:List Oper)(N:Nat):Bool:=
 let cl:=LR ops []
 (List.range ops.length).all (λi=>(Dd (ops.getD i default)).all (·<i))&&
 (List.range ops.length).all (λi=>i<N||(List.range i).all (λj=>(cl.getD i 0).testBit j))
section
variable {P : Program} {Q : Exit → Act → World → Prop}
theorem TQ {listed:Array Bool}{len m:Nat}(hs:listed.size=len)(hm:m≤len)(h:∀j,j<len→(listed.getD j true=true↔j<m)):listed.toList.count false=len-m:=by
 have:listed.toList=List.replicate m true++List.replicate (len-m) false:=by
  apply List.ext_getElem
  ·simp[hs];omega
  ·intro j h1 h2;have hj:j<len:=by simpa[hs] using h1
   have:=h j hj;rw[Array.getD_eq_getD_getElem?,Array.getElem?_eq_getElem (by omega)] at this;simp only[AeE] at this;rw[Array.getElem_toList,List.getElem_append]
   split
   ·rename_i h3
    simp at h3;simp[this.2 h3]
   ·rename_i h3
    simp at h3;simp only[List.getElem_replicate]
    cases hb:listed[j] with
    | false=>rfl
    | true=>have:=this.1 hb;omega
 rw[this];simp[List.count_append,List.count_replicate]
theorem Wa {listed:Array Bool}{j:Nat}(h:j<listed.size)(d d':Bool):listed.getD j d=listed.getD j d':=by
 simp[Array.getD_eq_getD_getElem?,Array.getElem?_eq_getElem h]
theorem PV {ops:List Oper}{listed:Array Bool}{i:Nat}{o:Oper}(ho:ops[i]? =some o)(hb:∀e∈Dd o,listed.getD e true=true)
  (hcl:∀j o,ops[j]? =some o→listed.getD j true=true→∀e∈Dd o,listed.getD e true=true) (j:Nat) (h:((LR ops []).getD i 0).testBit j=true):j=i∨listed.getD j true=true:=
 GS ops (λk=>k=i∨listed.getD k true=true) ops [] (λt o' ht e he hF=>by
  rcases hF with hF | hF
  ·simp at hF;subst hF;rw[ho] at ht;simp at ht;subst ht;exact .inr (hb e he)
  ·exact .inr (hcl t o' ht (by simpa using hF) e he)) (λj i hb=>by simp at hb) i j h (.inl rfl)
theorem LF {ops:List Oper}{listed:Array Bool}{i:Nat}(hsz:listed.size=ops.length)(hlt:∀i,i<ops.length→∀e∈Dd (ops.getD i default),e<i)(h:i∈Region.ready .any ops.toArray listed) :
  listed.getD i true=false∧i<ops.length∧∃o,ops[i]? =some o∧∀e∈Dd o,listed.getD e true=true:=by
 obtain⟨h1,o,ho,h2⟩:=mem_ready.1 h;have ho':ops[i]? =some o:=by simpa using ho
 have hil:=(List.getElem?_eq_some_iff.1 ho').1;refine⟨h1,hil,o,ho',λe he=>?_⟩;have hei:=hlt i hil e (by rw[Aen,ho'];exact he);simp only[Dd,List.mem_map,List.mem_filter] at he;obtain⟨x,⟨hx1,hx2⟩,rfl⟩:=he;have h3:=h2 x (by simpa using hx1) hx2;rw[Wa (by omega) true false];exact h3
theorem Lt {ops:List Oper}{listed:Array Bool}(hsz:listed.size=ops.length)(hlt:∀i,i<ops.length→∀e∈Dd (ops.getD i default),e<i)(h:Region.ready .any ops.toArray listed=[]) :
  ∀j,j<ops.length→listed.getD j true=true:=by
 intro j
 induction j using Nat.strongRecOn with
 | ind j ih=>
  intro hj
  cases hb:listed.getD j true with
  | true=>rfl
  | false=>
   have:j∈Region.ready .any ops.toArray listed:=mem_ready.2 ⟨hb,ops[j],by simp[hj],λe he hbn=>by
    have hel:e.on<j:=hlt j hj e.on (by
     rw[Aen,Aep hj];simp only[Dd,AeE,List.mem_map,List.mem_filter];exact⟨e,⟨by simpa using he,hbn⟩,rfl⟩)
    rw[Wa (by omega) false true];exact ih e.on hel (by omega)⟩
   rw[h] at this;cases this
theorem Oz {listed:Array Bool}{i j:Nat}(hi:i<listed.size):(listed.setIfInBounds i true).getD j true=true↔(j=i∨listed.getD j true=true):=by
 by_cases hj:i=j
 ·subst hj;simp[hi]
 ·rw[getD_set_ne true hj];exact⟨.inr,λh=>h.elim (λh=>absurd h.symm hj) id⟩
theorem WP {listed:Array Bool}{i fuel:Nat}(hi:i<listed.size)(hun:listed.getD i true=false)(hc:listed.toList.count false=fuel+1):(listed.setIfInBounds i true).toList.count false=fuel:=by
 have hfi:listed.toList[i]? =some false:=by
  rw[Array.getD_eq_getD_getElem?,Array.getElem?_eq_getElem hi] at hun;simp at hun;simp[hi,hun]
 rw[Array.toList_setIfInBounds];have h1:=List.count_set (a:=true) (b:=false) (l:=listed.toList) (i:=i) (by simpa using hi);have h2:listed.toList[i]'(by simpa using hi)=false:=by
  have:=List.getElem?_eq_some_iff.1 hfi;exact this.2
 rw[h1,h2,hc];rfl
theorem NJ {ops:List Oper}{N:Nat}(hlt:∀i,i<ops.length→∀e∈Dd (ops.getD i default),e<i)
  (hch:∀i,N≤i→i<ops.length→∀j,j<i→((LR ops []).getD i 0).testBit j=true):∀(k m:Nat) (listed:Array Bool) (a:Act) (w:World),m+k=ops.length→N≤m→listed.size=ops.length→
   (∀j,j<ops.length→(listed.getD j true=true↔j<m))→(∀j o,ops[j]? =some o→listed.getD j true=true→∀e∈Dd o,listed.getD e true=true)→wpList P ops.toArray Q (ops.drop m) a w→wpAny P .any ops.toArray Q k listed a w
 | 0,m,listed,a,w,hk,hN,hsz,hl,hcl,h=>by
  refine⟨?_,?_⟩
  ·cases hr:Region.ready .any ops.toArray listed with
   | nil=>rfl
   | cons i r=>
    obtain⟨h1,h2,_⟩:=LF hsz hlt (i:=i) (by rw[hr];simp);rw[(hl i h2).2 (by omega)] at h1;cases h1
  ·rw[List.drop_of_length_le (by omega)] at h;exact h
 | k+1,m,listed,a,w,hk,hN,hsz,hl,hcl,h=>by
  refine⟨λhr=>?_,λi hi=>?_⟩
  ·have:=(hl m (by omega)).1 (Lt hsz hlt hr m (by omega));omega
  ·obtain⟨h1,h2,o,ho,hb⟩:=LF hsz hlt hi;have him:i=m:=by
    have hmi : ¬ i<m:=λh'=>by rw[(hl i h2).2 h'] at h1;cases h1
    by_cases e:i=m
    ·exact e
    ·rcases PV ho hb hcl m (hch i (by omega) h2 m (by omega)) with h3 | h3
     ·exact h3.symm
     ·have:=(hl m (by omega)).1 h3;omega
   subst him;have hd:ops.drop i=o::ops.drop (i+1):=by
    rw[List.drop_eq_getElem_cons h2]
    congr 1
    exact(List.getElem?_eq_some_iff.1 ho).2
   rw[hd] at h;have ih:∀a' w',wpList P ops.toArray Q (ops.drop (i+1)) a' w'→wpAny P .any ops.toArray Q k (listed.setIfInBounds i true) a' w':=λa' w' h'=>by
    refine NJ hlt hch k (i+1) _ a' w' (by omega) (by omega) (by simpa using hsz) (λj hj=>?_) (λj o' hj hlj e he=>?_) h'
    ·rw[Oz (by omega),hl j hj];omega
    ·rw[Oz (by omega)] at hlj ⊢;rcases hlj with rfl | hlj
     ·rw[ho] at hj;simp at hj;subst hj;exact .inr (hb e he)
     ·exact .inr (hcl j o' hj hlj e he)
   unfold wpOp;have hoA:ops.toArray[i]? =some o:=by simpa using ho
   simp only[hoA];simp only[wpList] at h
   split
   ·rename_i hw'
    rw[AeW hw'] at h;exact h.imp (λh=>Oper.wp_mono ih h) (λh=>h)
   ·rename_i hw'
    rw[AeR hw'] at h;exact ih _ _ h
theorem Uj {id:Nat}{ops:List Oper}{N:Nat}(hm:P.follows .mixedOrders=true)(hB:PR ops N=true)(hN:N≤ops.length)(I:(Nat→Bool)→Act→World→Prop)
  (hext:∀S S' a w,(∀j,j<N→S j=S' j)→I S a w→I S' a w) {a:Act} {w:World} (h0:I (λ_=>false) a { w with drawn:=w.drawn+1 })
  (step:∀S i o a w,i<N→S i=false→ops[i]? =some o→(∀e∈Dd o,e<i∧S e=true)→I S a w→∀K:Act→World→Prop,(∀a' w',I (λj=>j ==i||S j) a' w'→K a' w')→
   (Region.wanted o (yielded ops.toArray a.tmps)=true→o.wp P a w K Q)∧(Region.wanted o (yielded ops.toArray a.tmps)=false→K (a.put o.dst undef) w))
  (fin:∀a w,I (λ_=>true) a w→wpList P ops.toArray Q (ops.drop N) a w):(Code.region id ops.toArray true).wp P Q a w:=by
 simp only[PR,Ael,AeI,List.mem_range,Aeh,AeH] at hB;obtain⟨hlt,hch0⟩:=hB;have hch:∀i,N≤i→i<ops.length→∀j,j<i→((LR ops []).getD i 0).testBit j=true:=λi h1 h2 j hj=>by
  rcases hch0 i h2 with h3 | h3
  ·omega
  ·exact h3 j hj
 refine wp_region_any hm ?_;have main:∀(fuel:Nat) (listed:Array Bool) (a:Act) (w:World),listed.size=ops.length→listed.toList.count false=fuel→I (λj=>listed.getD j true) a w→
   (∀j o,ops[j]? =some o→listed.getD j true=true→∀e∈Dd o,listed.getD e true=true)→(∀j,N≤j→j<ops.length→listed.getD j true=false)→wpAny P .any ops.toArray Q fuel listed a w:=by
  intro fuel;have allin:∀(fuel:Nat) (listed:Array Bool) (a:Act) (w:World),listed.size=ops.length→listed.toList.count false=fuel→I (λj=>listed.getD j true) a w→
   (∀j o,ops[j]? =some o→listed.getD j true=true→∀e∈Dd o,listed.getD e true=true)→(∀j,N≤j→j<ops.length→listed.getD j true=false)→(∀j,j<N→listed.getD j true=true)→wpAny P .any ops.toArray Q fuel listed a w:=by
   intro fuel listed a w hsz hc hI hcl hlast hall;have hl:∀j,j<ops.length→(listed.getD j true=true↔j<N):=λj hj=>by
    constructor
    ·intro h
     by_cases hjN:j<N
     ·exact hjN
     ·rw[hlast j (by omega) hj] at h;cases h
    ·exact hall j
   have:=TQ hsz hN hl;refine NJ hlt hch fuel N listed a w (by omega) (Ae9 _) hsz hl hcl (fin a w (hext _ _ a w (λj hj=>hall j hj) hI))
  induction fuel with
  | zero=>
   intro listed a w hsz hc hI hcl hlast;refine allin 0 listed a w hsz hc hI hcl hlast (λj hj=>?_)
   cases hb:listed.getD j true with
   | true=>rfl
   | false=>
    have:false∈listed.toList:=by
     rw[Array.getD_eq_getD_getElem?,Array.getElem?_eq_getElem (by omega)] at hb;simp at hb;rw[← hb];simp
    have:=List.count_pos_iff.2 this;omega
  | succ fuel ih=>
   intro listed a w hsz hc hI hcl hlast
   by_cases hall:∀j,j<N→listed.getD j true=true
   ·exact allin (fuel+1) listed a w hsz hc hI hcl hlast hall
   ·refine⟨λhr=>absurd (λj hj=>Lt hsz hlt hr j (by omega)) hall,λi hi=>?_⟩;obtain⟨h1,h2,o,ho,hb⟩:=LF hsz hlt hi;have hiN:i<N:=by
     by_cases h:i<N
     ·exact h
     ·refine absurd (λj hj=>?_) hall;rcases PV ho hb hcl j (hch i (by omega) h2 j (by omega)) with h3 | h3
      ·omega
      ·exact h3
    have K':∀a' w',I (λj=>j ==i||listed.getD j true) a' w'→wpAny P .any ops.toArray Q fuel (listed.setIfInBounds i true) a' w':=λa' w' hI'=>by
     refine ih _ a' w' (by simpa using hsz) (WP (by omega) h1 hc) (hext _ _ a' w' (λj hj=>?_) hI') (λj o' hj hlj e he=>?_) (λj h3 h4=>?_)
     ·have:=Oz (listed:=listed) (i:=i) (j:=j) (by omega)
      cases hq:(listed.setIfInBounds i true).getD j true with
      | true=>
       rw[hq] at this;rcases this.1 rfl with h | h
       ·simp[h]
       ·simp[h]
      | false=>
       rw[hq] at this;have h5 : ¬ (j=i∨listed.getD j true=true):=λh=>by have:=this.2 h;cases this
       cases hz:listed.getD j true with
       | true=>exact absurd (.inr hz) h5
       | false=>
        have:j≠i:=λh=>h5 (.inl h);simp[this]
     ·rw[Oz (by omega)] at hlj ⊢;rcases hlj with rfl | hlj
      ·rw[ho] at hj;simp at hj;subst hj;exact .inr (hb e he)
      ·exact .inr (hcl j o' hj hlj e he)
     ·rw[getD_set_ne true (by omega)];exact hlast j h3 h4
    obtain⟨k1,k2⟩:=step _ i o a w hiN h1 ho (λe he=>⟨hlt i h2 e (by rw[Aen,ho];exact he),hb e he⟩) hI _ K';unfold wpOp;have hoA:ops.toArray[i]? =some o:=by simpa using ho
    simp only[hoA]
    split
    ·rename_i hw';exact .inl (k1 hw')
    ·rename_i hw';exact k2 (by simpa using hw')
 have e0:∀j,j<ops.length→(Array.replicate ops.length false).getD j true=false:=λj hj=>by simp[hj]
 have hsz0:ops.toArray.size=ops.length:=by simp
 rw[hsz0];refine main ops.length (Array.replicate ops.length false) a _ (by simp) (by simp) (hext _ _ _ _ (λj hj=>(e0 j (by omega)).symm) h0) (λj o hj hl=>?_) (λj _ h2=>e0 j h2);rw[e0 j (List.getElem?_eq_some_iff.1 hj).1] at hl;cases hl
end
structure Sa where
 deps:List Nat
 r:Rp
 al:Option (List Rp×TypeId):=none
 late:Option (Nat×List Rp):=none
 sto:Option Nat:=none
def H9 (sp:List Sa)(i:Nat):Sa:=sp.getD i { deps:=[],r:=rv undef }
def ZG (sp:List Sa):List Sp:=sp.map λs=>⟨s.deps,s.r,0⟩
def Nj (β:Nat→Nat)(s:Sa)(i:Nat):Rp:=match s.al with
 | none=>s.r
 | some _=>rv (.pointer (some ⟨β i,0,none⟩))
def N5 (S:Nat→Bool)(late:Option (Nat×List Rp))(cs:List Rp):List Rp:=match late with
 | none=>cs
 | some q=>if S q.1 then q.2 else cs
def HD (S:Nat→Bool)(β:Nat→Nat):List Sa→Nat→List Ent
 | [],_=>[]
 | s::r,t=>match s.al with
  | some p=>if S t then .blk (β t) (N5 S s.late p.1) p.2::HD S β r (t+1) else HD S β r (t+1)
  | none=>HD S β r (t+1)
def X2 (β:Nat→Nat):List Sa→Nat→List Ent
 | [],_=>[]
 | s::r,t=>match s.al with
  | some p=>.blk (β t) (match s.late with | none=>p.1 | some q=>q.2) p.2::X2 β r (t+1)
  | none=>X2 β r (t+1)
def LZ (β:Nat→Nat):List Oper→List Sa→Nat→Fr→Fr
 | o::os,s::sp,i,l=>match o.dst with
  | some d=>(d,Nj β s i)::LZ β os sp (i+1) l
  | none=>LZ β os sp (i+1) l
 | _,_,_,l=>l
theorem LQ {S S':Nat→Bool}{late:Option (Nat×List Rp)}{cs:List Rp}(h:∀q,late=some q→S q.1=S' q.1):N5 S late cs=N5 S' late cs:=by
 unfold N5
 cases late with
 | none=>rfl
 | some q=>simp only[];rw[h q rfl]
theorem Gv (S:Nat→Bool)(β:Nat→Nat)(s:Sa)(r:List Sa)(t:Nat):HD S β (s::r) t=match s.al with
  | some p=>if S t then .blk (β t) (N5 S s.late p.1) p.2::HD S β r (t+1) else HD S β r (t+1)
  | none=>HD S β r (t+1):=rfl
theorem Ip {S S':Nat→Bool}{β β':Nat→Nat}:∀(r:List Sa) (t0:Nat),(∀(t:Nat) (s:Sa),r[t]? =some s→s.al≠none→S (t0+t)=S' (t0+t)∧(S (t0+t)=true→β (t0+t)=β' (t0+t)∧∀q,s.late=some q→S q.1=S' q.1))→HD S β r t0=HD S' β' r t0
 | [],_,_=>rfl
 | s::r,t0,h=>by
  have ih:=Ip r (t0+1) (λt s hs hn=>by
   have:=h (t+1) s (by simpa using hs) hn;rw[show t0+1+t=t0+(t+1) from by omega];exact this)
  unfold HD;rw[ih]
  cases ha:s.al with
  | none=>rfl
  | some p=>
   obtain⟨h1,h2⟩:=h 0 s rfl (by rw[ha];exact nofun);simp only[Nat.add_zero] at h1 h2;simp only[];rw[← h1]
   split
   ·rename_i hS;rw[(h2 hS).1,LQ (h2 hS).2]
   ·rfl
theorem TN (β:Nat→Nat):∀(r:List Sa) (t0:Nat),HD (λ_=>true) β r t0=X2 β r t0
 | [],_=>rfl
 | s::r,t0=>by
  unfold HD X2;rw[TN β r (t0+1)]
  cases s.al with
  | none=>rfl
  | some p=>cases hl:s.late<;>simp[N5,hl]
theorem Rc (β:Nat→Nat):∀(r:List Sa) (t0:Nat),HD (λ_=>false) β r t0=[]
 | [],_=>rfl
 | s::r,t0=>by
  unfold HD;rw[Rc β r (t0+1)]
  cases s.al<;>simp
theorem TM {S:Nat→Bool}{β:Nat→Nat}{i b:Nat}{p:List Rp×TypeId}:∀(r:List Sa) (t0 k:Nat) (s:Sa),i=t0+k→r[k]? =some s→s.al=some p→S i=false→(∀(t:Nat) (s:Sa) (q:Nat×List Rp),r[t]? =some s→s.al≠none→s.late=some q→q.1≠i)→(∀q,s.late=some q→S q.1=false∧q.1≠i)→
  (HD (λj=>j ==i||S j) (λj=>if j=i then b else β j) r t0).Perm (.blk b p.1 p.2::HD S β r t0)
 | [],_,_,_,_,h,_,_,_,_=>by simp at h
 | s'::r,t0,0,s,hi,h,ha,hS,hne,hl=>by
  simp at h hi;subst h;subst hi;have e:=Ip (S:=λj=>j ==i||S j) (S':=S) (β:=λj=>if j=i then b else β j) (β':=β) r (i+1) (λt s hs hn=>by
   have:i+1+t≠i:=by omega
   refine⟨by simp[this],λ_=>⟨by simp[this],λq hq=>?_⟩⟩;have:=hne (t+1) s q (by simpa using hs) hn hq;simp[this])
  have ec:N5 (λj=>j ==i||S j) s'.late p.1=p.1:=by
   unfold N5
   cases hq:s'.late with
   | none=>rfl
   | some q=>
    obtain⟨h1,h2⟩:=hl q hq;simp[h1,h2]
  unfold HD;rw[e,ha];simp only[hS,BEq.rfl,Ae7,AeJ,ec];simp
 | s'::r,t0,k+1,s,hi,h,ha,hS,hne,hl=>by
  have ih:=TM (S:=S) (β:=β) (i:=i) (b:=b) (p:=p) r (t0+1) k s (by omega) (by simpa using h) ha hS (λt s q hs=>hne (t+1) s q (by simpa using hs)) hl;have hne0:t0≠i:=by omega
  have hne':(t0 ==i)=false:=by simpa using hne0
  unfold HD
  cases ha':s'.al with
  | none=>exact ih
  | some q=>
   simp only[hne',Aey,AeR hne0];rw[LQ (S:=λj=>j ==i||S j) (S':=S) (λq hq=>by
    have:=hne 0 s' q rfl (by rw[ha'];exact nofun) hq;simp[this])]
   cases hS':S t0 with
   | true=>simpa using(Aer _ ih).trans (List.Perm.swap _ _ _)
   | false=>simpa using ih
theorem TL {S:Nat→Bool}{β:Nat→Nat}{i j:Nat}{p:List Rp×TypeId}{ncs:List Rp}:∀(r:List Sa) (t0 k:Nat) (s:Sa),j=t0+k→r[k]? =some s→s.al=some p→s.late=some (i,ncs)→S j=true→S i=false→(∀(t:Nat) (s:Sa) (q:Nat×List Rp),r[t]? =some s→s.al≠none→s.late=some q→t0+t≠j→q.1≠i)→(∀(t:Nat) (s:Sa),r[t]? =some s→s.al≠none→t0+t≠i)→
  ∃H',(HD S β r t0).Perm (.blk (β j) p.1 p.2::H')∧(HD (λj=>j ==i||S j) β r t0).Perm (.blk (β j) ncs p.2::H')
 | [],_,_,_,_,h,_,_,_,_,_,_=>by simp at h
 | s'::r,t0,0,s,hj,h,ha,hl,hSj,hSi,hne,hni=>by
  simp at h hj;subst h;subst hj;have e:=Ip (S:=λx=>x ==i||S x) (S':=S) (β:=β) (β':=β) r (j+1) (λt s hs hn=>by
   have h1:=hni (t+1) s (by simpa using hs) hn;have h1':j+1+t≠i:=by omega
   refine⟨by simp[h1'],λ_=>⟨rfl,λq hq=>?_⟩⟩;have:=hne (t+1) s q (by simpa using hs) hn hq (by omega);simp[this])
  refine⟨HD S β r (j+1),?_,?_⟩
  ·rw[Gv];rw[ha];simp[hSj,N5,hl,hSi]
  ·rw[Gv];rw[ha,e];simp[hSj,N5,hl]
 | s'::r,t0,k+1,s,hj,h,ha,hl,hSj,hSi,hne,hni=>by
  obtain⟨H',h1,h2⟩:=TL (S:=S) (β:=β) (i:=i) (j:=j) (p:=p) (ncs:=ncs) r (t0+1) k s (by omega) (by simpa using h) ha hl hSj hSi (λt s q hs hn hq hx=>hne (t+1) s q (by simpa using hs) hn hq (by omega)) (λt s hs hn=>by
   have:=hni (t+1) s (by simpa using hs) hn;omega)
  cases ha':s'.al with
  | none=>exact⟨H',by rw[Gv,ha'];exact h1,by rw[Gv,ha'];exact h2⟩
  | some q=>
   have hi0:=hni 0 s' rfl (by rw[ha'];exact nofun);have hi0':(t0 ==i)=false:=by simpa using hi0
   have ec:N5 (λx=>x ==i||S x) s'.late q.1=N5 S s'.late q.1:=LQ (λq hq=>by
    have:=hne 0 s' q rfl (by rw[ha'];exact nofun) hq (by omega);simp[this])
   cases hS':S t0 with
   | true=>
    refine⟨.blk (β t0) (N5 S s'.late q.1) q.2::H',?_,?_⟩
    ·rw[Gv];rw[ha'];simpa[hS'] using(Aer _ h1).trans (List.Perm.swap _ _ _)
    ·rw[Gv];rw[ha'];simp only[hi0',Aey,hS',AeJ,ec];exact(Aer _ h2).trans (List.Perm.swap _ _ _)
   | false=>
    refine⟨H',?_,?_⟩
    ·rw[Gv];rw[ha'];simpa[hS'] using h1
    ·rw[Gv];rw[ha'];simp only[hi0',Aey,hS'];simpa using h2
def okA (n:Nat)(ops:List Oper)(N:Nat)(keys:List Nat)(deps:List (List Nat))(als:List Bool)(lates stos:List (Option Nat)):Bool:=
 PR ops N&&decide (N≤ops.length)&&
 (List.range N).all (λi=>match Cu ops i with
  | some d=>decide (d<n)&&!keys.contains d&&(List.range N).all (λj=>j ==i||Cu ops j !=some d)
  | none=>true)&&
 (List.range N).all (λi=>(deps.getD i []).all (λj=>decide (j<N)&&(Dd (ops.getD i default)).contains j&&!als.getD j true))&&
 (List.range N).all (λi=>match stos.getD i none with
  | some j=>decide (j<N)&&(Dd (ops.getD i default)).contains j&&als.getD j false&&!als.getD i true
  | none=>true)&&
 (List.range N).all (λj=>match lates.getD j none with
  | some k=>decide (k<N)&&als.getD j false&&stos.getD k none ==some j
  | none=>true)
def AdV (P:Program)(n:Nat)(c:Cx)(opsA:Array Oper)(Q:Exit→Act→World→Prop)(l:Fr)(o:Oper)(p:List Rp×TypeId):Prop:=
 ∀H a w Z (K:Act→World→Prop),De n l a Z→St c H Z w→(∀b w',St c (.blk b p.1 p.2::H) Z w'→K (a.put o.dst (.pointer (some ⟨b,0,none⟩))) w')→
  Region.wanted o (yielded opsA a.tmps)=true∧o.wp P a w K Q
def ObA (P:Program)(n:Nat)(c:Cx)(opsA:Array Oper)(Q:Exit→Act→World→Prop)(ops:List Oper)(sp:List Sa)(l0:Fr)(H:List Ent)(i:Nat)(o:Oper):Prop:=
 match (H9 sp i).sto with
 | some j=>o.dst=none∧∃d p ncs,Cu ops j=some d∧(H9 sp j).al=some p∧(H9 sp j).late=some (i,ncs)∧
   ∀b H,DD P n c opsA Q ((d,rv (.pointer (some ⟨b,0,none⟩)))::Cd ops (ZG sp) (H9 sp i).deps l0) (.blk b p.1 p.2::H) o (rv undef) (.blk b ncs p.2::H)
 | none=>match (H9 sp i).al with
  | none=>∀E,DD P n c opsA Q (Cd ops (ZG sp) (H9 sp i).deps l0) (H++E) o (H9 sp i).r (H++E)
  | some p=>AdV P n c opsA Q (Cd ops (ZG sp) (H9 sp i).deps l0) o p
def NE (P:Program)(n:Nat)(c:Cx)(opsA:Array Oper)(Q:Exit→Act→World→Prop)(ops:List Oper)(sp:List Sa)(l0:Fr)(H:List Ent):Nat→List Oper→Prop
 | i,o::rest=>ObA P n c opsA Q ops sp l0 H i o∧NE P n c opsA Q ops sp l0 H (i+1) rest
 | _,[]=>True
section
variable {P : Program} {n : Nat} {c : Cx} {opsA : Array Oper} {Q : Exit → Act → World → Prop} {l l0 : Fr} {H : List Ent} {sp : List Sa}
theorem NE.at {ops:List Oper}:∀{k:Nat} {rest:List Oper},NE P n c opsA Q ops sp l0 H k rest→∀(t:Nat) o,rest[t]? =some o→ObA P n c opsA Q ops sp l0 H (k+t) o
 | k,o::rest,⟨h1,h2⟩,t,o',ht=>by
  cases t with
  | zero=>simp at ht;subst ht;exact h1
  | succ t=>
   have:=NE.at h2 t o' (by simpa using ht);rw[show k+(t+1)=k+1+t from by omega];exact this
 | _,[],_,t,o,h=>by simp at h
theorem OA {β:Nat→Nat}{a:Act}{Z:Fz}(h0:De n l0 a Z):∀(os:List Oper) (ss:List Sa) (k:Nat),(∀(t:Nat) o s d,os[t]? =some o→ss[t]? =some s→o.dst=some d→∃v,a.tmps[d]? =some v∧(Nj β s (k+t)).p Z v)→De n (LZ β os ss k l0) a Z
 | [],_,_,_=>by unfold LZ;exact h0
 | _::_,[],_,_=>by unfold LZ;exact h0
 | o::os,s::ss,k,h=>by
  have ih:=OA h0 os ss (k+1) (λt o' s' d h1 h2 h3=>by
   have:=h (t+1) o' s' d (by simpa using h1) (by simpa using h2) h3;rw[show k+1+t=k+(t+1) from by omega];exact this)
  unfold LZ
  cases hd:o.dst with
  | none=>exact ih
  | some d=>
   refine⟨ih.size,ih.defers,λi r hi=>?_⟩;rw[C3] at hi
   split at hi
   ·rename_i e;subst e;simp at hi;subst hi;exact h 0 o s d rfl rfl hd
   ·exact ih.tm i r hi
theorem Ab6 {id:Nat}{ops:List Oper}(N:Nat)(sp:List Sa)(hm:P.follows .mixedOrders=true)(hB:okA n ops N (EC l0) (sp.map (·.deps)) (sp.map (·.al.isSome)) (sp.map (·.late.map (·.1))) (sp.map (·.sto))=true)(hl0:TY l0 l)(hsp:sp.length=N)
  (hob:NE P n c ops.toArray Q ops sp l0 H 0 (ops.take N)) (h:∀β,WL P n c ops.toArray Q (ops.drop N) (LZ β (ops.take N) sp 0 l0) (H++X2 β sp 0)):WC P n c (.region id ops.toArray true) Q l H:=by
 intro a w Z ha hw;simp only[okA,Ael,AeI,List.mem_range,Aeh] at hB;obtain⟨⟨⟨⟨⟨b1,bN⟩,b2⟩,b3⟩,b4⟩,b5⟩:=hB;have hget:∀i,i<N→(ops.take N)[i]? =ops[i]?:=λi hi=>by rw[AeM,AeW hi]
 have hsa:∀i,i<N→sp[i]? =some (H9 sp i):=λi hi=>by
  simp[H9,Aen,Aep (show i<sp.length by omega)]
 have hspq:∀i,i<N→(Eh (ZG sp) i)=⟨(H9 sp i).deps,(H9 sp i).r,0⟩:=λi hi=>by
  simp[Eh,ZG,Aen,AeC,hsa i hi]
 have hals:∀j b,j<N→(sp.map (·.al.isSome)).getD j b=(H9 sp j).al.isSome:=λj b hj=>by simp[Aen,AeC,hsa j hj]
 have hstos:∀j,j<N→(sp.map (·.sto)).getD j none=(H9 sp j).sto:=λj hj=>by simp[Aen,AeC,hsa j hj]
 have hlates:∀j,j<N→(sp.map (·.late.map (·.1))).getD j none=(H9 sp j).late.map (·.1):=λj hj=>by simp[Aen,AeC,hsa j hj]
 have S1:∀i o j,i<N→ops[i]? =some o→(H9 sp i).sto=some j→j<N∧j∈Dd o∧(H9 sp j).al≠none∧(H9 sp i).al=none:=λi o j hi ho hs=>by
  have h1:=b4 i hi;rw[hstos i hi,hs] at h1;simp only[Ael,AeF,Aeh] at h1;obtain⟨⟨⟨h2,h3⟩,h4⟩,h5⟩:=h1;rw[hals j _ h2] at h4;rw[hals i _ hi] at h5;rw[Aen,ho,AeE,List.contains_iff_mem] at h3;exact⟨h2,h3,λe=>(by rw[e] at h4;cases h4),(by simpa using h5)⟩
 have L1:∀t q,t<N→(H9 sp t).late=some q→q.1<N∧(H9 sp q.1).sto=some t:=λt q ht hq=>by
  have h1:=b5 t ht;rw[hlates t ht,hq] at h1;simp only[Option.map_some,Ael,Aeh,beq_iff_eq] at h1;obtain⟨⟨h2,h3⟩,h4⟩:=h1;rw[hstos _ h2] at h4;exact⟨h2,h4⟩
 have hops:∀j,j<N→∃o,ops[j]? =some o:=λj hj=>⟨ops[j]'(by omega),Aep (by omega)⟩
 have lt_of:∀(t:Nat) (s:Sa),sp[t]? =some s→t<N∧s=H9 sp t:=λt s hs=>by
  have h1:t<N:=by have:=(List.getElem?_eq_some_iff.1 hs).1;omega
  refine⟨h1,?_⟩;rw[hsa t h1] at hs;simpa using hs.symm
 have hdst:∀i o d,i<N→ops[i]? =some o→o.dst=some d→(d<n∧d ∉ EC l0)∧∀j,j<N→j≠i→Cu ops j≠some d:=λi o d hi ho hd=>by
  have h3:=b2 i hi;have:Cu ops i=some d:=by simp[Cu,ho,hd]
  rw[this] at h3;simp only[Ael,AeF,AeI,List.mem_range,Aeh] at h3;refine⟨⟨h3.1.1,λhmem=>by rw[← List.contains_iff_mem] at hmem;rw[hmem] at h3;cases h3.1.2⟩,λj hj hne he=>?_⟩;have:=h3.2 j hj;simp[hne,he] at this
 refine Uj (N:=N) hm b1 bN (λS a w=>∃ (β:Nat→Nat) (Z:Fz),St c (H++HD S β sp 0) Z w∧De n l0 a Z∧(∀j o d,j<N→S j=true→ops[j]? =some o→o.dst=some d→∃v,a.tmps[d]? =some v∧(Nj β (H9 sp j) j).p Z v)∧
   ∀k j,k<N→(H9 sp k).sto=some j→S k=true→S j=true)
  (λS S' a w hS hI=>?_) ⟨λ_=>0,Z,?_,ha.subL hl0,λj o d _ hS=>(by cases hS),λk j _ _ hS=>(by cases hS)⟩ (λS i o a w hi hun ho hb hI K hK=>?_) (λa w hI=>?_)
 ·obtain⟨β,Z,h1,h2,h3,h4⟩:=hI;refine⟨β,Z,?_,h2,λj o d hj hS'=>h3 j o d hj (by rw[hS j hj];exact hS'),λk j hk hs hSk=>?_⟩
  ·rw[← Ip (S:=S) (β:=β) (β':=β) sp 0 (λt s hs _=>by
    obtain⟨ht,rfl⟩:=lt_of t s hs;exact⟨hS _ (by omega),λ_=>⟨rfl,λq hq=>hS _ (L1 t q ht hq).1⟩⟩)]
   exact h1
  ·obtain⟨o,ho⟩:=hops k hk;rw[← hS j (S1 k o j hk ho hs).1];exact h4 k j hk hs (by rw[hS k hk];exact hSk)
 ·rw[Rc,List.append_nil];exact hw.drawn _
 ·obtain⟨β,Z,h1,h2,h3,hx⟩:=hI;have hput:∀k u v,a.tmps[k]? =some u→o.dst≠some k→(a.put o.dst v).tmps[k]? =some u:=λk u v hk hne=>by
   cases hd:o.dst with
   | none=>simpa[Act.put] using hk
   | some d=>
    simp only[Act.put,Array.getElem?_setIfInBounds];rw[AeR (λe=>hne (by rw[hd,e]))];exact hk
  have hagr:∀v Z',Fz.le Z Z'→De n l0 (a.put o.dst v) Z':=λv Z' hz=>by
   refine⟨?_,?_,λk r hk=>?_⟩
   ·cases o.dst<;>simp[Act.put,h2.size]
   ·cases o.dst<;>simp[Act.put,h2.defers]
   ·obtain⟨u,hu,hpu⟩:=h2.tm k r hk;exact⟨u,hput k u v hu (λe=>((hdst i o k hi ho e).1).2 (Kk hk)),r.mono hz hpu⟩
  have hvals:∀(v:Value) (Z':Fz) (β':Nat→Nat),Fz.le Z Z'→(∀j,j≠i→β' j=β j)→(o.dst≠none→(Nj β' (H9 sp i) i).p Z' v)→∀j o' d,j<N→(j ==i||S j)=true→ops[j]? =some o'→o'.dst=some d→∃u,(a.put o.dst v).tmps[d]? =some u∧(Nj β' (H9 sp j) j).p Z' u:=by
   intro v Z' β' hz hβ hp j o' d hj hS' ho' hd
   by_cases hji:j=i
   ·subst hji;rw[ho] at ho';simp at ho';subst ho';refine⟨v,?_,hp (by simp[hd])⟩;have hdn:d<a.tmps.size:=by rw[h2.size];exact(hdst j o d hi ho hd).1.1
    simp[Act.put,hd,hdn]
   ·have hSj:S j=true:=by simpa[hji] using hS'
    obtain⟨u,hu,hpu⟩:=h3 j o' d hj hSj ho' hd;refine⟨u,hput d u v hu (λe=>(hdst i o d hi ho e).2 j hj hji (by simp[Cu,ho',hd])),?_⟩;have:Nj β' (H9 sp j) j=Nj β (H9 sp j) j:=by unfold Nj;rw[hβ j hji]
    rw[this];exact(Nj β (H9 sp j) j).mono hz hpu
  have hx':∀k j,k<N→(H9 sp k).sto=some j→(k ==i||S k)=true→(j ==i||S j)=true:=λk j hk hs hSk=>by
   by_cases hki:k=i
   ·subst hki;have:=(hb j (S1 k o j hk ho hs).2.1).2;simp[this]
   ·have:S j=true:=hx k j hk hs (by simpa[hki] using hSk);simp[this]
  have hat:=hob.at i o (by rw[hget i hi];exact ho);rw[AeK] at hat;unfold ObA at hat;have hag':De n (Cd ops (ZG sp) (H9 sp i).deps l0) a Z:=La h2 (λj hj d hd=>by
    have h4:=b3 i hi j (by simpa[Aen,AeC,hsa i hi] using hj);simp only[Ael,AeF,Aeh] at h4;obtain⟨⟨h5,h6⟩,h7⟩:=h4;rw[Aen,ho,AeE,List.contains_iff_mem] at h6;have hjal:(H9 sp j).al=none:=by
     rw[hals j _ h5] at h7;simpa using h7
    obtain⟨o2,ho2⟩:=hops j h5;obtain⟨v,hv1,hv2⟩:=h3 j o2 d h5 (hb j h6).2 ho2 (by simpa[Cu,ho2] using hd);refine⟨v,hv1,?_⟩;rw[hspq j h5];simpa[Nj,hjal] using hv2)
  cases hst:(H9 sp i).sto with
  | some j=>
   rw[hst] at hat;obtain⟨hod,d,p,ncs,hd,hal,hlate,hok⟩:=hat;obtain⟨hjN,hjb,_,hial⟩:=S1 i o j hi ho hst;have hSj:=(hb j hjb).2;obtain⟨H',p1,p2⟩:=TL (S:=S) (β:=β) (i:=i) (j:=j) (p:=p) (ncs:=ncs) sp 0 j (H9 sp j) (by omega) (hsa j hjN) hal hlate hSj hun (λt s q hs _ hq hne he=>by
     obtain⟨ht,rfl⟩:=lt_of t s hs;have:=(L1 t q ht hq).2;rw[he,hst] at this;simp at this;omega) (λt s hs hn he=>by
     obtain⟨ht,rfl⟩:=lt_of t s hs;rw[AeK] at he;subst he;exact hn hial)
   obtain⟨o2,ho2⟩:=hops j hjN;obtain⟨v,hv1,hv2⟩:=h3 j o2 d hjN hSj ho2 (by simpa[Cu,ho2] using hd);have hag2:De n ((d,rv (.pointer (some ⟨β j,0,none⟩)))::Cd ops (ZG sp) (H9 sp i).deps l0) a Z:=⟨hag'.size,hag'.defers,λk r hk=>by
    rw[C3] at hk
    split at hk
    ·rename_i e;subst e;simp at hk;subst hk
     exact⟨v,hv1,by simpa[Nj,hal] using hv2⟩
    ·exact hag'.tm k r hk⟩
   refine hok (β j) (H++H') a w Z K hag2 (h1.perm ((List.Perm.append_left H p1).trans List.perm_middle)) (λv w' Z' hz _ hs'=>hK _ _ ⟨β,Z',?_,hagr v Z' hz,hvals v Z' β hz (λ_ _=>rfl) (λhne=>absurd hod hne),hx'⟩);exact hs'.perm (List.perm_middle.symm.trans (List.Perm.append_left H p2.symm))
  | none=>
   rw[hst] at hat;have latene:∀t q,t<N→(H9 sp t).late=some q→q.1≠i:=λt q ht hq he=>by
    have:=(L1 t q ht hq).2;rw[he,hst] at this;cases this
   cases hal:(H9 sp i).al with
   | none=>
    rw[hal] at hat;refine hat _ a w Z K hag' h1 (λv w' Z' hz hp hst'=>hK _ _ ⟨β,Z',?_,hagr v Z' hz,hvals v Z' β hz (λ_ _=>rfl) (λ_=>by unfold Nj;rw[hal];exact hp),hx'⟩);rw[Ip (S':=S) (β':=β) sp 0 (λt s hs hn=>by
     obtain⟨ht,rfl⟩:=lt_of t s hs;have:t≠i:=λe=>by subst e;exact hn hal
     refine⟨by simp[this],λ_=>⟨rfl,λq hq=>?_⟩⟩;have:=latene t q ht hq;simp[this])]
    exact hst'
   | some p=>
    rw[hal] at hat;have key:=λK' hK'=>hat (H++HD S β sp 0) a w Z K' hag' h1 hK';have h5:∀b w',St c (.blk b p.1 p.2::(H++HD S β sp 0)) Z w'→K (a.put o.dst (.pointer (some ⟨b,0,none⟩))) w':=λb w' hst'=>by
     refine hK _ _ ⟨λj=>if j=i then b else β j,Z,?_,hagr _ Z (Fz.le.refl _),hvals _ Z _ (Fz.le.refl _) (λj hj=>by simp[hj]) (λ_=>by simp[Nj,hal,rv]),hx'⟩;have hp:=TM (S:=S) (β:=β) (i:=i) (b:=b) (p:=p) sp 0 i (H9 sp i) (by omega) (hsa i hi) hal hun (λt s q hs _ hq=>by
      obtain⟨ht,rfl⟩:=lt_of t s hs;exact latene t q ht hq) (λq hq=>by
       refine⟨?_,latene i q hi hq⟩
       cases hS:S q.1 with
       | false=>rfl
       | true=>
        obtain⟨h6,h7⟩:=L1 i q hi hq;have:=hx q.1 i h6 h7 hS;rw[this] at hun;cases hun)
     exact hst'.perm ((List.perm_middle.symm).trans (List.Perm.append_left H hp.symm))
    refine⟨λ_=>(key K h5).2,λhw'=>?_⟩;rw[(key K h5).1] at hw';cases hw'
 ·obtain⟨β,Z,h1,h2,h3,_⟩:=hI;refine h β a w Z (OA h2 _ _ 0 (λt o s d ht hs hd=>?_)) (by rw[← TN];exact h1);obtain⟨htN,rfl⟩:=lt_of t s hs;rw[AeK];exact h3 t o d htN rfl (by rw[← hget t htN];exact ht) hd
end
section
variable {P : Program} {n : Nat} {c : Cx} {opsA : Array Oper} {Q : Exit → Act → World → Prop} {l l0 : Fr} {H : List Ent} {sp : List Sa}
theorem Mf {id:Nat}{ops:List Oper}(N:Nat)(ks0:List Nat)(sp:List Sa)(hob:NE P n c ops.toArray Q ops sp l0 H 0 (ops.take N))(h:∀β,WL P n c ops.toArray Q (ops.drop N) (LZ β (ops.take N) sp 0 l0) (H++X2 β sp 0))
  (h0:Kp ks0 l l0:=by repeat (first | exact Om | (apply LI;rfl) | (apply MF;rfl))) (hm:P.follows .mixedOrders=true:=by kernel_rfl) (hB:okA n ops N (EC l0) (sp.map (·.deps)) (sp.map (·.al.isSome)) (sp.map (·.late.map (·.1))) (sp.map (·.sto))=true:=by kernel_rfl)
  (hsp:sp.length=N:=by rfl):WC P n c (.region id ops.toArray true) Q l H:=Ab6 N sp hm hB h0.one hsp hob h
theorem Qr {all rest:List Oper}{d:Nat}{op:Op}{ty:TypeId}{pos:String}{af:Array Edge}{i:Nat}
  (hr:∀{H},BD P n c (Cd all (ZG sp) (H9 sp i).deps l0) H { dst:=some d,op:=op,type:=ty,pos:=pos,after:=af,guard:=none } (H9 sp i).r) (h:NE P n c opsA Q all sp l0 H (i+1) rest) (ha:(H9 sp i).al=none:=by rfl) (hs:(H9 sp i).sto=none:=by rfl) :
  NE P n c opsA Q all sp l0 H i ({ dst:=some d,op:=op,type:=ty,pos:=pos,after:=af,guard:=none }::rest):=by
 refine⟨?_,h⟩;unfold ObA;rw[hs,ha];exact λ_=>Dt hr
theorem VC {all rest:List Oper}{d:Nat}{op:Op}{ty:TypeId}{pos:String}{af:Array Edge}{i:Nat}
  (hr:∀{E},BD P n c (Cd all (ZG sp) (H9 sp i).deps l0) (H++E) { dst:=some d,op:=op,type:=ty,pos:=pos,after:=af,guard:=none } (H9 sp i).r) (h:NE P n c opsA Q all sp l0 H (i+1) rest) (ha:(H9 sp i).al=none:=by rfl) (hs:(H9 sp i).sto=none:=by rfl) :
  NE P n c opsA Q all sp l0 H i ({ dst:=some d,op:=op,type:=ty,pos:=pos,after:=af,guard:=none }::rest):=by
 refine⟨?_,h⟩;unfold ObA;rw[hs,ha];exact λ_=>Dt hr
theorem oae {all:List Oper}{i:Nat}:NE P n c opsA Q all sp l0 H i []:=trivial
end
structure ZJ (ks:List Nat) (β:Nat→Nat) (os:List Oper) (sp:List Sa) (i:Nat) (l0 l1:Fr):Prop where
 go:Kp ks (LZ β os sp i l0) l1
section
variable {ks : List Nat} {β : Nat → Nat} {os : List Oper} {sp : List Sa} {i d : Nat} {l0 l1 : Fr} {ds : List Nat} {r : Rp} {p : List Rp × TypeId} {lt : Option (Nat × List Rp)} {so : Option Nat} {op : Op} {ty : TypeId} {pos : String} {af : Array Edge} {g : Option (Nat × Bool)}
theorem Ada (h:ks.contains d=true)(t:ZJ ks β os sp (i+1) l0 l1):ZJ ks β ({ dst:=some d,op:=op,type:=ty,pos:=pos,after:=af,guard:=g }::os) ({ deps:=ds,r:=r,sto:=so }::sp) i l0 ((d,r)::l1):=⟨LI h t.go⟩
theorem Add (h:ks.contains d=true)(t:ZJ ks β os sp (i+1) l0 l1):ZJ ks β ({ dst:=some d,op:=op,type:=ty,pos:=pos,after:=af,guard:=g }::os) ({ deps:=ds,r:=r,al:=some p,late:=lt,sto:=so }::sp) i l0 ((d,rv (.pointer (some ⟨β i,0,none⟩)))::l1):=⟨LI h t.go⟩
theorem Adc {s:Sa}(h:ks.contains d=false)(t:ZJ ks β os sp (i+1) l0 l1):ZJ ks β ({ dst:=some d,op:=op,type:=ty,pos:=pos,after:=af,guard:=g }::os) (s::sp) i l0 l1:=⟨MF h t.go⟩
theorem Adb {s:Sa}(t:ZJ ks β os sp (i+1) l0 l1):ZJ ks β ({ dst:=none,op:=op,type:=ty,pos:=pos,after:=af,guard:=g }::os) (s::sp) i l0 l1:=⟨t.go⟩
theorem Ade (t:Kp ks l0 l1):ZJ ks β [] [] i l0 l1:=⟨t⟩
theorem IC {P:Program}{n:Nat}{c:Cx}{opsA:Array Oper}{Q:Exit→Act→World→Prop}{rest:List Oper}{H H1:List Ent}(ks:List Nat)(h:WL P n c opsA Q rest l1 H1)
  (hz:ZJ ks β os sp i l0 l1:=by repeat (first | (apply Ada;rfl) | (apply Add;rfl) | (apply Adc;rfl) | apply Adb | apply Ade | exact Om | (apply LI;rfl) | (apply MF;rfl))) (hH:H=H1:=by rfl) :
  WL P n c opsA Q rest (LZ β os sp i l0) H:=λa w Z ha hw=>h a w Z (ha.subL hz.go.one) (hH▸hw)
end
section
variable {P : Program} {n : Nat} {c : Cx} {opsA : Array Oper} {Q : Exit → Act → World → Prop} {l l0 : Fr} {H : List Ent} {sp : List Sa}
theorem oac {all rest:List Oper}{o:Oper}{i:Nat}(hr:∀{E},DD P n c opsA Q (Cd all (ZG sp) (H9 sp i).deps l0) (H++E) o (H9 sp i).r (H++E))(h:NE P n c opsA Q all sp l0 H (i+1) rest)(ha:(H9 sp i).al=none:=by rfl)(hs:(H9 sp i).sto=none:=by rfl):NE P n c opsA Q all sp l0 H i (o::rest):=by
 refine⟨?_,h⟩;unfold ObA;rw[hs,ha];exact λ_=>hr
end
def rBx (p:Bool→Prop):Rp:=⟨λ_ v=>∃b,v = .bool b∧p b,λ_ h=>h,true,λ_ Z v ⟨b,e,_⟩=>by rw[e];rfl⟩
section
variable {P : Program} {n : Nat} {c : Cx} {ops : Array Oper} {Q : Exit → Act → World → Prop} {rest : List Oper} {l : Fr} {H : List Ent} {d : Option Nat} {ty rty t e : TypeId} {pos : String} {af : Array Edge} {g : Option (Nat × Bool)} {r : Rp} {x : Operand} {cx cy : Code} {sz : Nat} {xs : List (List Rp)}
theorem Mg {o:Operand}{p:Bool→Prop}(ho:ev l o=some (rBx p))(h1:p true→WC P n c cx Q l H)(h2:p false→WC P n c cy Q l H):WC P n c (.cond o cx cy) Q l H:=λa w Z ha hw=>by
 obtain⟨b,e,hp⟩:=ha.ev ho;exact wp_cond_split e (λe=>h1 (e▸hp) a w Z ha hw) (λe=>h2 (e▸hp) a w Z ha hw)
theorem KJ (ht:P.underlying t=some (.slice e))(h:ev l x=some (AK sz xs)):BD P n c l H { dst:=d,op:=.binOp .eql t x (.const (.slice none 0 0)) rty,type:=ty,pos:=pos,after:=af,guard:=g } (rBx (λb=>b=true→xs=[])):=λa w Z ha hw=>by
 obtain⟨A,cap,e1,h1,h2,h3,h4⟩:=ha.ev h;refine⟨.bool A.isNone,⟨_,rfl,λhb=>?_⟩,?_⟩
 ·cases A with
  | some a=>cases hb
  | none=>
   have:=h3 rfl;exact List.length_eq_zero_iff.1 (by omega)
 ·have:=run_equal_slice_nil (P:=P) w t e A xs.length cap ht;have e2:a.eval (.const (.slice none 0 0)) = .slice none 0 0:=rfl;simp[execOp,e1,e2,binOp,this,eqGuard]
end
section
variable {P : Program} {n : Nat} {c : Cx} {l : Fr} {H : List Ent} {d : Option Nat} {ty rty t e : TypeId} {pos : String} {af : Array Edge} {g : Option (Nat × Bool)} {x : Operand} {sz : Nat}
end
theorem HJ (s:ByteArray):MapKept.IsKey .string (.string s):=by simp[MapKept.IsKey]
theorem LU.keys {Z:Fz}:∀{f:List (List UInt8×Rp)} {es:List MapEntry},LU Z f es→∀x∈es,MapKept.IsKey .string x.key
 | [],[],_,x,hx=>by cases hx
 | p::f,e::es,⟨⟨h1,h2⟩,h3⟩,x,hx=>by
  rcases List.mem_cons.1 hx with rfl | hx
  ·rw[h1];exact HJ _
  ·exact LU.keys h3 x hx
theorem LU.at {Z:Fz}:∀{f:List (List UInt8×Rp)} {es:List MapEntry},LU Z f es→f.length=es.length∧∀(j:Nat) (e:MapEntry),es[j]? =some e→∃k r,f[j]? =some (k,r)∧e.key = .string (B k)∧r.p Z e.val
 | [],[],_=>⟨rfl,λj e h=>by simp at h⟩
 | p::f,e::es,⟨⟨h1,h2⟩,h3⟩=>by
  obtain⟨hl,ha⟩:=LU.at h3;refine⟨by simp[hl],λj e' hj=>?_⟩
  cases j with
  | zero=>simp at hj;subst hj;exact⟨p.1,p.2,rfl,h1,h2⟩
  | succ j=>simp at hj;simpa using ha j e' hj
theorem LU.of {Z:Fz}:∀{f:List (List UInt8×Rp)} {es:List MapEntry},f.length=es.length→(∀(j:Nat) (e:MapEntry),es[j]? =some e→∃k r,f[j]? =some (k,r)∧e.key = .string (B k)∧r.p Z e.val)→LU Z f es
 | [],[],_,_=>trivial
 | p::f,e::es,hl,h=>by
  obtain⟨k,r,h1,h2,h3⟩:=h 0 e rfl;simp at h1;subst h1;exact⟨⟨h2,h3⟩,LU.of (by simpa using hl) λj e' hj=>by simpa using h (j+1) e' (by simpa using hj)⟩
 | [],_::_,hl,_=>by simp at hl
 | _::_,[],hl,_=>by simp at hl
theorem LU.snoc {Z:Fz}{k:List UInt8}{r:Rp}{e:MapEntry}(h1:e.key = .string (B k))(h2:r.p Z e.val):∀{f:List (List UInt8×Rp)} {es:List MapEntry},LU Z f es→LU Z (f++[(k,r)]) (es++[e])
 | [],[],_=>⟨⟨h1,h2⟩,trivial⟩
 | p::f,e'::es,⟨h,h3⟩=>⟨h,LU.snoc h1 h2 h3⟩
theorem LU.filter {Z:Fz}(q:MapEntry→Bool):∀{f:List (List UInt8×Rp)} {es:List MapEntry},LU Z f es→∃g,LU Z g (es.filter q)∧g.Sublist f
 | [],[],_=>⟨[],trivial,List.Sublist.refl _⟩
 | p::f,e::es,⟨h,h3⟩=>by
  obtain⟨g,hg,hs⟩:=LU.filter q h3
  cases hq:q e with
  | true=>exact⟨p::g,by rw[List.filter_cons_of_pos hq];exact⟨h,hg⟩,hs.cons_cons p⟩
  | false=>exact⟨g,by rw[List.filter_cons_of_neg (by simp[hq])];exact hg,hs.cons p⟩
theorem Kh {T:Type}:∀{m:List (Ae×T)} {k:Ae} {r:T},(m.map (·.1)).Nodup→(k,r)∈m→CA m k=some r
 | p::m,k,r,hn,h=>by
  rw[AeV,List.nodup_cons] at hn;rw[CA];rcases List.mem_cons.1 h with h | h
  ·subst h;rw[Aek rfl];rfl
  ·have hne : ¬ p.1=k:=λe=>hn.1 (by rw[e];exact List.mem_map.2 ⟨(k,r),h,rfl⟩);rw[Aej hne];exact Kh hn.2 h
theorem QR {T:Type}:∀{m:List (Ae×T)} {k:Ae},(∀p∈m,p.1≠k)→CA m k=none
 | [],_,_=>rfl
 | p::m,k,h=>by
  rw[CA,Aej (h p (by simp))];exact QR λq hq=>h q (by simp[hq])
theorem Adx {a b:List UInt8}(h:B a=B b):a=b:=by
 have:=congrArg ByteArray.toList h
 rwa [EE,EE] at this
theorem SH {a b:List UInt8}(h:Value.string (B a) = .string (B b)):a=b:=Adx (by cases h;rfl)
theorem Wg {Z:Fz}{m:List (List UInt8×Rp)}{es:List MapEntry}{ck:Nat}(h:GC Z m es ck)(k:List UInt8) :
  (Instr.findNow .string (.string (B k)) es 0=some none∧CA m k=none∧∀p∈m,p.1≠k)∨∃j e r,Instr.findNow .string (.string (B k)) es 0=some (some (j,e.val))∧es[j]? =some e∧e.key = .string (B k)∧CA m k=some r∧r.p Z e.val:=by
 obtain⟨h1,h2,h3,f,h4,h5⟩:=h;obtain⟨hl,ha⟩:=h5.at;rcases MapKept.findNow_spec (HJ (B k)) es 0 h5.keys with⟨q1,q2⟩ | ⟨j,e,q1,q2,q3⟩
 ·have hne:∀p∈m,p.1≠k:=λp hp e=>by
   obtain⟨j,hj⟩:=List.mem_iff_getElem?.1 (h4.symm.subset hp);have hjl:j<es.length:=by rw[← hl];exact(List.getElem?_eq_some_iff.1 hj).1
   obtain⟨k',r',e1,e2,_⟩:=ha j es[j] (Aep hjl);rw[hj] at e1;cases e1;exact q2 es[j] (List.getElem_mem hjl) (by rw[e2,← e])
  exact .inl ⟨q1,QR hne,hne⟩
 ·obtain⟨k',r,e1,e2,e3⟩:=ha j e q2;rw[q3] at e2;obtain rfl:=SH e2;exact .inr ⟨j,e,r,by simpa using q1,q2,q3,Kh h1 (h4.subset (Ae4 e1)),e3⟩
section
variable {P : Program} {n : Nat} {c : Cx} {ops : Array Oper} {Q : Exit → Act → World → Prop} {rest : List Oper} {l : Fr} {H : List Ent} {d : Nat} {d' : Option Nat} {ty t kt et rty : TypeId} {pos : String} {af : Array Edge} {g : Option (Nat × Bool)} {x y u : Operand} {K : Act → World → Prop} {cx : Code}
variable {T : Type} {enc : T → Rp} {xs : List (Ae × T)} {z : T} {k : Ae} {zv : Value} {i b : Nat}
theorem Ll {Z:Fz}{w:World}{m:List (List UInt8×Rp)}{rz:Rp}(ht:P.underlying t=some (.map kt et))(hk:P.underlying kt=some .string)(hz:∀w,(zeroValue et).run P w = .ok zv w)(hzr:rz.p Z zv)(hm:(Ent.map b m).holds Z w)(ok:Bool) :
  ∃v,((CA m k).getD rz).p Z v∧(Instr.lookup t (.map (some b)) (.string (B k)) ok).run P w = .ok (if ok then .tuple #[v,.bool (CA m k).isSome] else v) w:=by
 obtain⟨es,ck,h1,h2⟩:=hm;rcases Wg h2 k with⟨q1,q2,_⟩ | ⟨j,e,r,q1,_,_,q2,q3⟩
 ·exact⟨zv,by rw[q2];exact hzr,by simp[Instr.lookup,run_underlying ht,MapKept.run_getObj_map h1,MapKept.run_checkKey hk (HJ _),MapKept.run_findKey hk q1,hz,q2]⟩
 ·exact⟨e.val,by rw[q2];exact q3,by simp[Instr.lookup,run_underlying ht,MapKept.run_getObj_map h1,MapKept.run_checkKey hk (HJ _),MapKept.run_findKey hk q1,q2]⟩
theorem TG (enc:T→Rp)(xs:List (Ae×T))(k:Ae)(z:T):(CA (Bj enc xs) k).getD (enc z)=enc (E9 xs k z):=by
 rw[MC];unfold E9;cases CA xs k<;>rfl
theorem UF (enc:T→Rp)(xs:List (Ae×T))(k:Ae):(CA (Bj enc xs) k).isSome=DL xs k:=by
 rw[MC];unfold DL;cases CA xs k<;>rfl
theorem VF (ht:P.underlying t=some (.map kt et))(hk:P.underlying kt=some .string)(hz:∀w,(zeroValue et).run P w = .ok zv w)(hzr:∀Z,(enc z).p Z zv)(hx:ev l x=some (rv (.map (some b))))(hi:H[i]? =some (.map b (Bj enc xs)))(hy:ev l y=some (rS k)) :
  BD P n c l H { dst:=d',op:=.lookup t x y true,type:=ty,pos:=pos,after:=af,guard:=g } (Dr [enc (E9 xs k z),rB (DL xs k)]):=λa w Z ha hw=>by
 obtain⟨v,h1,h2⟩:=Ll (k:=k) ht hk hz (hzr Z) (hw.ent hi) true;rw[TG] at h1;refine⟨.tuple #[v,.bool (DL xs k)],⟨[v,.bool (DL xs k)],rfl,h1,rfl,trivial⟩,?_⟩;rw[UF] at h2;simp[execOp,ha.eval hx,ha.eval hy,h2]
theorem YE (ht:P.underlying t=some (.map kt et))(hk:P.underlying kt=some .string)(hz:∀w,(zeroValue et).run P w = .ok zv w)(hzr:∀Z,(enc z).p Z zv)(hx:ev l x=some (rv (.map (some b))))(hi:H[i]? =some (.map b (Bj enc xs)))(hy:ev l y=some (rS k)) :
  BD P n c l H { dst:=d',op:=.lookup t x y false,type:=ty,pos:=pos,after:=af,guard:=g } (enc (E9 xs k z)):=λa w Z ha hw=>by
 obtain⟨v,h1,h2⟩:=Ll (k:=k) ht hk hz (hzr Z) (hw.ent hi) false;rw[TG] at h1;simp only[Aeu,AeB] at h2;exact⟨v,h1,by simp[execOp,ha.eval hx,ha.eval hy,h2]⟩
theorem GC.length {Z:Fz}{m:List (List UInt8×Rp)}{es:List MapEntry}{ck:Nat}(h:GC Z m es ck):es.length=m.length:=by
 obtain⟨_,_,_,f,h4,h5⟩:=h;rw[← h5.at.1,h4.length_eq]
theorem YD {m:List (List UInt8×Rp)}{N:Nat}(ht:P.underlying t=some (.map kt et))(hx:ev l x=some (rv (.map (some b))))(hi:H[i]? =some (.map b m))(hN:m.length=N) :
  BD P n c l H { dst:=d',op:=.call { callee:=.builtin .len,args:=#[x],argTypes:=#[t] },type:=ty,pos:=pos,after:=af,guard:=g } (rI .i64 N):=λa w Z ha hw=>D6<|by
 obtain⟨es,ck,h1,h2⟩:=hw.ent hi;have hl:es.size=N:=by rw[← hN,← h2.length];simp
 simp[execOp,resolve,invoke,builtin,ha.eval hx,Builtin.len_,run_underlying ht,goInt,MapKept.run_getObj_map h1,hl]
theorem YC {v:Option Nat}(ht:P.underlying t=some (.map kt et))(hx:ev l x=some (rv (.map v))):BD P n c l H { dst:=d',op:=.binOp .eql t x (.const (.map none)) rty,type:=ty,pos:=pos,after:=af,guard:=g } (rB v.isNone):=λa w Z ha hw=>D6<|by
 have e2:a.eval (.const (.map none)) = .map none:=rfl;have h:=run_equal_map_nil (P:=P) w t kt et v ht;simp[execOp,ha.eval hx,e2,eqGuard,binOp,h]
theorem Nc (hn:Nat.blt d n=true)(h:∀b,WL P n c ops Q rest ((d,rv (.map (some b)))::l) (.map b []::H)) :
  WL P n c ops Q ({ dst:=some d,op:=.makeMap t none,type:=ty,pos:=pos,after:=af,guard:=none }::rest) l H:=
 Jt (λa w Z ha hw=>⟨_,w.alloc (.map #[] 0),_,_,Z,by simp[execOp,run_makeMap],Fz.le.refl _,rfl,
  hw.alloc _ (e:=.map w.heap.size []) ⟨#[],0,by simpa using heap_alloc_new w _,by simp,by simp,by simp,[],Aet _,trivial⟩ rfl,h w.heap.size⟩) hn
theorem Y3 {m f:List (Ae×Rp)}(h:f.Perm m)(k:Ae)(r:Rp):(mput f k r).Perm (mput m k r):=h.map _
theorem VK {T:Type}:∀{f:List (Ae×T)} {j:Nat} {k:Ae} {r0:T} (r:T),(f.map (·.1)).Nodup→f[j]? =some (k,r0)→mput f k r=f.set j (k,r)
 | p::f,0,k,r0,r,hn,h=>by
  simp at h;subst h;rw[AeV,List.nodup_cons] at hn;have:mput f k r=f:=by
   unfold mput;rw[List.map_congr_left (g:=id) (λq hq=>?_),List.map_id];have hne : ¬ q.1=k:=λe=>hn.1 (by rw[← e];exact List.mem_map.2 ⟨q,hq,rfl⟩);rw[Aej hne];rfl
  show(bif decide (k=k) then(k,r) else(k,r0))::mput f k r=_;rw[Aek rfl,this];rfl
 | p::f,j+1,k,r0,r,hn,h=>by
  rw[AeV,List.nodup_cons] at hn;simp at h;have hne : ¬ p.1=k:=λe=>hn.1 (by rw[e];exact List.mem_map.2 ⟨(k,r0),Ae4 h,rfl⟩);show(bif decide (p.1=k) then(k,r) else p)::mput f k r=_;rw[Aej hne,VK r hn.2 h];rfl
theorem Xk {T:Type}(m:List (Ae×T))(k:Ae)(r:T):(mput m k r).map (·.1)=m.map (·.1):=by
 unfold mput;rw[AeZ];refine List.map_congr_left λp _=>?_;simp only[Function.comp]
 by_cases h:p.1=k
 ·rw[Aek h];exact h.symm
 ·rw[Aej h];rfl
theorem Xl {T:Type}{m:List (Ae×T)}{k:Ae}{r:T}(h:CA m k=some r):DL m k=true:=by unfold DL;rw[h];rfl
theorem Xm {T:Type}{m:List (Ae×T)}{k:Ae}(h:CA m k=none):DL m k=false:=by unfold DL;rw[h];rfl
theorem GC.put {Z:Fz}{m:List (Ae×Rp)}{es:List MapEntry}{ck j:Nat}{e:MapEntry}{k:Ae}{r0 r:Rp}{v:Value}(h:GC Z m es ck)(he:es[j]? =some e)(hk:e.key = .string (B k))(hm:CA m k=some r0)(hr:r.p Z v) :
  GC Z (mset m k r) (es.set j { e with key:=.string (B k),val:=v }) ck:=by
 obtain⟨h1,h2,h3,f,h4,h5⟩:=h;obtain⟨hl,ha⟩:=h5.at;have hjl:=(List.getElem?_eq_some_iff.1 he).1;unfold mset;rw[Xl hm,Aeq];obtain⟨k',r',e1,e2,_⟩:=ha j e he;rw[hk] at e2;obtain rfl:=SH e2;have hfn:(f.map (·.1)).Nodup:=(h4.map (·.1)).nodup_iff.2 h1;refine⟨by rw[Xk];exact h1,?_,?_,f.set j (k,r),?_,LU.of (by simp[hl]) λi x hx=>?_⟩
 ·rw[List.map_set];have:(es.map (·.born)).set j e.born=es.map (·.born):=by
   apply List.ext_getElem?;intro i;rw[List.getElem?_set]
   split
   ·rename_i hij;subst hij
    simp[hjl,List.getElem?_eq_some_iff.1 he |>.2]
   ·rfl
  show((es.map (·.born)).set j e.born).Nodup;rw[this];exact h2
 ·intro x hx;rcases List.mem_or_eq_of_mem_set hx with hx | rfl
  ·exact h3 x hx
  ·exact h3 e (Ae4 he)
 ·have:=Y3 h4 k r
  rwa [VK r hfn e1] at this
 ·rw[List.getElem?_set] at hx ⊢
  split at hx
  ·rename_i hij;subst hij
   cases hx
   exact⟨k,r,by rw[AeW rfl,AeW (by rw[hl];exact hjl)],rfl,hr⟩
  ·rename_i hij
   rw[AeR hij];exact ha i x hx
theorem GC.ins {Z:Fz}{m:List (Ae×Rp)}{es:List MapEntry}{ck:Nat}{k:Ae}{r:Rp}{v:Value}(h:GC Z m es ck)(hm:CA m k=none)(hk:∀p∈m,p.1≠k)(hr:r.p Z v) :
  GC Z (mset m k r) (es++[{ key:=.string (B k),val:=v,born:=ck }]) (ck+1):=by
 obtain⟨h1,h2,h3,f,h4,h5⟩:=h;unfold mset;rw[Xm hm,Aem];have hp:=Nt k r m;refine⟨?_,?_,?_,f++[(k,r)],?_,LU.snoc rfl hr h5⟩
 ·rw[(hp.map (·.1)).nodup_iff,AeV,List.nodup_cons];exact⟨λhx=>by obtain⟨p,hp,e⟩:=List.mem_map.1 hx;exact hk p hp e,h1⟩
 ·rw[List.map_append,List.nodup_append];refine⟨h2,by simp,λa ha b hb e=>?_⟩;simp at hb;subst hb;obtain⟨x,hx,e'⟩:=List.mem_map.1 ha;have:=h3 x hx;omega
 ·intro x hx;rcases List.mem_append.1 hx with hx | hx
  ·have:=h3 x hx;omega
  ·simp at hx;subst hx;exact Aew _
 ·exact(List.perm_append_comm (l₁:=f) (l₂:=[(k,r)])).trans ((h4.cons (k,r)).trans hp.symm)
theorem St.mapset {Z:Fz}{w:World}(h:St c H Z w){m m':List (Ae×Rp)}(hi:H[i]? =some (.map b m)){es es':Array MapEntry}{ck ck':Nat}(h1:w.heap[b]? =some (.map es ck))(h2:GC Z m' es'.toList ck') :
  St c (H.set i (.map b m')) Z { w with heap:=w.heap.setIfInBounds b (.map es' ck') }:=by
 obtain⟨q1,q2⟩:=MapKept.heap_set (o':=.map es' ck') h1;exact h.set hi rfl rfl rfl (by simp) (λk _ hk=>q2 k (by simpa[Ent.foot] using hk)) ⟨es',ck',q1,h2⟩ (by simp[Ent.foot])
theorem Rz (s:ByteArray):Instr.sameBits 10000 (.string s) (.string s)=true:=by
 show(s ==s)=true;exact(MapKept.bytes_beq s s).2 rfl |> λh=>by simpa using h
theorem Ab9 {r:Rp}{m:List (Ae×Rp)}(ht:P.underlying t=some (.map kt et))(hk:P.underlying kt=some .string)(hx:ev l x=some (rv (.map (some b))))(hi:H[i]? =some (.map b m))(hy:ev l y=some (rS k))(hu:ev l u=some r){H':List Ent}(hH:H.set i (.map b (mset m k r))=H')(h:WL P n c ops Q rest l H') :
  WL P n c ops Q ({ dst:=none,op:=.mapUpdate t x y u,type:=ty,pos:=pos,after:=af,guard:=none }::rest) l H:=
 S7 λa w Z ha hw=>by
  obtain⟨es,ck,h1,h2⟩:=hw.ent hi;have hv:=ha.ev hu;subst hH;rcases Wg h2 k with⟨q1,q2,q3⟩ | ⟨j,e,r0,q1,q2,q3,q4,_⟩
  ·refine⟨_,_,?_,hw.mapset hi h1 (es':=es.push { key:=.string (B k),val:=a.eval u,born:=ck }) (by simpa using h2.ins q2 q3 hv),h⟩;simp[execOp,ha.eval hx,ha.eval hy,Instr.mapUpdate,run_underlying ht,MapKept.run_getObj_map h1,MapKept.run_checkKey hk (HJ _),MapKept.run_findKey hk q1,MapKept.run_setObj_map _ h1]
  ·have hje:es[j]? =some e:=by simpa using q2
   refine⟨_,_,?_,hw.mapset hi h1 (es':=es.modify j λe=>{ e with key:=.string (B k),val:=a.eval u }) (ck':=ck) (by
    have:=h2.put q2 q3 q4 hv;have e1:(es.modify j λe=>{ e with key:=.string (B k),val:=a.eval u }).toList=es.toList.set j { e with key:=.string (B k),val:=a.eval u }:=by
     rw[Array.toList_modify];rw[List.modify_eq_set,q2];rfl
    rw[e1];exact this),h⟩
   have hkey:((es[j]?).map (·.key)).getD (.string (B k)) = .string (B k):=by rw[hje];exact q3
   simp[execOp,ha.eval hx,ha.eval hy,Instr.mapUpdate,run_underlying ht,MapKept.run_getObj_map h1,MapKept.run_checkKey hk (HJ _),MapKept.run_findKey hk q1,MapKept.run_setObj_map _ h1,hkey,Instr.keyThatStays,Rz]
theorem Ow {v:T}(ht:P.underlying t=some (.map kt et))(hk:P.underlying kt=some .string)(hx:ev l x=some (rv (.map (some b))))(hi:H[i]? =some (.map b (Bj enc xs)))(hy:ev l y=some (rS k))(hu:ev l u=some (enc v)){H':List Ent}(hH:H.set i (.map b (Bj enc (mset xs k v)))=H')(h:WL P n c ops Q rest l H') :
  WL P n c ops Q ({ dst:=none,op:=.mapUpdate t x y u,type:=ty,pos:=pos,after:=af,guard:=none }::rest) l H:=Ab9 ht hk hx hi hy hu (by rw[← YM];exact hH) h
end
theorem MR {q:MapEntry→Bool}:∀{l:List MapEntry} {j:Nat} {e:MapEntry},(l.map (·.born)).Nodup→l[j]? =some e→l.filter (λx=>!(x.born ==e.born))=l.eraseIdx j
 | x::l,0,e,hn,h=>by
  simp at h;subst h;rw[AeV,List.nodup_cons] at hn;rw[List.filter_cons_of_neg (by simp),List.filter_eq_self.2 λy hy=>?_];rfl;have:y.born≠x.born:=λe=>hn.1 (by rw[← e];exact List.mem_map.2 ⟨y,hy,rfl⟩);simp[this]
 | x::l,j+1,e,hn,h=>by
  rw[AeV,List.nodup_cons] at hn;simp at h;have hne:x.born≠e.born:=λe'=>hn.1 (by rw[e'];exact List.mem_map.2 ⟨e,Ae4 h,rfl⟩);rw[List.filter_cons_of_pos (by simp[hne]),MR (q:=q) hn.2 h];rfl
theorem LU.erase {Z:Fz}:∀{f:List (List UInt8×Rp)} {es:List MapEntry} (j:Nat),LU Z f es→LU Z (f.eraseIdx j) (es.eraseIdx j)
 | [],[],j,_=>by simp[LU]
 | p::f,e::es,0,⟨_,h⟩=>h
 | p::f,e::es,j+1,⟨h,h3⟩=>⟨h,LU.erase j h3⟩
theorem V5 {α:Type}:∀{l:List α} {j:Nat} {a:α},l[j]? =some a→l.Perm (a::l.eraseIdx j)
 | x::l,0,a,h=>by simp at h;subst h;exact Aet _
 | x::l,j+1,a,h=>by
  simp at h;exact((V5 h).cons x).trans (List.Perm.swap a x _)
theorem Y4 {T:Type}{enc:T→Rp}{ys:List (Ae×T)}{f:List (Ae×Rp)}{j:Nat}{k:Ae}{r:Rp}(h:f.Perm (Bj enc ys))(hj:f[j]? =some (k,r)):∃ (p:Ae×T) (ys':List (Ae×T)),ys.Perm (p::ys')∧p.1=k∧enc p.2=r∧(f.eraseIdx j).Perm (Bj enc ys'):=by
 have hm:(k,r)∈Bj enc ys:=h.subset (Ae4 hj);obtain⟨p,hp,e⟩:=List.mem_map.1 hm;simp only[Prod.mk.injEq] at e;obtain⟨a,b,rfl⟩:=List.append_of_mem hp;refine⟨p,a++b,List.perm_middle,e.1,e.2,?_⟩;have h1:f.Perm ((k,r)::f.eraseIdx j):=by
  exact V5 hj
 have h2:(Bj enc (a++p::b)).Perm ((k,r)::Bj enc (a++b)):=by
  have:(Bj enc (a++p::b)).Perm (Bj enc (p::(a++b))):=List.perm_middle.map _;refine this.trans ?_;show((p.1,enc p.2)::Bj enc (a++b)).Perm _;rw[e.1,e.2]
 exact((h1.symm.trans h).trans h2).cons_inv
section
variable {P : Program} {n : Nat} {c : Cx} {ops : Array Oper} {Q : Exit → Act → World → Prop} {rest : List Oper} {l : Fr} {H : List Ent} {d : Nat} {ty t kt et rty : TypeId} {pos : String} {af : Array Edge} {x y u : Operand} {K : Act → World → Prop} {cx : Code}
variable {T : Type} {enc : T → Rp} {xs ys : List (Ae × T)} {i b it : Nat} {m lf : List (List UInt8 × Rp)} {cur : Option (List UInt8 × Rp)} {k : Ae} {r : Rp}
theorem ZU (ht:P.underlying t=some (.map kt et))(hx:ev l x=some (rv (.map (some b))))(hi:H[i]? =some (.map b m))(hn:Nat.blt d n=true)(h:∀it,WL P n c ops Q rest ((d,rv (.pointer (some ⟨it,0,none⟩)))::l) (H.set i (.mit b it m m none))) :
  WL P n c ops Q ({ dst:=some d,op:=.range t x,type:=ty,pos:=pos,after:=af,guard:=none }::rest) l H:=
 Jt (λa w Z ha hw=>by
  obtain⟨es,ck,h1,h2⟩:=hw.ent hi;have hb:b<w.heap.size:=(Array.getElem?_eq_some_iff.1 h1).1;have hf:es.toList.filter (λe=>!(#[]:Array Nat).contains e.born)=es.toList:=List.filter_eq_self.2 λ_ _=>by simp
  obtain⟨f,h4,h5⟩:=h2.2.2.2;refine⟨.pointer (some ⟨w.heap.size,0,none⟩),w.alloc (.mapIter (some b) ck #[] ck),_,_,Z,?_,Fz.le.refl _,rfl,hw.set hi rfl rfl rfl (by simp) (λk hk _=>Below.heap_alloc w _ k hk) ?_ ?_,h w.heap.size⟩
  ·simp[execOp,ha.eval hx,run_range_map w t kt et b es ck ht h1]
  ·exact⟨es,ck,#[],ck,ck,(Below.heap_alloc w _ b hb).trans h1,by simpa using heap_alloc_new w _,h2,h2.2.2.1,Ae9 _,Ae9 _,Nat.ne_of_lt hb,⟨f,h4,by rw[hf];exact h5⟩,trivial⟩
  ·intro k hk;simp only[Ent.foot,AeQ,List.not_mem_nil,or_false] at hk;rcases hk with rfl | rfl
   ·exact .inl (by simp[Ent.foot])
   ·exact .inr (Ae9 _)) hn
theorem Ab7 (hx:ev l x=some (rv (.pointer (some ⟨it,0,none⟩))))(hi:H[i]? =some (.mit b it m (Bj enc ys) cur))(hn:Nat.blt d n=true)
  (h0:ys=[]→WL P n c ops Q rest ((d,Dr [rB false])::l) H)
  (h1:∀p ys',ys.Perm (p::ys')→WL P n c ops Q rest ((d,Dr [rB true,rS p.1,enc p.2])::l) (H.set i (.mit b it m (Bj enc ys') (some (p.1,enc p.2))))) :
  WL P n c ops Q ({ dst:=some d,op:=.next x false,type:=ty,pos:=pos,after:=af,guard:=none }::rest) l H:=
 Jt (λa w Z ha hw=>by
  obtain⟨es,ck,seen,since,c0,q1,q2,q3,q4,q5,q6,q7,⟨f,q8,q9⟩,_⟩:=hw.ent hi;have hlf:(leftOf es seen).toList=es.toList.filter λe=>!seen.contains e.born:=by simp[leftOf]
  rcases run_next_at (P:=P) w ty it b since c0 seen es ck q2 q1 q4 q5 with⟨r1,r2⟩ | ⟨e,r1,w1,r2,r3⟩
  ·have he:es.toList.filter (λe=>!seen.contains e.born)=[]:=by rw[← hlf];exact AeD (by simpa using r1)
   rw[he] at q9;have hf:f=[]:=by cases f with
    | nil=>rfl
    | cons _ _=>exact absurd q9 id
   subst hf;have hy:ys=[]:=by
    have:=q8.length_eq;rw[Kj] at this;exact AeD this.symm
   exact⟨.tuple #[.bool false],w,Dr [rB false],H,Z,by simp[execOp,ha.eval hx,r2],Fz.le.refl _,⟨[.bool false],rfl,rfl,trivial⟩,hw,h0 hy⟩
  ·rw[hlf] at r1;obtain⟨j,hj⟩:=List.mem_iff_getElem?.1 r1;obtain⟨k,r,e1,e2,e3⟩:=q9.at.2 j e hj;obtain⟨p,ys',s1,s2,s3,s4⟩:=Y4 q8 e1;have hnl:((es.toList.filter λe=>!seen.contains e.born).map (·.born)).Nodup:=q3.2.1.sublist ((List.filter_sublist ..).map _);have hleft:es.toList.filter (λx=>!(seen.push e.born).contains x.born)=(es.toList.filter λe=>!seen.contains e.born).eraseIdx j:=by
    rw[← MR (q:=λ_=>true) hnl hj,List.filter_filter];refine List.filter_congr λx _=>?_;simp only[Array.contains_push,Bool.not_or];rw[Bool.and_comm]
   have hd:St c H Z w1:=by
    rcases r2 with rfl | rfl
    ·exact hw
    ·exact hw.drawn _
   have q2':w1.heap[it]? =some (.mapIter (some b) since seen c0):=by rcases r2 with rfl | rfl<;>exact q2
   have q1':w1.heap[b]? =some (.map es ck):=by rcases r2 with rfl | rfl<;>exact q1
   obtain⟨t1,t2⟩:=MapKept.heap_set (o':=.mapIter (some b) since (seen.push e.born) ck) q2';refine⟨.tuple #[.bool true,e.key,e.val],ChangeMaps.setBlock w1 it (.mapIter (some b) since (seen.push e.born) ck),Dr [rB true,rS p.1,enc p.2],H.set i (.mit b it m (Bj enc ys') (some (p.1,enc p.2))),Z,by simp[execOp,ha.eval hx,r3],Fz.le.refl _,⟨[.bool true,e.key,e.val],rfl,rfl,?_,?_,trivial⟩,hd.set hi rfl rfl rfl (by simp[ChangeMaps.setBlock]) (λk' _ hk'=>t2 k' (λe'=>hk' (by simp[Ent.foot,e']))) ?_ (λk' hk'=>.inl (by simpa[Ent.foot] using hk')),h1 p ys' s1⟩
   ·show e.key = .string (B p.1);rw[s2];exact e2
   ·rw[s3];exact e3
   ·exact⟨es,ck,seen.push e.born,since,ck,(t2 b q7).trans q1',t1,q3,q4,Nat.le_trans q5 q6,Ae9 _,q7,⟨f.eraseIdx j,s4,by rw[hleft];exact q9.erase j⟩,rfl,seen,e,rfl,(List.mem_filter.1 r1).1,by rw[s2];exact e2,by rw[s3];exact e3⟩) hn
theorem St.unmit {Z:Fz}{w:World}(h:St c H Z w)(hi:H[i]? =some (.mit b it m lf cur)):St c (H.set i (.map b m)) Z w:=by
 obtain⟨es,ck,seen,since,c0,q1,q2,q3,_⟩:=h.ent hi;exact h.set hi rfl rfl rfl (Ae9 _) (λ_ _ _=>rfl) ⟨es,ck,q1,q3⟩ (by simp[Ent.foot])
theorem WK.unmit (hi:H[i]? =some (.mit b it m lf cur))(h:WK n c K l (H.set i (.map b m))):WK n c K l H:=λa w Z ha hw=>h a w Z ha (hw.unmit hi)
theorem WC.unmit (hi:H[i]? =some (.mit b it m lf cur))(h:WC P n c cx Q l (H.set i (.map b m))):WC P n c cx Q l H:=λa w Z ha hw=>h a w Z ha (hw.unmit hi)
theorem WL.unmit (hi:H[i]? =some (.mit b it m lf cur))(h:WL P n c ops Q rest l (H.set i (.map b m))):WL P n c ops Q rest l H:=λa w Z ha hw=>h a w Z ha (hw.unmit hi)
theorem St.uncur {Z:Fz}{w:World}(h:St c H Z w)(hi:H[i]? =some (.mit b it m lf cur)):St c (H.set i (.mit b it m lf none)) Z w:=by
 obtain⟨es,ck,seen,since,c0,q1,q2,q3,q4,q5,q6,q7,q8,_⟩:=h.ent hi;exact h.set hi rfl rfl rfl (Ae9 _) (λ_ _ _=>rfl) ⟨es,ck,seen,since,c0,q1,q2,q3,q4,q5,q6,q7,q8,trivial⟩ (λk hk=>.inl (by simpa[Ent.foot] using hk))
theorem WK.uncur (hi:H[i]? =some (.mit b it m lf cur))(h:WK n c K l (H.set i (.mit b it m lf none))):WK n c K l H:=λa w Z ha hw=>h a w Z ha (hw.uncur hi)
theorem Aa1 {dd:Option Nat}{g:Option (Nat×Bool)}(hx:ev l x=some (rv (.pointer (some ⟨it,0,none⟩))))(hi:H[i]? =some (.mit b it m lf (some (k,r)))) :
  BD P n c l H { dst:=dd,op:=.entry x,type:=ty,pos:=pos,after:=af,guard:=g } (Dr [rS k,r]):=λa w Z ha hw=>by
 obtain⟨es,ck,seen,since,c0,q1,q2,q3,q4,q5,q6,q7,q8,rfl,s0,e,rfl,h1,h2,h3⟩:=hw.ent hi;exact⟨.tuple #[e.key,e.val],⟨[e.key,e.val],rfl,h2,h3,trivial⟩,by simp[execOp,ha.eval hx,run_entry_at w it b since s0 es c0 e q2 q1 h1 q3.2.1]⟩
end
section
variable {P : Program} {n : Nat} {c : Cx} {opsA : Array Oper} {Q : Exit → Act → World → Prop} {l : Fr} {H : List Ent} {d : Nat} {ty : TypeId} {pos : String} {af : Array Edge}
theorem Y8 {f:FuncId}{args:List Operand}{ats:Array TypeId}{rs:List Rp}{r:Rp}{Hin Hout Hr:List Ent}(hcall:∀(as1:Array Value) (w:World),(callFunc f as1).run P w = .ok (.enter f as1) w)(hv:LW l args=some rs)
  (hp:H.Perm (Hin++Hr)) (hc:Fn P c.E f rs Hin (λr' H'=>r'=r∧H'=Hout)) {H':List Ent} (hH:Hout++Hr=H'):DD P n c opsA Q l H { dst:=some d,op:=.call { callee:=.value (.func f),args:=args.toArray,argTypes:=ats },type:=ty,pos:=pos,after:=af,guard:=none } r H':=λa w Z K ha hw hK=>
 ⟨λ_=>by
  subst hH;unfold Oper.wp;rw[E6 rfl hcall w];refine(hc w Z _ (Gb ha hv) (hw.perm hp).enter).mono ?_;rintro e w' ⟨r2,v,Ho,Z',rfl,⟨rfl,rfl⟩,hr2,hs⟩;exact hK v w' Z' hs.le hr2 ((hw.perm hp).call hs),λh=>by simp[Region.wanted] at h⟩
theorem Y7 {f:FuncId}{args:List Operand}{ats:Array TypeId}{rs:List Rp}{r:Rp}{Hin Hr:List Ent}(hcall:∀(as1:Array Value) (w:World),(callFunc f as1).run P w = .ok (.enter f as1) w)(hv:LW l args=some rs)
  (hp:H.Perm (Hin++Hr)) (hc:Fn P c.E f rs Hin (λr' H'=>r'=r∧H'=Hin)):DD P n c opsA Q l H { dst:=some d,op:=.call { callee:=.value (.func f),args:=args.toArray,argTypes:=ats },type:=ty,pos:=pos,after:=af,guard:=none } r H:=λa w Z K ha hw hK=>
 Y8 (Hout:=Hin) hcall hv hp hc rfl a w Z K ha hw (λv w' Z' hz hr hs=>hK v w' Z' hz hr (hs.perm hp.symm))
end
section
variable {P : Program} {n : Nat} {c : Cx} {ops : Array Oper} {Q : Exit → Act → World → Prop} {rest : List Oper} {l : Fr} {H H' : List Ent} {d : Nat} {d' : Option Nat} {x y z3 : Operand} {ty t t' e : TypeId} {pos : String} {af : Array Edge} {g : Option (Nat × Bool)} {v u : Value} {r : Rp} {sz : Nat}
theorem Pv {α:Type}{ys:List α}{enc:α→List Rp}{k':IntKind}{j:Int}(ht:P.underlying t=some (.slice e))(hz:∀w,(sizeOf e).run P w = .ok sz w)(h:ev l x=some (AK sz (ys.map enc)))(hj:ev l z3=some (rI k' j))(hg2:Lw j (ys.length:Int)=true) :
  BD P n c l H { dst:=d',op:=.slice t x none (some z3) none,type:=ty,pos:=pos,after:=af,guard:=g } (AK sz ((ys.take j.toNat).map enc)):=λa w Z ha hw=>by
 obtain⟨A,cap,e1,hc1,hc2,hA,hc⟩:=ha.ev h;have h2:=(EI hg2).2;have hj0:0≤j:=(EI hg2).1;simp only[Ae6] at e1 hc1;have h3:j≤(cap:Int):=by omega
 refine⟨.slice (if cap=0 then A else A.map (·.add (0*sz))) j.toNat cap,⟨if cap=0 then A else A.map (·.add (0*sz)),cap,?_,?_,by omega,?_,λq cl hq=>?_⟩,by simp[execOp,e1,ha.eval hj,Instr.sliceAt,Instr.slice,run_underlying ht,Instr.sliceBounds,C6 (m:=cap) _ _ hj0 h3,hz]⟩
 ·congr 1
  simp;omega
 ·simp;omega
 ·intro hn
  split at hn
  ·have:=hA hn;omega
  ·have:=hA (by simpa using hn);omega
 ·rw[AeC] at hq
  cases hq':(List.take j.toNat ys)[q]? with
  | none=>rw[hq'] at hq;cases hq
  | some yy=>
   rw[hq'] at hq;simp only[Option.map_some,Option.some.injEq] at hq;subst hq;rw[AeM] at hq'
   split at hq'
   ·rename_i hlt
    obtain⟨hl,ad,rfl,hs,hcs⟩:=hc q (enc yy) (by simp[hq']);obtain⟨b,off,spot⟩:=ad;simp only at hs;subst hs;have hne : ¬ cap=0:=by omega
    refine⟨hl,⟨b,off+0*sz,none⟩,by simp[hne,JA],rfl,λq' r' hr'=>?_⟩;obtain⟨u,hu,hp⟩:=hcs q' r' hr';refine⟨u,?_,hp⟩;have:off+0*sz+(q*sz+q')=off+(q*sz+q'):=by omega
    simp only;rw[this];exact hu
   ·cases hq'
end
theorem B2.d1 {Z:Fz}{r0:Rp}{us:List Value}(h:B2 Z [r0] us):∃y0,us=[y0]∧B2 Z [r0] [y0]:=by
 match us,h.length with
 | [y0],_=>exact⟨_,rfl,h⟩
theorem B2.d6 {Z:Fz}{r0 r1 r2 r3 r4 r5:Rp}{us:List Value}(h:B2 Z [r0,r1,r2,r3,r4,r5] us):∃y0 y1 y2 y3 y4 y5,us=[y0,y1,y2,y3,y4,y5]∧B2 Z [r0,r1,r2,r3,r4,r5] [y0,y1,y2,y3,y4,y5]:=by
 match us,h.length with
 | [y0,y1,y2,y3,y4,y5],_=>exact⟨_,_,_,_,_,_,rfl,h⟩
theorem TJ {α:Type}{sz:Nat}:∀{xs:List (List α)} (hs:∀c∈xs,c.length=sz) {k:Nat} {cl:List α},xs[k]? =some cl→∀(off m:Nat),off+m≤sz→((xs.flatten).drop (k*sz+off)).take m=(cl.drop off).take m
 | [],_,k,cl,h,_,_,_=>by simp at h
 | x::r,hs,0,cl,h,off,m,hm=>by
  simp at h;subst h;have hx:=hs x (by simp);simp only[List.flatten_cons,Nat.zero_mul,AeK];rw[List.drop_append_of_le_length (by omega),List.take_append_of_le_length (by simp;omega)]
 | x::r,hs,k+1,cl,h,off,m,hm=>by
  have hx:=hs x (by simp);simp only[List.flatten_cons];have e:(k+1)*sz+off=x.length+(k*sz+off):=by rw[hx,Nat.succ_mul];omega
  rw[e,List.drop_length_add_append];exact TJ (λc hc=>hs c (by simp[hc])) (by simpa using h) off m hm
section
variable {P : Program} {n : Nat} {c : Cx} {ops : Array Oper} {Q : Exit → Act → World → Prop} {rest : List Oper} {l : Fr} {H H' : List Ent} {d : Nat} {d' : Option Nat} {ty t e rty : TypeId} {pos : String} {af : Array Edge} {g : Option (Nat × Bool)} {x y u : Operand} {v : Value} {sz m : Nat}
theorem O5 {α:Type}[Inhabited α]{ys:List α}{enc:α→List Rp}{i off:Nat}{j:Int}{rs:List Rp}(hag:∀w,(isAgg t).run P w = .ok true w)(hsz:∀w,(sizeOf t).run P w = .ok m w)(hx:ev l x=some (rv (DW sz v j.toNat off)))(hi:H[i]? =some (.row v e sz (ys.map enc)))(hg:Ck j (ys.length:Int)=true)
  (hle:Nat.ble (off+m) sz=true) (hr:((enc (An ys j)).drop off).take m=rs) :
  BD P n c l H { dst:=d',op:=.load t x,type:=ty,pos:=pos,after:=af,guard:=g } (B3 rs):=λa w Z ha hw=>by
 obtain⟨hs,us,⟨h1,h2⟩,h3⟩:=hw.ent hi;have h0:=(Cj hg).1;have hlt:j.toNat<ys.length:=by have:=(Cj hg).2;omega
 have eat:An ys j=ys[j.toNat]:=by simp[An,hlt]
 have hle':off+m≤sz:=by simpa using hle
 have hcl:(ys.map enc)[j.toNat]? =some (enc ys[j.toNat]):=by simp[hlt]
 have hcz:(enc ys[j.toNat]).length=sz:=hs _ (Ae4 hcl);have hseg:=TJ hs hcl off m hle';rw[← eat,hr] at hseg;have h4:=(h3.drop (j.toNat*sz+off)).take m;rw[hseg] at h4;have hrl:rs.length=m:=by rw[← hr,eat];simp;omega
 rcases h2 with⟨rfl,hz⟩ | ⟨b,cap,cur,rfl,_,hg',hcap,hm,hcs,htk⟩
 ·simp at hz;subst hz;simp at hlt
 ·have h5:=run_loadCells_list (P:=P) w ⟨b,j.toNat*sz+off,none⟩ ((us.drop (j.toNat*sz+off)).take m) (λq w' hq=>by
   rw[JA,cell_of_row w b _ cur e (0,0) hg'];rw[AeM] at hq
   split at hq
   ·rw[List.getElem?_drop,← htk,AeM] at hq
    split at hq
    ·simpa using hq
    ·cases hq
   ·cases hq)
  rw[h4.length,hrl] at h5;exact⟨.agg ((us.drop (j.toNat*sz+off)).take m).toArray,⟨_,rfl,h4⟩,by simp[execOp,ha.eval hx,DW,Instr.loadAt,Instr.sureAddr,loadVar,hag,hsz,h5]⟩
end
section
variable {P : Program} {n : Nat} {c : Cx} {Q : Exit → Act → World → Prop} {l : Fr} {H : List Ent} {x rest' : Code} {K : Act → World → Prop}
end
section
variable {P : Program} {n : Nat} {c : Cx} {ops : Array Oper} {Q : Exit → Act → World → Prop} {rest : List Oper} {l : Fr} {H H' : List Ent} {d : Nat} {d' : Option Nat} {x y z3 z4 : Operand} {ty t t' e : TypeId} {pos : String} {af : Array Edge} {g : Option (Nat × Bool)} {v u : Value} {r : Rp} {sz : Nat}
theorem O6 {i:Nat}{rs:List Rp}{fs:Array Field}{f:Field}(hu:P.underlying t=some (.struct fs))(hf:fs[i]? =some f)(hag:∀w,(isAgg f.type).run P w = .ok false w)(hx:ev l x=some (B3 rs))(hr:rs[f.offset]? =some r) :
  BD P n c l H { dst:=d',op:=.field t x i,type:=ty,pos:=pos,after:=af,guard:=g } r:=λa w Z ha hw=>by
 obtain⟨us,e1,hus⟩:=ha.ev hx;obtain⟨v,hv,hp⟩:=hus.at hr;exact⟨v,hp,by simp[execOp,e1,Instr.field,run_underlying hu,hf,asAgg,part,hag,hv]⟩
theorem Ab8 {α:Type}{enc:α→List Rp}{inf:TypeInfo}{z:Value}{zα:α}{rz:Rp}{kl kc:IntKind}{m:Nat}{bytes:Nat}(ht:P.underlying t=some (.slice e))(hinf:P.info? e=some inf)(hz:inf.zero=some z)(hsize:inf.size=1)(hby:inf.bytes=bytes)(hbp:Nat.blt 0 bytes=true)
  (hzc:z.cells = #[z]) (henc:enc zα=[rz]) (hrz:∀Z,rz.p Z z)
  (hx:ev l x=some (rI kl m)) (hy:ev l y=some (rI kc m)) (hg:D2 bytes m=true) (hn:Nat.blt d n=true)
  (h:∀v',WL P n c ops Q rest ((d,rv v')::l) (.row v' e 1 ((List.replicate m zα).map enc)::H)) :
  WL P n c ops Q ({ dst:=some d,op:=.makeSlice t x y,type:=ty,pos:=pos,after:=af,guard:=none }::rest) l H:=
 Jt (λa w Z ha hw=>by
  have hb:m*bytes≤140737488355328:=by simpa[D2] using hg
  have hbp':0<bytes:=by simpa using hbp
  have hle:m≤m*bytes:=Nat.le_mul_of_pos_right _ hbp';obtain⟨w',e1,e2,e3⟩:=run_make_full (P:=P) w 0 t e inf z 1 ht hinf hz hsize kl kc m (by rw[hby,Nat.mul_comm];omega) (by simp only[maxLen];omega) (AeO _);rw[hzc,toList_madeCells_one,Nat.mul_one] at e2;have hall:B2 Z ((List.replicate m zα).map enc).flatten (List.replicate m z):=by
   clear e2 hle hb hg hx hy h e1
   induction m with
   | zero=>trivial
   | succ m ih=>rw[List.replicate_succ,List.replicate_succ,AeV,List.flatten_cons,henc];exact⟨hrz Z,ih⟩
  have hlen:∀cl∈(List.replicate m zα).map enc,cl.length=1:=λcl hcl=>by
   obtain⟨q,hq,rfl⟩:=List.mem_map.1 hcl;rw[(List.mem_replicate.1 hq).2,henc];rfl
  have hent:(Ent.row (.slice (some ⟨w.heap.size,0,none⟩) m m) e 1 ((List.replicate m zα).map enc)).holds Z w':=⟨hlen,List.replicate m z,by simpa using e2,hall⟩
  exact⟨.slice (some ⟨w.heap.size,0,none⟩) m m,w',rv (.slice (some ⟨w.heap.size,0,none⟩) m m),_,Z,by simp[execOp,ha.eval hx,ha.eval hy,e1],Fz.le.refl _,rfl,hw.add e3.os e3.tape e3.output e3.size (λk hk=>e3.block k hk (by simp)) hent (by simp[Ent.foot,Value.ownBlock]),h _⟩) hn
end
structure Sx (U:Type) where
 deps:List Nat
 r:U→Rp
 dyn:Bool:=false
 old:List Nat:=[]
def HG {U:Type}(sp:List (Sx U))(i:Nat):Sx U:=sp.getD i { deps:=[],r:=λ_=>rv undef }
def XM {U:Type}(sp:List (Sx U))(u:U):List Sp:=sp.map λs=>⟨s.deps,s.r u,0⟩
def saU {U:Type}(sp:List (Sx U))(u:U):List Sa:=sp.map λs=>{ deps:=s.deps,r:=s.r u }
def PX {U:Type}:List (Sx U)→Prop
 | []=>True
 | s::r=>(s.dyn=false→∀u u',s.r u=s.r u')∧PX r
theorem PX.at {U:Type}:∀{sp:List (Sx U)},PX sp→∀{i:Nat} {s:Sx U},sp[i]? =some s→s.dyn=false→∀u u',s.r u=s.r u'
 | [],_,i,s,h=>by simp at h
 | x::sp,⟨h1,h2⟩,0,s,h=>by simp at h;subst h;exact h1
 | x::sp,⟨h1,h2⟩,i+1,s,h=>PX.at h2 (by simpa using h)
theorem Ad9 {U:Type}{ds os:List Nat}{r:Rp}{sp:List (Sx U)}(h:PX sp):PX ({ deps:=ds,r:=λ_=>r,old:=os }::sp):=⟨λ_ _ _=>rfl,h⟩
theorem Ad8 {U:Type}{ds os:List Nat}{r:U→Rp}{sp:List (Sx U)}(h:PX sp):PX ({ deps:=ds,r:=r,dyn:=true,old:=os }::sp):=⟨λh'=>(by cases h'),h⟩
def EP (lw:Fr):List Nat→Fr→Fr
 | [],l=>l
 | d::r,l=>match look lw d with
  | some q=>(d,q)::EP lw r l
  | none=>EP lw r l
theorem Sd {n:Nat}{lw l:Fr}{a:Act}{Z:Fz}(h0:De n l a Z):∀{ds:List Nat},(∀d∈ds,∀q,look lw d=some q→∃v,a.tmps[d]? =some v∧q.p Z v)→De n (EP lw ds l) a Z
 | [],_=>h0
 | d::ds,h=>by
  have ih:=Sd h0 (ds:=ds) (λd' hd'=>h d' (by simp[hd']));unfold EP
  cases hd:look lw d with
  | none=>exact ih
  | some q=>
   refine⟨ih.size,ih.defers,λi r hi=>?_⟩;rw[C3] at hi
   split at hi
   ·rename_i e;subst e;simp at hi;subst hi;exact h d (by simp) q hd
   ·exact ih.tm i r hi
theorem Ad7 {U:Type}:PX ([]:List (Sx U)):=trivial
def okX (n:Nat)(ops:List Oper)(N i0:Nat)(keys:List Nat)(deps:List (List Nat))(dyns:List Bool)(olds:List (List Nat)):Bool:=
 PR ops N&&decide (N≤ops.length)&&decide (i0<N)&&
 (List.range N).all (λi=>match Cu ops i with
  | some d=>decide (d<n)&&!keys.contains d&&(List.range N).all (λj=>j ==i||Cu ops j !=some d)
  | none=>true)&&
 (List.range N).all (λi=>(deps.getD i []).all (λj=>decide (j<N)&&(Dd (ops.getD i default)).contains j))&&
 (List.range N).all (λi=>!dyns.getD i false||i ==i0||(Dd (ops.getD i default)).any (λe=>decide (e<N)&&(e ==i0||dyns.getD e false)))&&
 (List.range N).all (λi=>(olds.getD i []).all (λd=>(List.range N).all (λw=>Cu ops w !=some d||(Dd (ops.getD w default)).contains i)))
section
variable (P : Program) (n : Nat) (c : Cx) (opsA : Array Oper) (Q : Exit → Act → World → Prop)
def OpX {U:Type}(l:Fr)(H:List Ent)(o:Oper)(r:U→Rp)(H1:U→List Ent):Prop:=
 ∀a w Z (K:Act→World→Prop),De n l a Z→St c H Z w→(∀u v w' Z',Fz.le Z Z'→(r u).p Z' v→St c (H1 u) Z' w'→K (a.put o.dst v) w')→
  Region.wanted o (yielded opsA a.tmps)=true∧o.wp P a w K Q
def LT {U:Type}(ops:List Oper)(sp:List (Sx U))(l0 lw:Fr)(i0:Nat)(H:List Ent)(H1:U→List Ent):Nat→List Oper→Prop
 | i,o::rest=>(if i=i0 then(∀u,OpX P n c opsA Q (EP lw (HG sp i).old (Cd ops (XM sp u) (HG sp i).deps l0)) H o (HG sp i).r H1) else ∀u H',(H'=H∨H'=H1 u)→DD P n c opsA Q (EP lw (HG sp i).old (Cd ops (XM sp u) (HG sp i).deps l0)) H' o ((HG sp i).r u) H')∧LT ops sp l0 lw i0 H H1 (i+1) rest
 | _,[]=>True
end
section
variable {P : Program} {n : Nat} {c : Cx} {opsA : Array Oper} {Q : Exit → Act → World → Prop} {l l0 lw : Fr} {U : Type} {H : List Ent} {H1 : U → List Ent} {sp : List (Sx U)} {i0 : Nat}
theorem LT.at {ops:List Oper}:∀{k:Nat} {rest:List Oper},LT P n c opsA Q ops sp l0 lw i0 H H1 k rest→∀(t:Nat) o,rest[t]? =some o→
  (if k+t=i0 then(∀u,OpX P n c opsA Q (EP lw (HG sp (k+t)).old (Cd ops (XM sp u) (HG sp (k+t)).deps l0)) H o (HG sp (k+t)).r H1) else ∀u H',(H'=H∨H'=H1 u)→DD P n c opsA Q (EP lw (HG sp (k+t)).old (Cd ops (XM sp u) (HG sp (k+t)).deps l0)) H' o ((HG sp (k+t)).r u) H')
 | k,o::rest,⟨h1,h2⟩,t,o',ht=>by
  cases t with
  | zero=>simp at ht;subst ht;exact h1
  | succ t=>
   have:=LT.at h2 t o' (by simpa using ht);rw[show k+(t+1)=k+1+t from by omega];exact this
 | _,[],_,t,o,h=>by simp at h
theorem ZT {id:Nat}{ops:List Oper}[Inhabited U](N i0:Nat)(sp:List (Sx U))(hm:P.follows .mixedOrders=true)(hB:okX n ops N i0 (EC l0) (sp.map (·.deps)) (sp.map (·.dyn)) (sp.map (·.old))=true)(hl0:TY l0 l)(hlw:TY lw l)(hsp:sp.length=N)(hst:PX sp)
  (hob:LT P n c ops.toArray Q ops sp l0 lw i0 H H1 0 (ops.take N)) (h:∀u,WL P n c ops.toArray Q (ops.drop N) (LZ (λ_=>0) (ops.take N) (saU sp u) 0 l0) (H1 u)):WC P n c (.region id ops.toArray true) Q l H:=by
 intro a w Z ha hw;simp only[okX,Ael,AeI,List.mem_range,Aeh] at hB;obtain⟨⟨⟨⟨⟨⟨b1,bN⟩,b0⟩,b2⟩,b3⟩,b4⟩,b5⟩:=hB;have hget:∀i,i<N→(ops.take N)[i]? =ops[i]?:=λi hi=>by rw[AeM,AeW hi]
 have hsa:∀i,i<N→sp[i]? =some (HG sp i):=λi hi=>by
  simp[HG,Aen,Aep (show i<sp.length by omega)]
 have hspq:∀u i,i<N→(Eh (XM sp u) i)=⟨(HG sp i).deps,(HG sp i).r u,0⟩:=λu i hi=>by
  simp[Eh,XM,Aen,AeC,hsa i hi]
 have hdyn:∀j,j<N→(sp.map (·.dyn)).getD j false=(HG sp j).dyn:=λj hj=>by simp[Aen,AeC,hsa j hj]
 have hdep:∀j,j<N→(sp.map (·.deps)).getD j []=(HG sp j).deps:=λj hj=>by simp[Aen,AeC,hsa j hj]
 have hops:∀j,j<N→∃o,ops[j]? =some o:=λj hj=>⟨ops[j]'(by omega),Aep (by omega)⟩
 have hdst:∀i o d,i<N→ops[i]? =some o→o.dst=some d→(d<n∧d ∉ EC l0)∧∀j,j<N→j≠i→Cu ops j≠some d:=λi o d hi ho hd=>by
  have h3:=b2 i hi;have:Cu ops i=some d:=by simp[Cu,ho,hd]
  rw[this] at h3;simp only[Ael,AeF,AeI,List.mem_range,Aeh] at h3;refine⟨⟨h3.1.1,λhmem=>by rw[← List.contains_iff_mem] at hmem;rw[hmem] at h3;cases h3.1.2⟩,λj hj hne he=>?_⟩;have:=h3.2 j hj;simp[hne,he] at this
 refine Uj (N:=N) hm b1 bN (λS a w=>∃ (u:U) (Z:Fz),St c (if S i0=true then H1 u else H) Z w∧De n l0 a Z∧(∀j o d,j<N→S j=true→ops[j]? =some o→o.dst=some d→∃v,a.tmps[d]? =some v∧((HG sp j).r u).p Z v)∧
   (∀j,j<N→(HG sp j).dyn=true→S j=true→S i0=true)∧
   (∀d q,look lw d=some q→(∀wr,wr<N→Cu ops wr=some d→S wr=false)→∃v,a.tmps[d]? =some v∧q.p Z v)∧
   ∀wr i d,wr<N→i<N→Cu ops wr=some d→d∈(HG sp i).old→S wr=true→S i=true)
  (λS S' a w hS hI=>?_) ⟨default,Z,?_,ha.subL hl0,λj o d _ hS=>(by cases hS),λj _ _ hS=>(by cases hS),λd q hd _=>(ha.subL hlw).tm d q hd,λwr i d _ _ _ _ hS=>(by cases hS)⟩ (λS i o a w hi hun ho hb hI K hK=>?_) (λa w hI=>?_)
 ·obtain⟨u,Z,h1,h2,h3,h4,h5,h6⟩:=hI;refine⟨u,Z,?_,h2,λj o d hj hS'=>h3 j o d hj (by rw[hS j hj];exact hS'),λj hj hd hSj=>?_,λd q hd hw'=>h5 d q hd (λwr hwr hdw=>by rw[hS wr hwr];exact hw' wr hwr hdw),λwr i d hwr hi hdw hold hSw=>by rw[← hS i hi];exact h6 wr i d hwr hi hdw hold (by rw[hS wr hwr];exact hSw)⟩
  ·rw[← hS i0 b0];exact h1
  ·rw[← hS i0 b0];exact h4 j hj hd (by rw[hS j hj];exact hSj)
 ·exact hw.drawn _
 ·obtain⟨u,Z,h1,h2,h3,hx,ho5,ho6⟩:=hI;have hput:∀k u v,a.tmps[k]? =some u→o.dst≠some k→(a.put o.dst v).tmps[k]? =some u:=λk u v hk hne=>by
   cases hd:o.dst with
   | none=>simpa[Act.put] using hk
   | some d=>
    simp only[Act.put,Array.getElem?_setIfInBounds];rw[AeR (λe=>hne (by rw[hd,e]))];exact hk
  have hagr:∀v Z',Fz.le Z Z'→De n l0 (a.put o.dst v) Z':=λv Z' hz=>by
   refine⟨?_,?_,λk r hk=>?_⟩
   ·cases o.dst<;>simp[Act.put,h2.size]
   ·cases o.dst<;>simp[Act.put,h2.defers]
   ·obtain⟨u,hu,hpu⟩:=h2.tm k r hk;exact⟨u,hput k u v hu (λe=>((hdst i o k hi ho e).1).2 (Kk hk)),r.mono hz hpu⟩
  have hvals:∀(v:Value) (Z':Fz) (u':U),Fz.le Z Z'→(∀j,j<N→j≠i→S j=true→(HG sp j).r u'=(HG sp j).r u)→(o.dst≠none→((HG sp i).r u').p Z' v)→∀j o' d,j<N→(j ==i||S j)=true→ops[j]? =some o'→o'.dst=some d→∃q,(a.put o.dst v).tmps[d]? =some q∧((HG sp j).r u').p Z' q:=by
   intro v Z' u' hz hβ hp j o' d hj hS' ho' hd
   by_cases hji:j=i
   ·subst hji;rw[ho] at ho';simp at ho';subst ho';refine⟨v,?_,hp (by simp[hd])⟩;have hdn:d<a.tmps.size:=by rw[h2.size];exact(hdst j o d hi ho hd).1.1
    simp[Act.put,hd,hdn]
   ·have hSj:S j=true:=by simpa[hji] using hS'
    obtain⟨q,hu,hpu⟩:=h3 j o' d hj hSj ho' hd;refine⟨q,hput d q v hu (λe=>(hdst i o d hi ho e).2 j hj hji (by simp[Cu,ho',hd])),?_⟩;rw[hβ j hj hji hSj];exact((HG sp j).r u).mono hz hpu
  have hat:=hob.at i o (by rw[hget i hi];exact ho);rw[AeK] at hat;have hold':∀Z',Fz.le Z Z'→∀v d q,look lw d=some q→(∀wr,wr<N→Cu ops wr=some d→(wr ==i||S wr)=false)→∃v',(a.put o.dst v).tmps[d]? =some v'∧q.p Z' v':=λZ' hz v d q hd hw'=>by
   obtain⟨v',e1,e2⟩:=ho5 d q hd (λwr hwr hdw=>by have:=hw' wr hwr hdw;simp only[AeN] at this;exact this.2);refine⟨v',hput d v' v e1 (λe=>?_),q.mono hz e2⟩;have:=hw' i hi (by simp[Cu,ho,e]);simp at this
  have hord:∀wr k d,wr<N→k<N→Cu ops wr=some d→d∈(HG sp k).old→(wr ==i||S wr)=true→(k ==i||S k)=true:=λwr k d hwr hk hdw hmem hSw=>by
   by_cases hwi:wr=i
   ·subst hwi;have h7:=b5 k hk d (by simpa[Aen,AeC,hsa k hk] using hmem) wr hwr;simp only[AeH,bne_iff_ne,ne_eq,hdw,not_true_eq_false,false_or] at h7;rw[Aen,ho,AeE,List.contains_iff_mem] at h7;simp[(hb k h7).2]
   ·have:S k=true:=ho6 wr k d hwr hk hdw hmem (by simpa[hwi] using hSw);simp[this]
  have hag':De n (EP lw (HG sp i).old (Cd ops (XM sp u) (HG sp i).deps l0)) a Z:=Sd (La h2 (λj hj d hd=>by
    obtain⟨h5,h6⟩:=b3 i hi j (by rw[hdep i hi];exact hj);rw[Aen,ho,AeE,List.contains_iff_mem] at h6;obtain⟨o2,ho2⟩:=hops j h5;obtain⟨v,hv1,hv2⟩:=h3 j o2 d h5 (hb j h6).2 ho2 (by simpa[Cu,ho2] using hd);refine⟨v,hv1,?_⟩;rw[hspq u j h5];exact hv2)) (λd hd q hq=>ho5 d q hq (λwr hwr hdw=>by
     cases hS:S wr with
     | false=>rfl
     | true=>have:=ho6 wr i d hwr hi hdw hd hS;rw[this] at hun;cases hun))
  by_cases hi0:i=i0
  ·subst hi0;rw[AeW rfl] at hat;rw[hun] at h1;have h1':St c H Z w:=by simpa using h1
   have key:=λK' hK'=>hat u a w Z K' hag' h1' hK';have h5:∀u' v w' Z',Fz.le Z Z'→((HG sp i).r u').p Z' v→St c (H1 u') Z' w'→K (a.put o.dst v) w':=λu' v w' Z' hz hpv hs'=>by
    refine hK _ _ ⟨u',Z',by simpa using hs',hagr v Z' hz,hvals v Z' u' hz (λj hj hji hSj=>?_) (λ_=>hpv),λj _ _ _=>by simp,hold' Z' hz v,hord⟩;refine hst.at (hsa j hj) ?_ u' u
    cases hd:(HG sp j).dyn with
    | false=>rfl
    | true=>have:=hx j hj hd hSj;rw[this] at hun;cases hun
   refine⟨λ_=>(key K h5).2,λhw'=>?_⟩;rw[(key K h5).1] at hw';cases hw'
  ·rw[AeR hi0] at hat;refine hat u _ (by split;exact .inr rfl;exact .inl rfl) a w Z K hag' h1 (λv w' Z' hz hp hst'=>hK _ _ ⟨u,Z',?_,hagr v Z' hz,hvals v Z' u hz (λ_ _ _ _=>rfl) (λ_=>hp),λj hj hd hSj=>?_,hold' Z' hz v,hord⟩)
   ·have hiS:(i0 ==i||S i0)=S i0:=by
     have:(i0 ==i)=false:=by simpa using λe=>hi0 e.symm
     rw[this];rfl
    show St c (if (i0 ==i||S i0)=true then H1 u else H) Z' w';rw[hiS];exact hst'
   ·have hii:(i0 ==i)=false:=by simpa using λe=>hi0 e.symm
    show(i0 ==i||S i0)=true;rw[hii,Aey]
    by_cases hji:j=i
    ·subst hji;have h7:=b4 j hj;rw[hdyn j hj,hd] at h7;simp only[Aeo,Aey,AeH,beq_iff_eq,hi0,false_or,List.any_eq_true,Ael,Aeh] at h7;obtain⟨e,he,heN,h8⟩:=h7;rw[Aen,ho,AeE] at he;have hSe:=(hb e he).2;rcases h8 with h8 | h8
     ·subst h8;exact hSe
     ·rw[hdyn e heN] at h8;exact hx e heN h8 hSe
    ·exact hx j hj hd (by simpa[hji] using hSj)
 ·obtain⟨u,Z,h1,h2,h3,_,_,_⟩:=hI;have hsl:(saU sp u).length=N:=by simp[saU,hsp]
  refine h u a w Z (OA h2 _ _ 0 (λt o s d ht hs hd=>?_)) (by simpa using h1);have htN:t<N:=by have:=(List.getElem?_eq_some_iff.1 hs).1;omega
  have hs':s = { deps:=(HG sp t).deps,r:=(HG sp t).r u }:=by
   simp only[saU,AeC,hsa t htN,Option.map_some,Option.some.injEq] at hs;exact hs.symm
  subst hs';rw[AeK];exact h3 t o d htN rfl (by rw[← hget t htN];exact ht) hd
theorem Rq [Inhabited U]{id:Nat}{ops:List Oper}(N i0:Nat)(ks0 ksw:List Nat)(sp:List (Sx U))(H1:U→List Ent)(hob:LT P n c ops.toArray Q ops sp l0 lw i0 H H1 0 (ops.take N))(h:∀u,WL P n c ops.toArray Q (ops.drop N) (LZ (λ_=>0) (ops.take N) (saU sp u) 0 l0) (H1 u))
  (h0:Kp ks0 l l0:=by repeat (first | exact Om | (apply LI;rfl) | (apply MF;rfl))) (hw:Kp ksw l lw:=by repeat (first | exact Om | (apply LI;rfl) | (apply MF;rfl))) (hm:P.follows .mixedOrders=true:=by kernel_rfl) (hB:okX n ops N i0 (EC l0) (sp.map (·.deps)) (sp.map (·.dyn)) (sp.map (·.old))=true:=by kernel_rfl)
  (hsp:sp.length=N:=by rfl) (hst:PX sp:=by repeat (first | exact Ad7 | apply Ad9 | apply Ad8)):WC P n c (.region id ops.toArray true) Q l H:=ZT N i0 sp hm hB h0.one hw.one hsp hst hob h
theorem O3 {all rest:List Oper}{d:Nat}{op:Op}{ty:TypeId}{pos:String}{af:Array Edge}{i:Nat}(hr:∀{u H},BD P n c (EP lw (HG sp i).old (Cd all (XM sp u) (HG sp i).deps l0)) H { dst:=some d,op:=op,type:=ty,pos:=pos,after:=af,guard:=none } ((HG sp i).r u))(h:LT P n c opsA Q all sp l0 lw i0 H H1 (i+1) rest)(hne:Nat.beq i i0=false:=by rfl) :
  LT P n c opsA Q all sp l0 lw i0 H H1 i ({ dst:=some d,op:=op,type:=ty,pos:=pos,after:=af,guard:=none }::rest):=by
 refine⟨?_,h⟩;rw[AeR (λe=>by subst e;simp at hne)];exact λu H _=>Dt hr
theorem oxc {all rest:List Oper}{o:Oper}{i:Nat}(hr:∀{u H},DD P n c opsA Q (EP lw (HG sp i).old (Cd all (XM sp u) (HG sp i).deps l0)) H o ((HG sp i).r u) H)(h:LT P n c opsA Q all sp l0 lw i0 H H1 (i+1) rest)(hne:Nat.beq i i0=false:=by rfl):LT P n c opsA Q all sp l0 lw i0 H H1 i (o::rest):=by
 refine⟨?_,h⟩;rw[AeR (λe=>by subst e;simp at hne)];exact λu H _=>hr
theorem oxr {all rest:List Oper}{o:Oper}{i:Nat}(hr:∀{u},DD P n c opsA Q (EP lw (HG sp i).old (Cd all (XM sp u) (HG sp i).deps l0)) H o ((HG sp i).r u) H)(hr1:∀{u},DD P n c opsA Q (EP lw (HG sp i).old (Cd all (XM sp u) (HG sp i).deps l0)) (H1 u) o ((HG sp i).r u) (H1 u))(h:LT P n c opsA Q all sp l0 lw i0 H H1 (i+1) rest)(hne:Nat.beq i i0=false:=by rfl):LT P n c opsA Q all sp l0 lw i0 H H1 i (o::rest):=by
 refine⟨?_,h⟩;rw[AeR (λe=>by subst e;simp at hne)];intro u H' hH';rcases hH' with e | e
 ·subst e;exact hr
 ·subst e;exact hr1
theorem oxx {all rest:List Oper}{o:Oper}(hr:∀{u},OpX P n c opsA Q (EP lw (HG sp i0).old (Cd all (XM sp u) (HG sp i0).deps l0)) H o (HG sp i0).r H1)(h:LT P n c opsA Q all sp l0 lw i0 H H1 (i0+1) rest):LT P n c opsA Q all sp l0 lw i0 H H1 i0 (o::rest):=by
 refine⟨?_,h⟩;rw[AeW rfl];exact λu=>hr
theorem oxe {all:List Oper}{i:Nat}:LT P n c opsA Q all sp l0 lw i0 H H1 i []:=trivial
end
section
variable {P : Program} {n : Nat} {c : Cx} {opsA : Array Oper} {Q : Exit → Act → World → Prop} {l : Fr} {H : List Ent} {d : Nat} {x y : Operand} {ty t e : TypeId} {pos : String} {af : Array Edge} {v : Value} {sz : Nat}
theorem Md {α:Type}{xs ys:List α}{enc:α→List Rp}{i:Nat}{inf:TypeInfo}{z:Value}{bytes:Nat}(ht:P.underlying t=some (.slice e))(hinf:P.info? e=some inf)(hz:inf.zero=some z)(hsize:inf.size=sz)(hby:inf.bytes=bytes)(hzs:z.cells.size=sz)(hsz:Nat.blt 0 sz=true)(hbp:Nat.blt 0 bytes=true)
  (hx:ev l x=some (rv v)) (hi:H[i]? =some (.row v e sz (xs.map enc))) (hy:NC P n c l H y sz ys.length (ys.map enc).flatten) (henc:∀z,(enc z).length=sz) (hone:∀z,(enc z).all (·.one)=true) (hg:D2 bytes (xs.length+ys.length)=true) :
  OpX P n c opsA Q l H { dst:=some d,op:=.call { callee:=.builtin .append,args:=#[x,y],argTypes:=#[t,t] },type:=ty,pos:=pos,after:=af,guard:=none } (λv'=>rv v') (λv'=>.row v' e sz ((xs++ys).map enc)::H.eraseIdx i):=λa w Z K ha hw hK=>by
  obtain⟨h0,us,h1,h2⟩:=hw.ent hi;obtain⟨ws,h3,h4⟩:=hy a w Z ha hw;have hsz':0<sz:=by simpa using hsz
  have hbp':0<bytes:=by simpa using hbp
  have hb:(xs.length+ys.length)*bytes≤140737488355328:=by simpa[D2] using hg
  have hle:xs.length+ys.length≤(xs.length+ys.length)*bytes:=Nat.le_mul_of_pos_right _ hbp';have hws:∀y∈ws,y.oneCell'=true:=B2.one (rs:=(ys.map enc).flatten) (by
   rw[AeI];intro r hr;obtain⟨cl,hcl,hrc⟩:=List.mem_flatten.1 hr;obtain⟨z',_,rfl⟩:=List.mem_map.1 hcl;exact List.all_eq_true.1 (hone z') r hrc) h3
  have hxl:(xs.map enc).length=xs.length:=Ae6 ..;rw[hxl] at h1;obtain⟨v',w',e1,e2,e3,e4⟩:=ID (P:=P) ty ht hinf hz hsize hby hzs hsz' h1 h4 hws hb (by simp only[maxLen];omega);have hent:(Ent.row v' e sz ((xs++ys).map enc)).holds Z w':=⟨λcl hcl=>by obtain⟨z',_,rfl⟩:=List.mem_map.1 hcl;exact henc z',us++ws,by simpa using e2,by rw[List.map_append,List.flatten_append];exact h2.append h3⟩
  have hst:=hw.callF hi (St.one (e':=.row v' e sz ((xs++ys).map enc)) (M:=(Ent.row v e sz (xs.map enc)).foot) hw.frz hw.env hw.emono e3.os e3.tape e3.output e3.size (λk hk hne=>e3.block k hk (λe1=>hne (by simp[Ent.foot,← e1])))
   (hw.zdis _ (Ae4 hi)) hent (λk hk=>by
    simp only[Ent.foot,Option.mem_toList] at hk ⊢;rcases e4 with e4 | e4
    ·exact .inl (e4▸hk)
    ·exact .inr (e4 k hk)))
  refine⟨by simp[Region.wanted],?_⟩;unfold Oper.wp;rw[show(execOp a.eval { dst:=some d,op:=.call { callee:=.builtin .append,args:=#[x,y],argTypes:=#[t,t] },type:=ty,pos:=pos,after:=af,guard:=none }).run P w = .ok (.value v') w' from by simp[execOp,resolve,invoke,builtin,ha.eval hx,e1]];exact hK v' v' w' Z (Fz.le.refl _) rfl hst
end
abbrev Ux:=Nat→Nat→Value×Nat
def Ag (k:Nat)(u u':Ux):Prop:=∀j,j<k→u j=u' j
def ux (u:Ux)(k:Nat)(f:List (Value×Nat)):Ux:=λj=>bif Nat.beq j k then λq=>f.getD q (undef,0) else u j
theorem Adr {u:Ux}{k:Nat}{f:List (Value×Nat)}:Ag k u (ux u k f):=λj hj=>by
 unfold ux;have:Nat.beq j k=false:=by
  cases h:Nat.beq j k with
  | false=>rfl
  | true=>have:=Nat.eq_of_beq_eq_true h;omega
 rw[this];rfl
structure Sy where
 deps:List Nat
 r:Ux→Rp
 lv:Nat:=0
 fx:Bool:=false
 old:List Nat:=[]
def GW (sp:List Sy)(i:Nat):Sy:=sp.getD i { deps:=[],r:=λ_=>rv undef }
def syu (sp:List Sy)(u:Ux):List Sp:=sp.map λs=>⟨s.deps,s.r u,0⟩
def saY (sp:List Sy)(u:Ux):List Sa:=sp.map λs=>{ deps:=s.deps,r:=s.r u }
def Rl:List Sy→Prop
 | []=>True
 | s::r=>(∀u u',Ag s.lv u u'→s.r u=s.r u')∧Rl r
theorem Rl.at:∀{sp:List Sy},Rl sp→∀{i:Nat} {s:Sy},sp[i]? =some s→∀u u',Ag s.lv u u'→s.r u=s.r u'
 | [],_,i,s,h=>by simp at h
 | x::sp,⟨h1,h2⟩,0,s,h=>by simp at h;subst h;exact h1
 | x::sp,⟨h1,h2⟩,i+1,s,h=>Rl.at h2 (by simpa using h)
theorem syc {r:Rp}{m:Nat}:∀u u':Ux,Ag m u u'→(λ_:Ux=>r) u=(λ_:Ux=>r) u':=λ_ _ _=>rfl
def okY (n:Nat)(ops:List Oper)(N:Nat)(is:List Nat)(keys:List Nat)(deps:List (List Nat))(lvs:List Nat)(fxs:List Bool)(olds:List (List Nat)):Bool:=
 let cl:=LR ops []
 PR ops N&&decide (N≤ops.length)&&is.all (λi=>decide (i<N))&&decide is.Nodup&&
 (List.range is.length).all (λk=>k ==0||(cl.getD (is.getD k 0) 0).testBit (is.getD (k-1) 0))&&
 (List.range N).all (λi=>match Cu ops i with
  | some d=>decide (d<n)&&!keys.contains d&&(List.range N).all (λj=>j ==i||Cu ops j !=some d)
  | none=>true)&&
 (List.range N).all (λi=>(deps.getD i []).all (λj=>decide (j<N)&&(Dd (ops.getD i default)).contains j))&&
 (List.range N).all (λi=>decide (lvs.getD i 0≤is.length)&&(lvs.getD i 0 ==0||i ==is.getD (lvs.getD i 0-1) 0||(cl.getD i 0).testBit (is.getD (lvs.getD i 0-1) 0)))&&
 (List.range N).all (λi=>!fxs.getD i false||lvs.getD i 0 ==is.length||(cl.getD (is.getD (lvs.getD i 0) 0) 0).testBit i)&&
 (List.range N).all (λi=>(olds.getD i []).all (λd=>(List.range N).all (λw=>Cu ops w !=some d||(Dd (ops.getD w default)).contains i)))
def cnt (S:Nat→Bool)(is:List Nat):Nat:=(is.filter S).length
theorem PP {S:Nat→Bool}{is:List Nat}{k:Nat}(hk:k≤is.length)(h1:∀j (h:j<is.length),j<k→S is[j]=true)(h2:∀j (h:j<is.length),k≤j→S is[j]=false):cnt S is=k:=by
 unfold cnt;rw[← AeX k is,List.filter_append,List.filter_eq_self.2 (λx hx=>?_),List.filter_eq_nil_iff.2 (λx hx=>?_)]
 ·simp;omega
 ·obtain⟨j,hj⟩:=List.mem_iff_getElem?.1 hx;rw[List.getElem?_drop] at hj;obtain⟨h3,h4⟩:=List.getElem?_eq_some_iff.1 hj;have:=h2 (k+j) h3 (by omega);rw[h4] at this;simp[this]
 ·obtain⟨j,hj⟩:=List.mem_iff_getElem?.1 hx;rw[AeM] at hj
  split at hj
  ·rename_i hjk
   obtain⟨h3,h4⟩:=List.getElem?_eq_some_iff.1 hj;have:=h1 j h3 hjk;rw[h4] at this;exact this
  ·cases hj
theorem Rg {S S':Nat→Bool}{is:List Nat}(h:∀i∈is,S i=S' i):cnt S is=cnt S' is:=by
 unfold cnt;rw[List.filter_congr h]
section
variable (P : Program) (n : Nat) (c : Cx) (opsA : Array Oper) (Q : Exit → Act → World → Prop)
def OpY (l:Fr)(H:List Ent)(o:Oper)(k:Nat)(u:Ux)(r:Ux→Rp)(H1:Ux→List Ent):Prop:=
 ∀a w Z (K:Act→World→Prop),De n l a Z→St c H Z w→(∀u' v w' Z',Ag k u u'→Fz.le Z Z'→(r u').p Z' v→St c (H1 u') Z' w'→K (a.put o.dst v) w')→
  Region.wanted o (yielded opsA a.tmps)=true∧o.wp P a w K Q
def ObY (ops:List Oper)(sp:List Sy)(l0 lw:Fr)(is:List Nat)(hs:List (Ux→List Ent))(i:Nat)(o:Oper):Prop:=
 match is.findIdx? (λx=>Nat.beq x i) with
 | some k=>∀u,OpY P n c opsA Q (EP lw (GW sp i).old (Cd ops (syu sp u) (GW sp i).deps l0)) (hs.getD k (λ_=>[]) u) o k u (GW sp i).r (hs.getD (k+1) (λ_=>[]))
 | none=>if (GW sp i).fx=true then ∀u,DD P n c opsA Q (EP lw (GW sp i).old (Cd ops (syu sp u) (GW sp i).deps l0)) (hs.getD (GW sp i).lv (λ_=>[]) u) o ((GW sp i).r u) (hs.getD (GW sp i).lv (λ_=>[]) u)
  else ∀u k,k≤is.length→DD P n c opsA Q (EP lw (GW sp i).old (Cd ops (syu sp u) (GW sp i).deps l0)) (hs.getD k (λ_=>[]) u) o ((GW sp i).r u) (hs.getD k (λ_=>[]) u)
def ND (ops:List Oper)(sp:List Sy)(l0 lw:Fr)(is:List Nat)(hs:List (Ux→List Ent)):Nat→List Oper→Prop
 | i,o::rest=>ObY P n c opsA Q ops sp l0 lw is hs i o∧ND ops sp l0 lw is hs (i+1) rest
 | _,[]=>True
end
section
variable {P : Program} {n : Nat} {c : Cx} {opsA : Array Oper} {Q : Exit → Act → World → Prop} {l l0 lw : Fr} {H : List Ent} {hs : List (Ux → List Ent)} {sp : List Sy} {is : List Nat}
theorem ND.at {ops:List Oper}:∀{k:Nat} {rest:List Oper},ND P n c opsA Q ops sp l0 lw is hs k rest→∀(t:Nat) o,rest[t]? =some o→ObY P n c opsA Q ops sp l0 lw is hs (k+t) o
 | k,o::rest,⟨h1,h2⟩,t,o',ht=>by
  cases t with
  | zero=>simp at ht;subst ht;exact h1
  | succ t=>
   have:=ND.at h2 t o' (by simpa using ht);rw[show k+(t+1)=k+1+t from by omega];exact this
 | _,[],_,t,o,h=>by simp at h
theorem ZS {id:Nat}{ops:List Oper}(N:Nat)(is:List Nat)(sp:List Sy)(hs:List (Ux→List Ent))(hm:P.follows .mixedOrders=true)(hB:okY n ops N is (EC l0) (sp.map (·.deps)) (sp.map (·.lv)) (sp.map (·.fx)) (sp.map (·.old))=true)(hl0:TY l0 l)(hlw:TY lw l)(hsp:sp.length=N)(hst:Rl sp)
    (hH:∀u,hs.getD 0 (λ_=>[]) u=H) (hob:ND P n c ops.toArray Q ops sp l0 lw is hs 0 (ops.take N)) (h:∀u,WL P n c ops.toArray Q (ops.drop N) (LZ (λ_=>0) (ops.take N) (saY sp u) 0 l0) (hs.getD is.length (λ_=>[]) u)):WC P n c (.region id ops.toArray true) Q l H:=by
  intro a w Z ha hw;simp only[okY,Ael,AeI,List.mem_range,Aeh] at hB;obtain⟨⟨⟨⟨⟨⟨⟨⟨⟨b1,bN⟩,bis⟩,JT⟩,bch⟩,b2⟩,b3⟩,b4⟩,b6⟩,b5⟩:=hB;have hget:∀i,i<N→(ops.take N)[i]? =ops[i]?:=λi hi=>by rw[AeM,AeW hi]
  have hsa:∀i,i<N→sp[i]? =some (GW sp i):=λi hi=>by
    simp[GW,Aen,Aep (show i<sp.length by omega)]
  have hspq:∀u i,i<N→(Eh (syu sp u) i)=⟨(GW sp i).deps,(GW sp i).r u,0⟩:=λu i hi=>by
    simp[Eh,syu,Aen,AeC,hsa i hi]
  have hlv:∀j,j<N→(sp.map (·.lv)).getD j 0=(GW sp j).lv:=λj hj=>by simp[Aen,AeC,hsa j hj]
  have hfx:∀j,j<N→(sp.map (·.fx)).getD j false=(GW sp j).fx:=λj hj=>by simp[Aen,AeC,hsa j hj]
  have hdep:∀j,j<N→(sp.map (·.deps)).getD j []=(GW sp j).deps:=λj hj=>by simp[Aen,AeC,hsa j hj]
  have hops:∀j,j<N→∃o,ops[j]? =some o:=λj hj=>⟨ops[j]'(by omega),Aep (by omega)⟩
  have hisN:∀k (hk:k<is.length),is[k]<N:=λk hk=>bis _ (List.getElem_mem hk);have hisD:∀k (hk:k<is.length),is.getD k 0=is[k]:=λk hk=>by rw[Aen,Aep hk];rfl
  have hdst:∀i o d,i<N→ops[i]? =some o→o.dst=some d→(d<n∧d ∉ EC l0)∧∀j,j<N→j≠i→Cu ops j≠some d:=λi o d hi ho hd=>by
    have h3:=b2 i hi;have:Cu ops i=some d:=by simp[Cu,ho,hd]
    rw[this] at h3;simp only[Ael,AeF,AeI,List.mem_range,Aeh] at h3;refine⟨⟨h3.1.1,λhmem=>by rw[← List.contains_iff_mem] at hmem;rw[hmem] at h3;cases h3.1.2⟩,λj hj hne he=>?_⟩;have:=h3.2 j hj;simp[hne,he] at this
  have clo:∀S:Nat→Bool,(∀t o,ops[t]? =some o→S t=true→∀e∈Dd o,S e=true)→∀j i,((LR ops []).getD j 0).testBit i=true→S j=true→S i=true:=λS hc j i hb hj=>
    GS ops (λk=>S k=true) ops [] (λt o ht e he hF=>hc t o ht (by simpa using hF) e he) (λj i hb=>by simp at hb) j i hb hj
  have pre1:∀S:Nat→Bool,(∀t o,ops[t]? =some o→S t=true→∀e∈Dd o,S e=true)→∀k (hk:k<is.length),S is[k]=true→∀j (hj:j<is.length),j≤k→S is[j]=true:=by
    intro S hc k
    induction k with
    | zero=>
              intro hk h0 j hj hle;have:j=0:=by omega
              subst this;exact h0
    | succ k ih=>
      intro hk h0 j hj hle
      by_cases e:j=k+1
      · subst e;exact h0
      · have h3:=bch (k+1) hk
        rw[hisD (k+1) hk] at h3;simp only[AeH,beq_iff_eq,Nat.succ_ne_zero,false_or,Nat.add_sub_cancel] at h3;rw[hisD k (by omega)] at h3;exact ih (by omega) (clo S hc _ _ h3 h0) j hj (by omega)
  refine Uj (N:=N) hm b1 bN (λS a w=>∃ (u:Ux) (Z:Fz),St c (hs.getD (cnt S is) (λ_=>[]) u) Z w∧De n l0 a Z∧(∀j o d,j<N→S j=true→ops[j]? =some o→o.dst=some d→∃v,a.tmps[d]? =some v∧((GW sp j).r u).p Z v)∧
      (∀t o,t<N→ops[t]? =some o→S t=true→∀e∈Dd o,e<t∧S e=true)∧
      (∀d q,look lw d=some q→(∀wr,wr<N→Cu ops wr=some d→S wr=false)→∃v,a.tmps[d]? =some v∧q.p Z v)∧
      ∀wr i d,wr<N→i<N→Cu ops wr=some d→d∈(GW sp i).old→S wr=true→S i=true)
    (λS S' a w hS hI=>?_) ⟨default,Z,?_,ha.subL hl0,λj o d _ hS=>(by cases hS),λt o _ _ hS=>(by cases hS),λd q hd _=>(ha.subL hlw).tm d q hd,λwr i d _ _ _ _ hS=>(by cases hS)⟩ (λS i o a w hi hun ho hb hI K hK=>?_) (λa w hI=>?_)
  · obtain⟨u,Z,h1,h2,h3,h4,h5,h6⟩:=hI
    refine⟨u,Z,?_,h2,λj o d hj hS'=>h3 j o d hj (by rw[hS j hj];exact hS'),λt o ht hto hSt e he=>?_,λd q hd hw'=>h5 d q hd (λwr hwr hdw=>by rw[hS wr hwr];exact hw' wr hwr hdw),λwr i d hwr hi hdw hold hSw=>by rw[← hS i hi];exact h6 wr i d hwr hi hdw hold (by rw[hS wr hwr];exact hSw)⟩
    · rw[← Rg (S:=S) (S':=S') λi hi=>hS i (bis i hi)];exact h1
    · obtain⟨h7,h8⟩:=h4 t o ht hto (by rw[hS t ht];exact hSt) e he
      exact⟨h7,by rw[← hS e (by omega)];exact h8⟩
  · have:cnt (λ_=>false) is=0:=PP (AeO _) (λj _ h=>absurd h (Nat.not_lt_zero _)) (λ_ _ _=>rfl)
    rw[this,hH];exact hw.drawn _
  · obtain⟨u,Z,h1,h2,h3,hc,ho5,ho6⟩:=hI
    have hcl:∀t o,ops[t]? =some o→(decide (t<N)&&S t)=true→∀e∈Dd o,(decide (e<N)&&S e)=true:=λt o hto hSt e he=>by
      simp only[Ael,Aeh] at hSt ⊢;obtain⟨h7,h8⟩:=hc t o hSt.1 hto hSt.2 e he;exact⟨by omega,h8⟩
    have hcl2:∀k q,((LR ops []).getD k 0).testBit q=true→(k=i∨(decide (k<N)&&S k)=true)→(q=i∨(decide (q<N)&&S q)=true):=
      GS ops (λk=>k=i∨(decide (k<N)&&S k)=true) ops [] (λt o' ht e he hF=>by
        rcases hF with hF | hF
        · simp at hF;subst hF
          rw[ho] at ht;simp at ht;subst ht;obtain⟨h7,h8⟩:=hb e he;exact .inr (by simp only[Ael,Aeh];exact⟨by omega,h8⟩)
        · exact .inr (hcl t o' ht (by simpa using hF) e he)) (λj i hb=>by simp at hb)
    have hanc:∀q,((LR ops []).getD i 0).testBit q=true→q≠i→S q=true:=λq hq hne=>by
      rcases hcl2 i q hq (.inl rfl) with h7 | h7
      · exact absurd h7 hne
      · simp only[Ael] at h7;exact h7.2
    have hSis:∀k (hk:k<is.length),(decide (is[k]<N)&&S is[k])=S is[k]:=λk hk=>by simp[hisN k hk]
    have hpre:∀k (hk:k<is.length),S is[k]=true→∀j (hj:j<is.length),j≤k→S is[j]=true:=λk hk hSk j hj hle=>by
      have:=pre1 (λk=>decide (k<N)&&S k) hcl k hk (by show(decide (is[k]<N)&&S is[k])=true;rw[hSis k hk];exact hSk) j hj hle
      rwa [show(decide (is[j]<N)&&S is[j])=S is[j] from hSis j hj] at this
    have hput:∀k u v,a.tmps[k]? =some u→o.dst≠some k→(a.put o.dst v).tmps[k]? =some u:=λk u v hk hne=>by
      cases hd:o.dst with
      | none=>simpa[Act.put] using hk
      | some d=>
        simp only[Act.put,Array.getElem?_setIfInBounds];rw[AeR (λe=>hne (by rw[hd,e]))];exact hk
    have hagr:∀v Z',Fz.le Z Z'→De n l0 (a.put o.dst v) Z':=λv Z' hz=>by
      refine⟨?_,?_,λk r hk=>?_⟩
      · cases o.dst<;>simp[Act.put,h2.size]
      · cases o.dst<;>simp[Act.put,h2.defers]
      · obtain⟨u,hu,hpu⟩:=h2.tm k r hk
        exact⟨u,hput k u v hu (λe=>((hdst i o k hi ho e).1).2 (Kk hk)),r.mono hz hpu⟩
    have hvals:∀(v:Value) (Z':Fz) (u':Ux),Fz.le Z Z'→(∀j,j<N→j≠i→S j=true→(GW sp j).r u'=(GW sp j).r u)→(o.dst≠none→((GW sp i).r u').p Z' v)→∀j o' d,j<N→(j ==i||S j)=true→ops[j]? =some o'→o'.dst=some d→∃q,(a.put o.dst v).tmps[d]? =some q∧((GW sp j).r u').p Z' q:=by
      intro v Z' u' hz hβ hp j o' d hj hS' ho' hd
      by_cases hji:j=i
      · subst hji
        rw[ho] at ho';simp at ho';subst ho';refine⟨v,?_,hp (by simp[hd])⟩;have hdn:d<a.tmps.size:=by rw[h2.size];exact(hdst j o d hi ho hd).1.1
        simp[Act.put,hd,hdn]
      · have hSj:S j=true:=by simpa[hji] using hS'
        obtain⟨q,hu,hpu⟩:=h3 j o' d hj hSj ho' hd;refine⟨q,hput d q v hu (λe=>(hdst i o d hi ho e).2 j hj hji (by simp[Cu,ho',hd])),?_⟩;rw[hβ j hj hji hSj];exact((GW sp j).r u).mono hz hpu
    have hat:=hob.at i o (by rw[hget i hi];exact ho);rw[AeK] at hat;have hold':∀Z',Fz.le Z Z'→∀v d q,look lw d=some q→(∀wr,wr<N→Cu ops wr=some d→(wr ==i||S wr)=false)→∃v',(a.put o.dst v).tmps[d]? =some v'∧q.p Z' v':=λZ' hz v d q hd hw'=>by
      obtain⟨v',e1,e2⟩:=ho5 d q hd (λwr hwr hdw=>by have:=hw' wr hwr hdw;simp only[AeN] at this;exact this.2);refine⟨v',hput d v' v e1 (λe=>?_),q.mono hz e2⟩;have:=hw' i hi (by simp[Cu,ho,e]);simp at this
    have hord:∀wr k d,wr<N→k<N→Cu ops wr=some d→d∈(GW sp k).old→(wr ==i||S wr)=true→(k ==i||S k)=true:=λwr k d hwr hk hdw hmem hSw=>by
      by_cases hwi:wr=i
      · subst hwi
        have h7:=b5 k hk d (by simpa[Aen,AeC,hsa k hk] using hmem) wr hwr;simp only[AeH,bne_iff_ne,ne_eq,hdw,not_true_eq_false,false_or] at h7;rw[Aen,ho,AeE,List.contains_iff_mem] at h7;simp[(hb k h7).2]
      · have:S k=true:=ho6 wr k d hwr hk hdw hmem (by simpa[hwi] using hSw)
        simp[this]
    have hcl':∀t o',t<N→ops[t]? =some o'→(t ==i||S t)=true→∀e∈Dd o',e<t∧(e ==i||S e)=true:=λt o' ht hto hSt e he=>by
      by_cases hti:t=i
      · subst hti
        rw[ho] at hto;simp at hto;subst hto;obtain⟨h7,h8⟩:=hb e he;exact⟨h7,by simp[h8]⟩
      · obtain⟨h7,h8⟩:=hc t o' ht hto (by simpa[hti] using hSt) e he
        exact⟨h7,by simp[h8]⟩
    have hag':De n (EP lw (GW sp i).old (Cd ops (syu sp u) (GW sp i).deps l0)) a Z:=Sd (La h2 (λj hj d hd=>by
        obtain⟨h5,h6⟩:=b3 i hi j (by rw[hdep i hi];exact hj);rw[Aen,ho,AeE,List.contains_iff_mem] at h6;obtain⟨o2,ho2⟩:=hops j h5;obtain⟨v,hv1,hv2⟩:=h3 j o2 d h5 (hb j h6).2 ho2 (by simpa[Cu,ho2] using hd);refine⟨v,hv1,?_⟩;rw[hspq u j h5];exact hv2)) (λd hd q hq=>ho5 d q hq (λwr hwr hdw=>by
          cases hS:S wr with
          | false=>rfl
          | true=>have:=ho6 wr i d hwr hi hdw hd hS;rw[this] at hun;cases hun))
    have hlev:∀j,j<N→S j=true→∀m (hm:m<is.length),m<(GW sp j).lv→S is[m]=true:=λj hj hSj m hm hlt=>by
      have h7:=b4 j hj;rw[hlv j hj] at h7;have h8:=h7.1;have hm1:(GW sp j).lv-1<is.length:=by omega
      rw[hisD _ hm1] at h7;have h9:S is[(GW sp j).lv-1]=true:=by
        have hg:=h7.2;simp only[AeH,beq_iff_eq] at hg;rcases hg with(hg | hg) | hg
        · omega
        · rw[← hg];exact hSj
        · have:=clo (λk=>decide (k<N)&&S k) hcl j _ hg (by simp[hj,hSj])
          simp only[Ael] at this;exact this.2
      exact hpre _ hm1 h9 m hm (by omega)
    unfold ObY at hat
    cases hf:is.findIdx? (λx=>Nat.beq x i) with
    | some k=>
      rw[hf] at hat;obtain⟨hk,hki,_⟩:=List.findIdx?_eq_some_iff_getElem.1 hf;have hik:is[k]=i:=Nat.eq_of_beq_eq_true hki;have hlow:∀j (hj:j<is.length),j<k→S is[j]=true:=λj hj hjk=>by
        obtain⟨k',rfl⟩:∃k',k=k'+1:=⟨k-1,by omega⟩
        have h7:=bch (k'+1) hk;rw[hisD _ hk] at h7;simp only[AeH,beq_iff_eq,Nat.succ_ne_zero,false_or,Nat.add_sub_cancel] at h7;have hk':k'<is.length:=by omega
        rw[hisD k' hk',hik] at h7;have hne:is[k']≠i:=λe=>by
          have:=(List.getElem_inj JT).1 (e.trans hik.symm);omega
        exact hpre k' hk' (hanc _ h7 hne) j hj (by omega)
      have hhigh:∀j (hj:j<is.length),k≤j→S is[j]=false:=λj hj hle=>by
        cases hS:S is[j] with
        | false=>rfl
        | true=>have:=hpre j hj hS k hk hle;rw[hik,hun] at this;cases this
      have hcnt:cnt S is=k:=PP (by omega) (λj hj h=>hlow j hj h) (λj hj h=>hhigh j hj h);have hcnt':cnt (λj=>j ==i||S j) is=k+1:=PP (by omega) (λj hj h=>by
        by_cases e:j=k
        · subst e;simp[hik]
        · simp[hlow j hj (by omega)]) (λj hj h=>by
        have hne:is[j]≠i:=λe=>by have:=(List.getElem_inj JT).1 (e.trans hik.symm);omega
        simp[hne,hhigh j hj (by omega)])
      rw[hcnt] at h1;have key:=λK' hK'=>hat u a w Z K' hag' h1 hK';have h5:∀u' v w' Z',Ag k u u'→Fz.le Z Z'→((GW sp i).r u').p Z' v→St c (hs.getD (k+1) (λ_=>[]) u') Z' w'→K (a.put o.dst v) w':=λu' v w' Z' hag hz hpv hs'=>by
        refine hK _ _ ⟨u',Z',by rw[hcnt'];exact hs',hagr v Z' hz,hvals v Z' u' hz (λj hj hji hSj=>?_) (λ_=>hpv),hcl',hold' Z' hz v,hord⟩;refine(hst.at (hsa j hj) u u' (λm hm=>hag m ?_)).symm;have hlj:=(b4 j hj).1;rw[hlv j hj] at hlj;have hml:m<is.length:=by omega
        cases Nat.lt_or_ge m k with
        | inl h7=>exact h7
        | inr h7=>have:=hlev j hj hSj m hml hm;rw[hhigh m hml h7] at this;cases this
      refine⟨λ_=>(key K h5).2,λhw'=>?_⟩;rw[(key K h5).1] at hw';cases hw'
    | none=>
      rw[hf] at hat;have hni:∀x∈is,x≠i:=λx hx e=>by
        have:=List.findIdx?_eq_none_iff.1 hf x hx;subst e;simp at this
      have hcnt':cnt (λj=>j ==i||S j) is=cnt S is:=Rg λx hx=>by simp[hni x hx]
      by_cases hfi:(GW sp i).fx=true
      · simp only[hfi,AeJ] at hat
        have hli:=b4 i hi;rw[hlv i hi] at hli;have hcnt:cnt S is=(GW sp i).lv:=PP hli.1 (λj hj h=>?_) (λj hj h=>?_)
        · rw[hcnt] at h1
          refine hat u a w Z K hag' h1 (λv w' Z' hz hp hst'=>hK _ _ ⟨u,Z',?_,hagr v Z' hz,hvals v Z' u hz (λ_ _ _ _=>rfl) (λ_=>hp),hcl',hold' Z' hz v,hord⟩);rw[hcnt',hcnt];exact hst'
        · have h7:=hli.2
          have hm1:(GW sp i).lv-1<is.length:=by omega
          rw[hisD _ hm1] at h7;simp only[AeH,beq_iff_eq] at h7;rcases h7 with(h7 | h7) | h7
          · omega
          · exact absurd h7.symm (hni _ (List.getElem_mem hm1))
          · exact hpre _ hm1 (hanc _ h7 (hni _ (List.getElem_mem hm1))) j hj (by omega)
        · have h7:=b6 i hi
          rw[hfx i hi,hfi,hlv i hi] at h7;simp only[Aeo,Aey,AeH,beq_iff_eq] at h7;rcases h7 with h7 | h7
          · omega
          · have hm1:(GW sp i).lv<is.length:=by omega
            rw[hisD _ hm1] at h7
            cases hS:S is[j] with
            | false=>rfl
            | true=>
              have h8:=hpre j hj hS _ hm1 h;have:=clo (λk=>decide (k<N)&&S k) hcl _ _ h7 (by show(decide (is[(GW sp i).lv]<N)&&S is[(GW sp i).lv])=true;rw[hSis _ hm1];exact h8);simp only[Ael,hun] at this;exact absurd this.2 (by simp)
      · simp only[hfi,AeB] at hat
        refine hat u (cnt S is) (List.length_filter_le _ _) a w Z K hag' h1 (λv w' Z' hz hp hst'=>hK _ _ ⟨u,Z',?_,hagr v Z' hz,hvals v Z' u hz (λ_ _ _ _=>rfl) (λ_=>hp),hcl',hold' Z' hz v,hord⟩);rw[hcnt'];exact hst'
  · obtain⟨u,Z,h1,h2,h3,_,_,_⟩:=hI
    have hsl:(saY sp u).length=N:=by simp[saY,hsp]
    have hcnt:cnt (λ_=>true) is=is.length:=PP (Ae9 _) (λ_ _ _=>rfl) (λj hj h=>by omega);rw[hcnt] at h1;refine h u a w Z (OA h2 _ _ 0 (λt o s d ht hs hd=>?_)) h1;have htN:t<N:=by have:=(List.getElem?_eq_some_iff.1 hs).1;omega
    have hs':s = { deps:=(GW sp t).deps,r:=(GW sp t).r u }:=by
      simp only[saY,AeC,hsa t htN,Option.map_some,Option.some.injEq] at hs;exact hs.symm
    subst hs';rw[AeK];exact h3 t o d htN rfl (by rw[← hget t htN];exact ht) hd
theorem Ab5 {id:Nat}{ops:List Oper}(N:Nat)(is ks0 ksw:List Nat)(sp:List Sy)(hs:List (Ux→List Ent))(hst:Rl sp)(hob:ND P n c ops.toArray Q ops sp l0 lw is hs 0 (ops.take N))(h:∀u,WL P n c ops.toArray Q (ops.drop N) (LZ (λ_=>0) (ops.take N) (saY sp u) 0 l0) (hs.getD is.length (λ_=>[]) u))
  (h0:Kp ks0 l l0:=by repeat (first | exact Om | (apply LI;rfl) | (apply MF;rfl))) (hw:Kp ksw l lw:=by repeat (first | exact Om | (apply LI;rfl) | (apply MF;rfl))) (hm:P.follows .mixedOrders=true:=by kernel_rfl) (hB:okY n ops N is (EC l0) (sp.map (·.deps)) (sp.map (·.lv)) (sp.map (·.fx)) (sp.map (·.old))=true:=by kernel_rfl)
  (hsp:sp.length=N:=by rfl) (hH:∀u,hs.getD 0 (λ_=>[]) u=H:=by exact λ_=>rfl):WC P n c (.region id ops.toArray true) Q l H:=ZS N is sp hs hm hB h0.one hw.one hsp hst hH hob h
theorem oyc {all rest:List Oper}{o:Oper}{i:Nat}(hr:∀{u H},DD P n c opsA Q (EP lw (GW sp i).old (Cd all (syu sp u) (GW sp i).deps l0)) H o ((GW sp i).r u) H)(h:ND P n c opsA Q all sp l0 lw is hs (i+1) rest)(hne:is.findIdx? (λx=>Nat.beq x i)=none:=by rfl)(hf:(GW sp i).fx=false:=by rfl):ND P n c opsA Q all sp l0 lw is hs i (o::rest):=by
 refine⟨?_,h⟩;unfold ObY;rw[hne];simp only[hf,Aeu,AeB];exact λu _ _=>hr
def Abo (p:List Ent→Prop)(u:Ux):List (Ux→List Ent)→Prop
 | []=>True
 | f::r=>p (f u)∧Abo p u r
theorem Abo.at {p:List Ent→Prop}{u:Ux}:∀{hs:List (Ux→List Ent)},Abo p u hs→∀k,k<hs.length→p (hs.getD k (λ_=>[]) u)
 | [],_,k,h=>absurd h (Nat.not_lt_zero _)
 | f::r,⟨h1,h2⟩,0,_=>h1
 | f::r,⟨h1,h2⟩,k+1,h=>Abo.at h2 k (by simpa using h)
theorem oyf {all rest:List Oper}{o:Oper}{i:Nat}(hr:∀{u},DD P n c opsA Q (EP lw (GW sp i).old (Cd all (syu sp u) (GW sp i).deps l0)) (hs.getD (GW sp i).lv (λ_=>[]) u) o ((GW sp i).r u) (hs.getD (GW sp i).lv (λ_=>[]) u))(h:ND P n c opsA Q all sp l0 lw is hs (i+1) rest)(hne:is.findIdx? (λx=>Nat.beq x i)=none:=by rfl)(hf:(GW sp i).fx=true:=by rfl):ND P n c opsA Q all sp l0 lw is hs i (o::rest):=by
 refine⟨?_,h⟩;unfold ObY;rw[hne];simp only[hf,AeJ];exact λu=>hr
theorem oyx {all rest:List Oper}{o:Oper}{i:Nat}(k:Nat)(hr:∀{u},OpY P n c opsA Q (EP lw (GW sp i).old (Cd all (syu sp u) (GW sp i).deps l0)) (hs.getD k (λ_=>[]) u) o k u (GW sp i).r (hs.getD (k+1) (λ_=>[])))(h:ND P n c opsA Q all sp l0 lw is hs (i+1) rest)(hne:is.findIdx? (λx=>Nat.beq x i)=some k:=by rfl):ND P n c opsA Q all sp l0 lw is hs i (o::rest):=by
 refine⟨?_,h⟩;unfold ObY;rw[hne];exact λu=>hr
theorem oye {all:List Oper}{i:Nat}:ND P n c opsA Q all sp l0 lw is hs i []:=trivial
end
section
variable {P : Program} {n : Nat} {c : Cx} {opsA : Array Oper} {Q : Exit → Act → World → Prop} {l : Fr} {H : List Ent} {d : Nat} {x y : Operand} {ty t e : TypeId} {pos : String} {af : Array Edge} {v : Value} {sz : Nat}
theorem Ab4 {k:Nat}{u:Ux}{f:FuncId}{args:List Operand}{ats:Array TypeId}{rs:List Rp}{r:Ux→Rp}{H1:Ux→List Ent}{Hin Hr:List Ent}{Φ:Rp→List Ent→Prop}(hcall:∀(as1:Array Value) (w:World),(callFunc f as1).run P w = .ok (.enter f as1) w)(hv:LW l args=some rs)
  (hp:H.Perm (Hin++Hr)) (hc:Fn P c.E f rs Hin Φ) (hΦ:∀r' H',Φ r' H'→∃u',Ag k u u'∧r'=r u'∧H'++Hr=H1 u'):OpY P n c opsA Q l H { dst:=some d,op:=.call { callee:=.value (.func f),args:=args.toArray,argTypes:=ats },type:=ty,pos:=pos,after:=af,guard:=none } k u r H1:=λa w Z K ha hw hK=>by
 refine⟨by simp[Region.wanted],?_⟩;unfold Oper.wp;rw[E6 rfl hcall w];refine(hc w Z _ (Gb ha hv) (hw.perm hp).enter).mono ?_;rintro e w' ⟨r',v,H',Z',rfl,hΦ',hr,hs⟩;obtain⟨u',h1,h2,h3⟩:=hΦ r' H' hΦ';subst h2;exact hK u' v w' Z' h1 hs.le hr (h3▸(hw.perm hp).call hs)
end
end Go.Proofs.YtmjlemhondjfhaaGreatDoor.Q
namespace Go.Proofs.YtmjlemhondjfhaaGreatDoor
open Go
end Go.Proofs.YtmjlemhondjfhaaGreatDoor
namespace Go.Proofs.YtmjlemhondjfhaaGreatDoor.Q
open Go Go.RowKit
set_option linter.unusedVariables false
section
variable {P : Program} {n : Nat} {c : Cx} {ops : Array Oper} {Q : Exit → Act → World → Prop} {rest : List Oper} {l : Fr} {H : List Ent} {d : Nat} {d' : Option Nat} {t kt et ty : TypeId} {pos : String} {af : Array Edge} {g : Option (Nat × Bool)} {x y u : Operand} {b i : Nat} {T : Type} {enc : T → Rp} {xs : List (Int × T)} {z : T} {zv : Value}
theorem Sg.push {Z:Fz}{k:Int}{r:Rp}{v:Value}(hv:r.p Z v)(ck:Nat):∀{m:List (Int×Rp)} {es:List MapEntry},Sg Z m es→Sg Z (m++[(k,r)]) (es++[⟨.int .i64 k,v,ck⟩])
 | [],[],_=>⟨⟨rfl,hv⟩,trivial⟩
 | p::m,e::es,⟨h1,h2⟩=>⟨h1,h2.push hv ck⟩
end
set_option linter.unusedSimpArgs false
def XP (k:Nat)(i:Int)(off:Nat)(Z:Fz)(v:Value):Prop:=if i<0 then v = .pointer none else ∃b,Z.nm k i.toNat=some b∧v = .pointer (some ⟨b,off,none⟩)
def ZH (k:Nat)(i:Int)(off:Nat):Rp:=⟨XP k i off,fun {Z Z' v} h hp=>by
 unfold XP at *
 split
 ·rename_i h0;rwa [AeW h0] at hp
 ·rename_i h0;rw[AeR h0] at hp;obtain⟨b,h1,h2⟩:=hp;exact⟨b,h.nm k _ b h1,h2⟩,true,λ_ Z v hp=>by
 change XP k i off Z v at hp
 unfold XP at hp
 split at hp
 ·rw[hp];rfl
 ·obtain⟨b,_,h2⟩:=hp;rw[h2];rfl⟩
@[reducible] def mP (k:Nat) (i:Int):Rp:=ZH k i 0
theorem AdL (k:Nat)(Z:Fz):(mP k (-1)).p Z (.pointer none):=rfl
theorem GA.pnil (k:Nat):GA (rv (.pointer none)) (ZH k (-1) 0):=λZ v h=>h
section
variable {P : Program} {n : Nat} {c : Cx} {ops : Array Oper} {Q : Exit → Act → World → Prop} {rest : List Oper} {l : Fr} {H H' : List Ent} {d : Nat} {d' : Option Nat} {x y : Operand} {ty t t' e : TypeId} {pos : String} {af : Array Edge} {g : Option (Nat × Bool)} {v u : Value} {r : Rp} {sz k : Nat} {pv : Value} {α : Type} [Inhabited α] {xs : List α} {enc : α → List Rp}
theorem De.re {a:Act}{Z:Fz}{d:Nat}{q r:Rp}(h:De n l a Z)(hl:look l d=some q)(hq:∀v,q.p Z v→r.p Z v):De n ((d,r)::l) a Z:=⟨h.size,h.defers,λi u hi=>by
 rw[C3] at hi
 split at hi
 ·rename_i e;subst e;simp at hi;subst hi
  obtain⟨v,h1,h2⟩:=h.tm d q hl;exact⟨v,h1,hq v h2⟩
 ·exact h.tm i u hi⟩
theorem XP.of {Z:Fz}{b N:Nat}(h:Z.nm k N=some b):∀v,(rv (.pointer (some ⟨b,0,none⟩))).p Z v→(ZH k (N:Int) 0).p Z v:=λv hv=>by
 show XP k N 0 Z v;unfold XP;rw[AeR (by omega)];exact⟨b,by simpa using h,hv⟩
def Qa (l:Fr)(b:Nat):List Nat→Prop
 | []=>True
 | d::ds=>look l d=some (rv (.pointer (some ⟨b,0,none⟩)))∧Qa l b ds
def asP (k N:Nat):List Nat→Fr→Fr
 | [],l=>l
 | d::ds,l=>(d,ZH k (N:Int) 0)::asP k N ds l
theorem UY {Z:Fz}{a:Act}{b N:Nat}{l:Fr}(ha:De n l a Z)(hn:Z.nm k N=some b):∀{ds:List Nat},Qa l b ds→De n (asP k N ds l) a Z
 | [],_=>ha
 | d::ds,⟨h1,h2⟩=>by
  have h3:=UY ha hn h2;refine⟨h3.size,h3.defers,λi u hi=>?_⟩;rw[asP,C3] at hi
  split at hi
  ·rename_i e;subst e;simp at hi;subst hi
   obtain⟨v,h4,h5⟩:=ha.tm d _ h1;exact⟨v,h4,XP.of hn v h5⟩
  ·exact h3.tm i u hi
end
def MpZ (m:List (List UInt8×Rp))(Z:Fz)(v:Value):Prop:=(v = .map none∧m=[])∨∃b es ck,v = .map (some b)∧Z b=some (.map es ck)∧GC Z m es.toList ck
def rMz (m:List (List UInt8×Rp)):Rp:=⟨MpZ m,λh h0=>h0.imp id λ⟨b,es,ck,h1,h2,h3⟩=>⟨b,es,ck,h1,h.f b _ h2,h3.mono h⟩,true,λ_ Z v h0=>by rcases h0 with⟨h1,_⟩ | ⟨b,es,ck,h1,_⟩<;>(rw[h1];rfl)⟩
section
variable {P : Program} {n : Nat} {c : Cx} {ops opsA : Array Oper} {Q : Exit → Act → World → Prop} {rest : List Oper} {l : Fr} {H : List Ent} {d : Nat} {d' : Option Nat} {ty t kt et rty : TypeId} {pos : String} {af : Array Edge} {g : Option (Nat × Bool)} {x y u : Operand} {K : Act → World → Prop} {cx : Code} {r : Rp}
variable {T : Type} {enc : T → Rp} {xs : List (Ae × T)} {z : T} {k : Ae} {zv : Value} {i b : Nat}
theorem MpZ.heap {Z:Fz}{w:World}(hf:Ws Z w){m:List (List UInt8×Rp)}{v:Value}(h:(rMz m).p Z v):(v = .map none∧m=[])∨∃b,v = .map (some b)∧(Ent.map b m).holds Z w:=by
 rcases h with h | ⟨b,es,ck,h1,h2,h3⟩
 ·exact .inl h
 ·exact .inr ⟨b,h1,es,ck,hf b _ h2,h3⟩
end
def fnv:Nat→Value
 | 0=>.nilFunc
 | k+1=>.func (.func (k+1)) #[] #[]
def Sh (k:Nat):Rp:=⟨λ_ v=>v=fnv k,λ_ h=>h,true,λ_ Z v h=>by rw[h];cases k<;>rfl⟩
@[reducible] def LX (k:Nat):List Rp:=[Sh k]
theorem He (k:Nat):(LX k).length=1:=rfl
def Ld {α:Type}(t:TypeId)(f:α→Rp):Option α→Rp
 | none=>rv .nilIface
 | some a=>CU t (f a)
def AcY:TypeDesc→Bool
 | .interface _=>false
 | _=>true
section
variable {P : Program} {n : Nat} {c : Cx} {ops opsA : Array Oper} {Q : Exit → Act → World → Prop} {rest : List Oper} {l : Fr} {H Hr : List Ent} {d : Nat} {d' : Option Nat} {ty t kt et rty : TypeId} {pos : String} {af : Array Edge} {g : Option (Nat × Bool)} {x y : Operand} {r q : Rp}
theorem AcT {k:Nat}(hu:∃a b e,P.underlying t=some (.func a b e))(hx:ev l x=some (Sh k)):BD P n c l H { dst:=d',op:=.binOp .neq t x (.const .nilFunc) rty,type:=ty,pos:=pos,after:=af,guard:=g } (rB (!decide (k=0))):=λa w Z ha hw=>by
 obtain⟨a1,a2,a3,hu⟩:=hu;have h:a.eval x=fnv k:=ha.ev hx;have hy:a.eval (.const .nilFunc) = .nilFunc:=rfl;refine⟨_,rfl,?_⟩
 cases k with
 | zero=>
  have h1:∀dd:Nat,(Op.equalIn (dd+1) t .nilFunc .nilFunc).run P w = .ok true w:=λdd=>by simp[Op.equalIn,run_underlying hu]
  have h2:(Op.equal t .nilFunc .nilFunc).run P w = .ok true w:=h1 9999;simp[execOp,h,hy,fnv,eqGuard,binOp,h2]
 | succ k=>
  have h1:∀dd:Nat,(Op.equalIn (dd+1) t (.func (.func (k+1)) #[] #[]) .nilFunc).run P w = .ok false w:=λdd=>by simp[Op.equalIn,run_underlying hu]
  have h2:(Op.equal t (.func (.func (k+1)) #[] #[]) .nilFunc).run P w = .ok false w:=h1 9999;simp[execOp,h,hy,fnv,eqGuard,binOp,h2]
theorem Hl {u:TypeDesc}(hu:P.underlying t=some u)(hni:AcY u=true)(hx:ev l x=some r):BD P n c l H { dst:=d',op:=.makeInterface t x,type:=ty,pos:=pos,after:=af,guard:=g } (CU t r):=λa w Z ha hw=>⟨.iface t (a.eval x),⟨_,rfl,ha.ev hx⟩,by
 cases u<;>first | (cases hni;done) | simp[execOp,Instr.makeInterface,run_underlying hu]⟩
theorem Up.ifo {α:Type}{f:α→Rp}{a:α}(h:Up H r (f a)):Up H (CU t r) (Ld t f (some a)):=λc Z w v hw ⟨u,e,hu⟩=>⟨u,e,h c Z w u hw hu⟩
theorem VH {α:Type}{f:α→Rp}{o:Option α}(hu:∃ms,P.underlying kt=some (.interface ms))(hx:ev l x=some (Ld t f o)):BD P n c l H { dst:=d',op:=.binOp .eql kt x (.const .nilIface) rty,type:=ty,pos:=pos,after:=af,guard:=g } (rB o.isNone):=λa w Z ha hw=>by
 obtain⟨ms,hu⟩:=hu;have h:=ha.ev hx;have hy:a.eval (.const .nilIface) = .nilIface:=rfl;refine⟨_,rfl,?_⟩
 cases o with
 | none=>
  have h:a.eval x = .nilIface:=h;have h1:∀dd:Nat,(Op.equalIn (dd+1) kt .nilIface .nilIface).run P w = .ok true w:=λdd=>by simp[Op.equalIn,run_underlying hu]
  have h2:(Op.equal kt .nilIface .nilIface).run P w = .ok true w:=h1 9999;have h3:(eqGuard .eql kt x (.const .nilIface) .nilIface .nilIface).run P w = .ok () w:=by unfold eqGuard;simp
  simp[execOp,h,hy,h3,binOp,h2]
 | some b=>
  obtain⟨u,e,_⟩:=h;have h1:∀dd:Nat,(Op.equalIn (dd+1) kt (.iface t u) .nilIface).run P w = .ok false w:=λdd=>by simp[Op.equalIn,run_underlying hu]
  have h2:(Op.equal kt (.iface t u) .nilIface).run P w = .ok false w:=h1 9999;have h3:(eqGuard .eql kt x (.const .nilIface) (.iface t u) .nilIface).run P w = .ok () w:=by unfold eqGuard;simp
  simp[execOp,e,hy,h3,binOp,h2]
theorem WZ {α:Type}{f:α→Rp}{o:Option α}{d0:α}(h:o.isSome=true):GA (Ld t f o) (CU t (f (Option.getD o d0))):=λZ v hv=>by
 cases o with
 | none=>cases h
 | some b=>exact hv
theorem R0 {f:FuncId}{name:String}{args:List Operand}{ats:Array TypeId}{o:Oper}{a:Act}{u:Value}(ho:o.op = .call { callee:=.invoke x name,args:=args.toArray,argTypes:=ats })(hx:a.eval x = .iface t u)
  (hm:∀v w,(method (P.types.size+Made.depth) t v name).run P w = .ok (f,v) w) (hcall:∀(as1:Array Value) (w:World),(callFunc f as1).run P w = .ok (.enter f as1) w) (w:World):(execOp a.eval o).run P w = .ok (.enter f (u::args.map a.eval).toArray) w:=by
 have h2:=hm u w;simp only[execOp,ho,resolve,hx];simp[invoke,callMethod,h2,hcall,List.take_of_length_le]
theorem V8 {f:FuncId}{name:String}{args:List Operand}{ats:Array TypeId}{rs:List Rp}(hm:∀v w,(method (P.types.size+Made.depth) t v name).run P w = .ok (f,v) w)(hcall:∀(as1:Array Value) (w:World),(callFunc f as1).run P w = .ok (.enter f as1) w)
  (hx:ev l x=some (CU t q)) (hc:LY P c.E f (q::rs) r) (hv:LW l args=some rs) :
  DD P n c opsA Q l H { dst:=some d,op:=.call { callee:=.invoke x name,args:=args.toArray,argTypes:=ats },type:=ty,pos:=pos,after:=af,guard:=none } r H:=λa w Z K ha hw hK=>
 ⟨λ_=>by
  obtain⟨u,e,hu⟩:=ha.ev hx;unfold Oper.wp;rw[R0 rfl e hm hcall w];refine(hc w Z (u::args.map a.eval) ⟨hu,Gb ha hv⟩ (St.enter (Hin:=[]) (Hr:=H) hw)).mono ?_;rintro e w' ⟨r2,v,Ho,Z',rfl,⟨rfl,rfl⟩,hr2,hs⟩;exact hK v w' Z' hs.le hr2 (by simpa using hw.call0 hs),λh=>by simp[Region.wanted] at h⟩
theorem R8 {f:FuncId}{name:String}{args:List Operand}{ats:Array TypeId}{rs:List Rp}{Hin Hr:List Ent}(hm:∀v w,(method (P.types.size+Made.depth) t v name).run P w = .ok (f,v) w)(hcall:∀(as1:Array Value) (w:World),(callFunc f as1).run P w = .ok (.enter f as1) w)
  (hx:ev l x=some (CU t q)) (hp:H.Perm (Hin++Hr)) (hc:Fn P c.E f (q::rs) Hin (λr' H'=>r'=r∧H'=Hin)) (hv:LW l args=some rs) :
  DD P n c opsA Q l H { dst:=some d,op:=.call { callee:=.invoke x name,args:=args.toArray,argTypes:=ats },type:=ty,pos:=pos,after:=af,guard:=none } r H:=λa w Z K ha hw hK=>
 ⟨λ_=>by
  obtain⟨u,e,hu⟩:=ha.ev hx;unfold Oper.wp;rw[R0 rfl e hm hcall w];have hw2:=hw.perm hp;refine(hc w Z (u::args.map a.eval) ⟨hu,Gb ha hv⟩ hw2.enter).mono ?_;rintro e w' ⟨r2,v,Ho,Z',rfl,⟨rfl,rfl⟩,hr2,hs⟩;exact hK v w' Z' hs.le hr2 ((hw2.call hs).perm hp.symm),λh=>by simp[Region.wanted] at h⟩
theorem O4 {α:Type}{ff:α→Rp}{o:Option α}{d0:α}{f:FuncId}{name:String}{args:List Operand}{ats:Array TypeId}{rs:List Rp}(hm:∀v w,(method (P.types.size+Made.depth) t v name).run P w = .ok (f,v) w)(hcall:∀(as1:Array Value) (w:World),(callFunc f as1).run P w = .ok (.enter f as1) w)
  (hx:ev l x=some (Ld t ff o)) (hs:o.isSome=true) (hc:LY P c.E f (ff (Option.getD o d0)::rs) r) (hv:LW l args=some rs) :
  DD P n c opsA Q l H { dst:=some d,op:=.call { callee:=.invoke x name,args:=args.toArray,argTypes:=ats },type:=ty,pos:=pos,after:=af,guard:=none } r H:=λa w Z K ha hw hK=>
 ⟨λ_=>by
  obtain⟨u,e,hu⟩:=WZ (d0:=d0) hs Z _ (ha.ev hx);unfold Oper.wp;rw[R0 rfl e hm hcall w];refine(hc w Z (u::args.map a.eval) ⟨hu,Gb ha hv⟩ (St.enter (Hin:=[]) (Hr:=H) hw)).mono ?_;rintro e w' ⟨r2,v,Ho,Z',rfl,⟨rfl,rfl⟩,hr2,hs⟩;exact hK v w' Z' hs.le hr2 (by simpa using hw.call0 hs),λh=>by simp[Region.wanted] at h⟩
theorem Ad6 {k:Nat}{args:List Operand}{ats:Array TypeId}{rs:List Rp}(hk:(!decide (k=0))=true)(hc:(∀(as1:Array Value) (w:World),(callFunc k as1).run P w = .ok (.enter k as1) w)∧LY P c.E k rs r)(hx:ev l x=some (Sh k))(hv:LW l args=some rs)(h:WL P n c ops Q rest ((d,r)::l) H)(hn:Nat.blt d n=true:=by rfl) :
  WL P n c ops Q ({ dst:=some d,op:=.call { callee:=.value x,args:=args.toArray,argTypes:=ats },type:=ty,pos:=pos,after:=af,guard:=none }::rest) l H:=by
 cases k with
 | zero=>cases hk
 | succ k=>
  have hk':(if k+1=0 then Value.nilFunc else .func (.func (k+1)) #[] #[]) = .func (.func (k+1)) #[] #[]:=by simp
  exact GV (caps:=[]) (Hin:=[]) (Hr:=H) hc.1 (show ev l x=some (rv (.func (.func (k+1)) #[] ([]:List Value).toArray)) from hx) hv (Aet _) (by simpa using hc.2) hn (by rintro _ _ ⟨rfl,rfl⟩;exact h)
theorem ZV {α:Type}{enc:α→List Rp}{inf:TypeInfo}{z:Value}{zα:α}{rz:Rp}{kl kc:IntKind}{m:Int}{bytes:Nat}{e:TypeId}(ht:P.underlying t=some (.slice e))(hinf:P.info? e=some inf)(hz:inf.zero=some z)(hsize:inf.size=1)(hby:inf.bytes=bytes)(hbp:Nat.blt 0 bytes=true)
  (hzc:z.cells = #[z]) (henc:enc zα=[rz]) (hrz:∀Z,rz.p Z z)
  (hx:ev l x=some (rI kl m)) (hy:ev l y=some (rI kc m)) (hg:D2 bytes m.toNat=true) (hg0:decide (0≤m)=true) (hn:Nat.blt d n=true)
  (h:∀v',WL P n c ops Q rest ((d,rv v')::l) (.row v' e 1 ((List.replicate m.toNat zα).map enc)::H)) :
  WL P n c ops Q ({ dst:=some d,op:=.makeSlice t x y,type:=ty,pos:=pos,after:=af,guard:=none }::rest) l H:=by
 have em:((m.toNat:Nat):Int)=m:=Int.toNat_of_nonneg (AeL hg0);exact Ab8 (m:=m.toNat) ht hinf hz hsize hby hbp hzc henc hrz (by rw[em];exact hx) (by rw[em];exact hy) hg hn h
theorem Lo {r:Rp}(hx:ev l x=some (CU t r)):BD P n c l H { dst:=d',op:=.nilCheck x,type:=ty,pos:=pos,after:=af,guard:=g } (CU t r):=λa w Z ha hw=>by
 have h:=ha.ev hx;obtain⟨u,e1,hu⟩:=h;exact⟨a.eval x,⟨u,e1,hu⟩,by simp[execOp,e1]⟩
theorem Aac (s:List UInt8)(i:Nat){c:List Rp}(h:((EK s).map Ct)[i]? =some c):∃u,s[i]? =some u∧c=[rI .u8 (u.toNat:Int)]:=by
 simp only[EK,AeZ,AeC,Option.map_eq_some_iff] at h;obtain⟨u,h1,h2⟩:=h;exact⟨u,h1,h2.symm⟩
theorem St.s2b {Z:Fz}{w:World}(hw:St c H Z w)(s:List UInt8)(e:TypeId)(cap:Nat)(h1:s.length≤cap)(h2:cap≤maxLen)(mk:Nat×Nat) :
  ∃Z',Fz.le Z Z'∧St c H Z' (w.drew.alloc (.cells (bytesRow (B s) cap) e mk))∧(AK 1 ((EK s).map Ct)).p Z' (.slice (some ⟨w.heap.size,0,none⟩) s.length cap):=by
 let o:Obj:=.cells (bytesRow (B s) cap) e mk
 let w':World:=w.drew.alloc o
 let Z':Fz:=⟨λb=>if b=w.heap.size then some o else Z b,Z.nm⟩
 have hs:St c H Z w':=(hw.add (w':=w') (e':=.fact (.bool true) (rv (.bool true))) rfl rfl rfl (by show w.heap.size≤(w.heap.push o).size;simp) (λk hk=>Below.heap_alloc w.drew o k hk) rfl (by simp[Ent.foot])).sub (List.sublist_cons_self _ _);have ho:w'.heap[w.heap.size]? =some o:=by show(w.heap.push o)[w.heap.size]? =some o;simp
 have hgz:Z w.heap.size=none:=by
  cases hz:Z w.heap.size with
  | none=>rfl
  | some q=>have:=hw.frz.lt hz;omega
 have hle:Fz.le Z Z':=⟨λb q hb=>by
  have:b≠w.heap.size:=λe=>by subst e;rw[hgz] at hb;cases hb
  simpa[Z',this] using hb,λ_ _ _ h=>h⟩
 refine⟨Z',hle,?_,?_⟩
 ·refine { hs with has:=λen he=>Ent.keep (hs.has en he) hle λ_ _=>rfl,frz:=⟨λb q hb=>?_,hs.frz.nm⟩,gst:=hs.gst.names rfl,le:=hs.le.trans hle,new:=λb q hb=>?_,zdis:=λen he k hk=>?_,env:=hs.emono hle hs.env }
  ·by_cases hbg:b=w.heap.size
   ·subst hbg;simp[Z'] at hb;rw[← hb];exact ho
   ·simp[Z',hbg] at hb;exact hs.frz b q hb
  ·by_cases hbg:b=w.heap.size
   ·subst hbg;exact .inr (.inl hw.size)
   ·simp[Z',hbg] at hb;exact hs.new b q hb
  ·have:=hw.mem_lt he hk;have hkg:k≠w.heap.size:=by omega
   simp only[Z',hkg,AeB];exact hs.zdis en he k hk
 ·refine⟨some ⟨w.heap.size,0,none⟩,cap,by simp[EK],by simpa[EK] using h1,h2,(λh=>by cases h),λi cl hi=>?_⟩;obtain⟨u,hu,rfl⟩:=Aac s i hi;refine⟨rfl,⟨w.heap.size,0,none⟩,rfl,rfl,λj r hj=>?_⟩
  cases j with
  | succ j=>simp at hj
  | zero=>
   simp at hj;subst hj;refine⟨.int .u8 (u.toNat:Int),?_,rfl⟩;have hi':i<s.length:=(List.getElem?_eq_some_iff.1 hu).1;have he:s[i]=u:=(List.getElem?_eq_some_iff.1 hu).2;simp only[IN,Z',AeJ,o,bytesRow,B];rw[Array.getElem?_append_left (by simpa using hi')];simp[hi',he]
theorem AcB {s:List UInt8}{e t':TypeId}(hs:P.underlying t=some .string)(hd:P.underlying t'=some (.slice e))(he:P.underlying e=some (.int .u8))(hx:ev l x=some (rS s))(hg:D2 1 s.length=true)(hn:Nat.blt d n=true)
  (h:WL P n c ops Q rest ((d,AK 1 ((EK s).map Ct))::l) H) :
  WL P n c ops Q ({ dst:=some d,op:=.convert t t' x,type:=ty,pos:=pos,after:=af,guard:=none }::rest) l H:=
 Jt (λa w Z ha hw=>by
  have hb:s.length≤140737488355328:=by simpa[D2] using hg
  have e1:=run_bytes_of_string (P:=P) w t t' e (B s) hs hd he;have hsz:(B s).size=s.length:=rfl;rw[hsz] at e1;obtain⟨Z',hz,h1,h2⟩:=St.s2b hw s e (grownCap w s.length 0 e) (grownCap_ge w s.length 0 e) (grownCap_le_maxLen w s.length 0 e (by have:maxLen=9223372036854775807:=rfl;omega)) ((bytesRow (B s) (grownCap w s.length 0 e)).size,(bytesRow (B s) (grownCap w s.length 0 e)).size+1);exact⟨_,_,_,_,Z',by simp[execOp,ha.eval hx,e1],hz,h2,h1,h⟩) hn
end
set_option maxRecDepth 100000
set_option maxHeartbeats 4000000
@[reducible] def IJ (x:(List Ae)):List Rp:=[AK 1 (Az eS x)]
theorem UR (x:(List Ae)):(IJ x).length=1:=rfl
@[reducible] def Af (x:Ad):List Rp:=[rB x.fAllow,AK 1 (Az eS x.fActions),AK 1 (Az eS x.fResources)]
theorem Ec (x:Ad):(Af x).length=3:=rfl
theorem LO (x:Ad):(Af x).all (·.one)=true:=rfl
@[reducible] def L0 (x:C1):List Rp:=[rB x.fAllowed,A2 x.fIndex]
@[reducible] def Ao (x:AG):List Rp:=[rB x.fAllow,A2 x.fAddr,A2 x.fBits,A2 x.fLow,A2 x.fHigh]
theorem GR (x:AG):(Ao x).length=5:=rfl
theorem N4 (x:AG):(Ao x).all (·.one)=true:=rfl
theorem NV:∃inf,Tryz.prog.info? 9=some inf∧inf.zero=some (.string ⟨#[]⟩)∧inf.size=1∧inf.bytes=16:=by
  have key:(Tryz.prog.info? 9).map (λi=>(i.zero,i.size,i.bytes))=some (some (.string ⟨#[]⟩),1,16):=by kernel_rfl
  obtain⟨inf,h1,h2⟩:=Option.map_eq_some_iff.1 key;simp only[Prod.mk.injEq] at h2;exact⟨inf,h1,h2.1,h2.2.1,h2.2.2⟩
theorem Wk (parts:List (Nat×Value)):Tryz.prog.built 63 parts=Instr.fill (λi=>(#[(0,1),(1,1)]:Array (Nat×Nat))[i]?) #[(.bool false),(.int .i64 0)] parts:=by kernel_rfl
theorem Lr {n:Nat}{c:Cx}{l:Fr}{H:List Ent}{d:Option Nat}{ty:TypeId}{pos:String}{af:Array Edge}{g:Option (Nat×Bool)}{x0:Operand}{r0:Rp}(h0:ev l x0=some r0)(u0:r0.one=true){x1:Operand}{r1:Rp}(h1:ev l x1=some r1)(u1:r1.one=true):BD Tryz.prog n c l H { dst:=d,op:=.build 63 #[(0,x0),(1,x1)],type:=ty,pos:=pos,after:=af,guard:=g } (B3 [r0,r1]):=λa w Z ha _=>by
  have p0:=ha.ev h0;have c0:=B0 (r0.hone u0 Z _ p0);have p1:=ha.ev h1;have c1:=B0 (r1.hone u1 Z _ p1);have hb:Tryz.prog.built 63 [(0,a.eval x0),(1,a.eval x1)]=some #[a.eval x0,a.eval x1]:=by
    rw[Wk];generalize a.eval x0=v0 at *;generalize a.eval x1=v1 at *;simp[Instr.fill,c0,c1]
  refine⟨.agg #[a.eval x0,a.eval x1],⟨[a.eval x0,a.eval x1],rfl,p0,p1,trivial⟩,?_⟩;have:=run_build w 63 #[(0,a.eval x0),(1,a.eval x1)] _ (by simpa using hb);simp[execOp,this]
theorem NS {n:Nat}{c:Cx}{l:Fr}{H:List Ent}{d:Option Nat}{ty:TypeId}{pos:String}{af:Array Edge}{g:Option (Nat×Bool)}{x1:Operand}{r1:Rp}(h1:ev l x1=some r1)(u1:r1.one=true):BD Tryz.prog n c l H { dst:=d,op:=.build 63 #[(1,x1)],type:=ty,pos:=pos,after:=af,guard:=g } (B3 [rB false,r1]):=λa w Z ha _=>by
  have p1:=ha.ev h1;have c1:=B0 (r1.hone u1 Z _ p1);have hb:Tryz.prog.built 63 [(1,a.eval x1)]=some #[(.bool false),a.eval x1]:=by
    rw[Wk];generalize a.eval x1=v1 at *;simp[Instr.fill,c1]
  refine⟨.agg #[(.bool false),a.eval x1],⟨[(.bool false),a.eval x1],rfl,rfl,p1,trivial⟩,?_⟩;have:=run_build w 63 #[(1,a.eval x1)] _ (by simpa using hb);simp[execOp,this]
theorem Lk (s:Ae)(x:Ae)(r:Bool)(h:Gr s x=some r):Fn Tryz.prog GE 230 [rS s,rS x] [] (λR H=>R=rB r∧H=[]):=by
 refine enter (n:=21) Tryz.func230 Aa Tryz.ntmps230 Aa (λw Z=>?_);unfold Gr at h;refine Ah (wa Aa (Ap (ck h λg1 h2=>ck h2 λg3 h4=>AC [(4,rB ((decide ((x.length:Int)≤(s.length:Int)))&&(decide ((List.drop (Cc ((s.length:Int)-(x.length:Int))) s)=x))))] [] ?_ ?_)))
 ·refine Ak (wm Aa (wv (BS DH Aa) (wm Aa (wv (BS DH Aa) (wv (EL Aa Aa) (wm Aa (Bd (decide ((x.length:Int)≤(s.length:Int))) (λc5=>?_) (λc5=>?_))))))))
  ·refine wo c5 (wm Aa (wo c5 (wm Aa (wo c5 (wv (BS DH Aa) (wo c5 (wm Aa (wo c5 (wv (BS DH Aa) (wo c5 (wv (HZ Aa Aa (BX g1 c5)) (wo c5 (wv (Gg DH Aa Aa (BX g3 c5)) (wo c5 (wm Aa (wo c5 (wv (C2 Aa Aa) (GG Aa c5 Aa (wa Aa (Aq ?_))))))))))))))))))));exact Cy c5
  refine wf c5 (wf c5 (wf c5 (wf c5 (wf c5 (wf c5 (wf c5 (wf c5 (wf c5 (wv (r:=rB false) (A3 Aa c5 Aa) (wa Aa (Aq ?_)))))))))));exact Cy c5
 refine Ar ?_;obtain rfl:=Av h4;exact As (BH Tryz.results230 (AQ Aa)) sN ⟨Aa,Aa⟩
theorem OZ (s:Ae)(x:Ae)(r:Ae)(h:H8 s x=some r):Fn Tryz.prog GE 229 [rS s,rS x] [] (λR H=>R=rS r∧H=[]):=by
 refine enter (n:=16) Tryz.func229 Aa Tryz.ntmps229 Aa (λw Z=>?_);unfold H8 at h;refine Ah (wv (r:=rS ([]:Ae)) (A4 Aa) (Ap (Al (Ah (wm Aa (wm Aa (ob h λr1 e3 h2=>Cp Tryz.call230 (Lk s x r1 e3) Aa (Ap (cz h2 Aa (λc4 h5=>?_) (λc4 hb=>?_))))))))))
 ·refine Ah (wm Aa (wm Aa (wv (BS DH Aa) (wm Aa (wv (BS DH Aa) (ck h5 λg6 h7=>wv (HZ Aa Aa g6) (ck h7 λg8 h9=>wv (Ia DH Aa Aa g8) (wa Aa (Ap (Ar (Ac ?_)))))))))));obtain rfl:=Av h9;exact As (BH Tryz.results229 (AQ Aa)) sN ⟨Aa,Aa⟩
 refine A0 (Bb (Ah (wm Aa (wa Aa (Ap (Ar ?_))))));obtain rfl:=Av hb;exact As (BH Tryz.results229 (AQ Aa)) sN ⟨Aa,Aa⟩
theorem T7 (s:Ae)(x:Ae)(r:Bool)(h:KR s x=some r):Fn Tryz.prog GE 202 [rS s,rS x] [] (λR H=>R=rB r∧H=[]):=by
 refine enter (n:=8) Tryz.func202 Aa Tryz.ntmps202 Aa (λw Z=>?_);unfold KR at h;refine Ah (wa Aa (Bu (wm Aa (wm Aa (ob h λr1 e3 h2=>Cp Tryz.call230 (Lk s x r1 e3) Aa (wa Aa (Ap (Ar ?_))))))));obtain rfl:=Av h2;exact As (BH Tryz.results202 (AQ Aa)) sN ⟨Aa,Aa⟩
theorem Rt (s:Ae)(x:Ae)(r:Ae)(h:Jy s x=some r):Fn Tryz.prog GE 201 [rS s,rS x] [] (λR H=>R=rS r∧H=[]):=by
 refine enter (n:=8) Tryz.func201 Aa Tryz.ntmps201 Aa (λw Z=>?_);unfold Jy at h;refine Ah (wv (r:=rS ([]:Ae)) (A4 Aa) (Bu (wm Aa (wm Aa (ob h λr1 e3 h2=>Cp Tryz.call229 (OZ s x r1 e3) Aa (wa Aa (Ap (Ar ?_))))))));obtain rfl:=Av h2;exact As (BH Tryz.results201 (AQ Aa)) sN ⟨Aa,Aa⟩
theorem QW (s:Ae)(r:Ae)(h:Ey s=some r):Fn Tryz.prog GE 174 [rS s] [] (λR H=>R=rS r∧H=[]):=by
 refine enter (n:=5) Tryz.func174 Aa Tryz.ntmps174 Aa (λw Z=>?_);unfold Ey at h;refine Ah (wv (r:=rS ([]:Ae)) (A4 Aa) (Bu (wm Aa (ob h λr1 e3 h2=>Cp Tryz.call201 (Rt s ([42]:Ae) r1 e3) Aa (wa Aa (Ap (Ar ?_)))))));obtain rfl:=Av h2;exact As (BH Tryz.results174 (AQ Aa)) sN ⟨Aa,Aa⟩
theorem VW (s:Ae)(r:Bool)(h:Lx s=some r):Fn Tryz.prog GE 175 [rS s] [] (λR H=>R=rB r∧H=[]):=by
 refine enter (n:=5) Tryz.func175 Aa Tryz.ntmps175 Aa (λw Z=>?_);unfold Lx at h;refine Ah (wa Aa (Bu (wm Aa (ob h λr1 e3 h2=>Cp Tryz.call202 (T7 s ([42]:Ae) r1 e3) Aa (wa Aa (Ap (Ar ?_)))))));obtain rfl:=Av h2;exact As (BH Tryz.results175 (AQ Aa)) sN ⟨Aa,Aa⟩
theorem PD (s:Ae)(r:Bool)(h:Jj s=some r):Fn Tryz.prog GE 126 [rS s] [] (λR H=>R=rB r∧H=[]):=by
 refine enter (n:=23) Tryz.func126 Aa Tryz.ntmps126 Aa (λw Z=>?_);unfold Jj at h;refine Ah (wa Aa (Ap (ck h λg1 h2=>ck h2 λg3 h4=>AC [(2,rB ((LV s)||((decide (s=([42]:Ae)))||((LV (ov (Ey s)))&&((ov (Lx s))&&(decide ((s.length:Int)≤64)))))))] [] ?_ ?_)))
 ·refine Ak (wm Aa (Cq (rs:=[rS s]) (r:=rB (LV s)) Tryz.call115 Aa (AaP s) Aa Aa (wm Aa (Bd (LV s) (λc5=>?_) (λc5=>?_)))))
  ·refine wf c5 (wf c5 (wv (r:=rB true) (AF Aa c5 Aa) (wm Aa (wz Aa Aa (wz Aa Aa (wz Aa Aa (wz Aa Aa (wu (wu (wz Aa Aa (wz Aa Aa (wu (wu (wu (wz Aa Aa (wv (r:=rB true) (AF (b:=true) Aa Aa Aa) (wa Aa (Aq ?_))))))))))))))))));exact Cy c5
  refine wo c5 (wm Aa (wo c5 (wv (C2 Aa Aa) (MY Aa c5 Aa (wm Aa (Bd (decide (s=([42]:Ae))) (λc6=>?_) (λc6=>?_)))))))
  ·refine wf c6 (wf c6 (wf c6 (wf c6 (wu (wu (wf c6 (wf c6 (wu (wu (wu (wf c6 (wv (r:=rB true) (AF Aa c6 Aa) (wa Aa (Aq ?_))))))))))))));exact Cy (And.intro c5 c6)
  refine wo c6 (wm Aa (wo c6 (Cp Tryz.call174 (QW s (ov (Ey s)) (CL (H3 (H3 g1 c5) c6))) Aa (wo c6 (Cq (rs:=[rS (ov (Ey s))]) (r:=rB (LV (ov (Ey s)))) Tryz.call115 Aa (AaP (ov (Ey s))) Aa Aa (wo c6 (wm Aa (Bd (LV (ov (Ey s))) (λc7=>?_) (λc7=>?_)))))))))
  ·refine wo c7 (wm Aa (wo c7 (Cp Tryz.call175 (VW s (ov (Lx s)) (CL (BX (H3 (H3 g3 c5) c6) c7))) Aa (wo c6 (GG Aa c7 Aa (wo c6 (wm Aa (Bd ((ov (Lx s))) (λc8=>?_) (λc8=>?_)))))))))
   ·refine wo c8 (wm Aa (wo c8 (wv (BS DH Aa) (wo c8 (wv (JQ Aa Aa) (wo c6 (GG Aa c8 Aa (MY Aa c6 Aa (wa Aa (Aq ?_))))))))));exact Cy (And.intro c5 (And.intro c6 (And.intro c7 c8)))
   refine wf c8 (wf c8 (wf c8 (wo c6 (wv (r:=rB false) (A3 Aa c8 Aa) (MY Aa c6 Aa (wa Aa (Aq ?_)))))));exact Cy (And.intro c5 (And.intro c6 (And.intro c7 c8)))
  refine wf c7 (wf c7 (wo c6 (wv (r:=rB false) (A3 Aa c7 Aa) (wo c6 (wm Aa (wz Aa Aa (wz Aa Aa (wz Aa Aa (wo c6 (wv (r:=rB false) (A3 (b:=false) Aa Aa Aa) (MY Aa c6 Aa (wa Aa (Aq ?_)))))))))))));exact Cy (And.intro c5 (And.intro c6 c7))
 refine Ar ?_;obtain rfl:=Av h4;exact As (BH Tryz.results126 (AQ Aa)) sN ⟨Aa,Aa⟩
theorem UH (q:Ae)(s:Ae)(r:Bool)(h:Kt q s=some r):Fn Tryz.prog GE 128 [rS q,rS s] [] (λR H=>R=rB r∧H=[]):=by
 refine enter (n:=17) Tryz.func128 Aa Tryz.ntmps128 Aa (λw Z=>?_);unfold Kt at h;refine Ah (wa Aa (Ap (Al (Ah (wm Aa (ob h λr1 e3 h2=>Cp Tryz.call126 (PD q r1 e3) Aa (wv (Cn Aa) (Ap (cz h2 Aa (λc4 h5=>?_) (λc4 h6=>?_))))))))))
 ·refine Ah (wa Aa (Ap (Ar (Ac ?_))));obtain rfl:=Av h5;exact As (BH Tryz.results128 (AQ Aa)) sN ⟨Aa,Aa⟩
 refine A0 (Bb (Al (Ah (wm Aa (ob h6 λr7 e9 h8=>Cp Tryz.call175 (VW q r7 e9) Aa (Ap (cz h8 Aa (λhd he=>?_) (λhd hf=>?_))))))))
 ·refine Ah (wm Aa (wm Aa (ob he λhb hg hh=>Cp Tryz.call174 (QW q hb hg) Aa (ob hh λhi hj hk=>Cp Tryz.call176 (NX s hb hi hj) Aa (wa Aa (Ap (Ar (Ac ?_))))))));obtain rfl:=Av hk;exact As (BH Tryz.results128 (AQ Aa)) sN ⟨Aa,Aa⟩
 refine A0 (Bb (Ah (wm Aa (wm Aa (wv (C2 Aa Aa) (wa Aa (Ap (Ar ?_))))))));obtain rfl:=Av hf;exact As (BH Tryz.results128 (AQ Aa)) sN ⟨Aa,Aa⟩
theorem VX (F:Nat)(l:(List Ae))(s:Ae)(r:Bool)(h:PE F l s=some r):Fn Tryz.prog GE 21 [AK 1 (Az eS l),rS s] [] (λR H=>R=rB r∧H=[]):=by
 refine enter (n:=18) Tryz.func21 Aa Tryz.ntmps21 Aa (λw Z=>?_);unfold PE at h;refine Ah (wa Aa (Ap (Al (Ah (wa Aa (Ap (AH (ob h λhh hi hf=>BG (S:=Nat×(Int)×(Unit)) (V:=(Unit)×(Unit)) 0 (λσ=>Cl (λσ=>Ij l s σ) σ.1 σ.2.1=some hh) (λσ=>[(0,AK 1 (Az eS l)),(1,rS s),(5,A2 σ.2.1)]) (λσ=>[]) (λσ=>σ.1) (F,0,()) hi (AV.c Aa (AV.c Aa (AV.c Aa AV.nil))) sN (λσ=>Ku =some r) (λσ=>[]) (λσ=>[]) ?_ ?_))))))))
 ·rintro⟨h1,hg,⟨⟩⟩ hj;refine H6 ?_;obtain⟨hk,rfl,hl,hb,he⟩:=CD hj;replace hb:Ij l s hg=some hl:=hb;unfold Ij at hb;refine Al (Ah (wm Aa (wm Aa (wv (By (ys:=l) (enc:=eS) CT Aa) (wv (CP Aa Aa) (Ap (cz hb Aa (λhm hn=>?_) (λhm hp=>?_))))))))
  ·refine A0 (Bb (Al (AH (Ah (wm Aa (wm Aa (ck hn λhq hr=>wv (Bl (enc:=eS) (ys:=l) CT Dc Aa Aa hq) (wv (Bc DQ Aa Aa) (wm Aa (wv (C2 Aa Aa) (Ap (cz hr Aa (λhs ht=>?_) (λhs hu=>?_)))))))))))))
   ·refine Ah (wa Aa (Ap (Ar (A8 (Ac (Ac (B7 ?_)))))));have hw:=Ca ht he hf;refine A8 (Ac ?_);obtain rfl:=Av hw;exact As (BH Tryz.results21 (AQ Aa)) sN ⟨Aa,Aa⟩
   refine A0 (AN (Bb (Ak (wm Aa (ck hu λhx hy=>wv (BM Aa Aa hx) (wa Aa (Aq ?_)))))));have hz:=B8 hy he;exact A9 (AZ (hk,hg+1,()) ⟨hz,Aew _⟩ (AV.c Aa (AV.c Aa (AV.c Aa AV.nil))) sN)
  refine BE (Ay ?_);have h0:=BW hp he hf;exact Ay (Bq (AZ ((),()) h0 AV.nil sN))
 rintro⟨⟨⟩,⟨⟩⟩ hd;refine Ir ?_;replace hd:Ku =some r:=hd;unfold Ku at hd;refine Bo (Bb (Ah (wa Aa (Ap (Ar ?_)))));obtain rfl:=Av hd;exact As (BH Tryz.results21 (AQ Aa)) sN ⟨Aa,Aa⟩
theorem Zf (F:Nat)(a:(List Ae))(b:(List Ae))(r:Bool)(h:UI F a b=some r):Fn Tryz.prog GE 18 [AK 1 (Az eS a),AK 1 (Az eS b)] [] (λR H=>R=rB r∧H=[]):=by
 refine enter (n:=26) Tryz.func18 Aa Tryz.ntmps18 Aa (λw Z=>?_);unfold UI at h;refine Ah (wa Aa (Ap (Al (Ah (wm Aa (wv (By (ys:=a) (enc:=eS) CT Aa) (wm Aa (wv (By (ys:=b) (enc:=eS) CT Aa) (wv (CZ Aa Aa) (Ap (cz h Aa (λc1 h2=>?_) (λc1 h3=>?_))))))))))))
 ·refine Ah (wa Aa (Ap (Ar (Ac ?_))));obtain rfl:=Av h2;exact As (BH Tryz.results18 (AQ Aa)) sN ⟨Aa,Aa⟩
 refine A0 (Bb (Al (Ah (wa Aa (Ap (AH (ob h3 λhh hi hf=>BG (S:=Nat×(Int)×(Unit)) (V:=(Unit)×(Unit)) 0 (λσ=>Cl (λσ=>KQ a b σ) σ.1 σ.2.1=some hh) (λσ=>[(0,AK 1 (Az eS a)),(1,AK 1 (Az eS b)),(5,A2 σ.2.1)]) (λσ=>[]) (λσ=>σ.1) (F,0,()) hi (AV.c Aa (AV.c Aa (AV.c Aa AV.nil))) sN (λσ=>KP =some r) (λσ=>[]) (λσ=>[]) ?_ ?_)))))))
 ·rintro⟨h5,hg,⟨⟩⟩ hj;refine H6 ?_;obtain⟨hk,rfl,hl,hb,he⟩:=CD hj;replace hb:KQ a b hg=some hl:=hb;unfold KQ at hb;refine Al (Ah (wm Aa (wm Aa (wv (By (ys:=a) (enc:=eS) CT Aa) (wv (CP Aa Aa) (Ap (cz hb Aa (λhm hn=>?_) (λhm hp=>?_))))))))
  ·refine A0 (Bb (Al (AH (Al (ck hn λhq hr=>ck hr λhs ht=>CJ [0,1,5] ?_)))));refine rq (Aj Aa) (rq (Aj Aa) (rq (Bl (enc:=eS) (ys:=a) CT Dc Aa Aa hq) (rq (Bc DQ Aa Aa) (rq (Aj Aa) (rq (Aj Aa) (rq (Bl (enc:=eS) (ys:=b) CT Dc Aa Aa hs) (rq (Bc DQ Aa Aa) (rq (NQ Aa Aa) (re [25,0,1,5] ?_)))))))));refine Bb (cz ht Aa (λhu hw=>?_) (λhu hx=>?_))
   ·refine Ah (wa Aa (Ap (Ar (A8 (Ac (Ac (B7 ?_)))))));have hy:=Ca hw he hf;refine A8 (Ac ?_);obtain rfl:=Av hy;exact As (BH Tryz.results18 (AQ Aa)) sN ⟨Aa,Aa⟩
   refine A0 (AN (Bb (Ak (wm Aa (ck hx λhz h0=>wv (BM Aa Aa hz) (wa Aa (Aq ?_)))))));have h1:=B8 h0 he;exact A9 (AZ (hk,hg+1,()) ⟨h1,Aew _⟩ (AV.c Aa (AV.c Aa (AV.c Aa AV.nil))) sN)
  refine BE (Ay ?_);have h4:=BW hp he hf;exact Ay (Bq (AZ ((),()) h4 AV.nil sN))
 rintro⟨⟨⟩,⟨⟩⟩ hd;refine Ir ?_;replace hd:KP =some r:=hd;unfold KP at hd;refine Bo (Bb (Ah (wa Aa (Ap (Ar ?_)))));obtain rfl:=Av hd;exact As (BH Tryz.results18 (AQ Aa)) sN ⟨Aa,Aa⟩
theorem U3 (x:Ae)(r:Bool)(h:M5 x=some r):Fn Tryz.prog GE 125 [rS x] [] (λR H=>R=rB r∧H=[]):=by
 refine enter (n:=6) Tryz.func125 Aa Tryz.ntmps125 Aa (λw Z=>?_);unfold M5 at h;refine Ah (wa Aa (Bu (wm Aa (ob h λr1 e3 h2=>Cp Tryz.call126 (PD x r1 e3) Aa (wv (Cn Aa) (wa Aa (Ap (Ar ?_))))))));obtain rfl:=Av h2;exact As (BH Tryz.results125 (AQ Aa)) sN ⟨Aa,Aa⟩
theorem Xc (hb:Nat)(x:Ae)(s:Ae)(r:Bool)(h:O2 x s=some r):Fn Tryz.prog GE 127 [rS x,rP hb 0] [.blk hb [rS s] 9] (λR H=>R=rB r∧H=[.blk hb [rS s] 9]):=by
 refine enter (n:=7) Tryz.func127 Aa Tryz.ntmps127 Aa (λw Z=>?_);unfold O2 at h;refine Ah (wa Aa (Bu (wm Aa (vL 0 DQ Aa (ob h λr1 e3 h2=>Cp Tryz.call128 (UH x s r1 e3) Aa (wa Aa (Ap (Ar ?_))))))));obtain rfl:=Av h2;exact As (BH Tryz.results127 (AQ Aa)) (sC sN) ⟨Aa,Aa⟩
theorem AaI (F:Nat)(ys:(List Ae))(r:Int)(h:VQ F ys=some r):Fn Tryz.prog GE 173 [AK 1 (Az eS ys),rv (.func (.func 125) #[] #[])] [] (λR H=>R=A2 r∧H=[]):=by
 refine enter (n:=19) Tryz.func173 Aa Tryz.ntmps173 Aa (λw Z=>?_);unfold VQ at h;refine Ah (wa Aa (Ap (Al (Ah (wm Aa (wv (By (ys:=ys) (enc:=eS) CT Aa) (wv (r:=A2 0) (Aj Aa) (Ap (AH (ob h λhh hi hg=>BG (S:=Nat×(Int)×(Unit)) (V:=(Unit)×(Unit)) 0 (λσ=>Cl (λσ=>Ih ys σ) σ.1 σ.2.1=some hh) (λσ=>[(0,AK 1 (Az eS ys)),(1,rv (.func (.func 125) #[] #[])),(7,A2 (ys.length:Int)),(8,A2 σ.2.1)]) (λσ=>[]) (λσ=>σ.1) (F,0,()) hi (AV.c Aa (AV.c Aa (AV.c Aa (AV.c Aa AV.nil)))) sN (λσ=>Kr =some r) (λσ=>[]) (λσ=>[]) ?_ ?_))))))))))
 ·rintro⟨h4,hb,⟨⟩⟩ hj;refine H6 ?_;obtain⟨hk,rfl,hl,hd,hf⟩:=CD hj;replace hd:Ih ys hb=some hl:=hd;unfold Ih at hd;refine Ah (wv (CP Aa Aa) (Ap (Al (cz hd Aa (λhm hn=>?_) (λhm hp=>?_)))))
  ·refine A0 (Bb (Al (AH (Ah (wm Aa (wa Aa (Bu (wm Aa (wm Aa (wm Aa (ck hn λhq hr=>wv (Bl (enc:=eS) (ys:=ys) CT Dc Aa Aa hq) (wv (Bc DQ Aa Aa) (ob hr λhs ht hu=>GV (rs:=[rS (An ys hb)]) (Hin:=[]) (Hr:=[]) Tryz.call125 Aa Aa (Aet _) (U3 (An ys hb) hs ht) Aa ?_)))))))))))));rintro _ _ ⟨rfl,rfl⟩;refine Ap (cz hu Aa (λhw hx=>?_) (λhw hy=>?_))
   ·refine Ah (wm Aa (wa Aa (Ap (Ar (A8 (Ac (Ac (B7 ?_))))))));have hz:=Ca hx hf hg;refine A8 (Ac ?_);obtain rfl:=Av hz;exact As (BH Vg (AQ Aa)) sN ⟨Aa,Aa⟩
   refine A0 (AN (Bb (Ak (ck hy λh0 h1=>wv (BM Aa Aa h0) (wm Aa (Aq ?_))))));have h2:=B8 h1 hf;exact A9 (AZ (hk,hb+1,()) ⟨h2,Aew _⟩ (AV.c Aa (AV.c Aa (AV.c Aa (AV.c Aa AV.nil)))) sN)
  refine BE (Ay ?_);have h3:=BW hp hf hg;exact Ay (Bq (AZ ((),()) h3 AV.nil sN))
 rintro⟨⟨⟩,⟨⟩⟩ he;refine Ir ?_;replace he:Kr =some r:=he;unfold Kr at he;refine Bo (Bb (Ah (wv (r:=A2 (-1)) (A4 Aa) (Ap (Ar ?_)))));obtain rfl:=Av he;exact As (BH Vg (AQ Aa)) sN ⟨Aa,Aa⟩
theorem Zh (F:Nat)(ys:(List Ae))(r:Bool)(h:Nz F ys=some r):Fn Tryz.prog GE 124 [AK 1 (Az eS ys),rv (.func (.func 125) #[] #[])] [] (λR H=>R=rB r∧H=[]):=by
 refine enter (n:=9) Tryz.func124 Aa Tryz.ntmps124 Aa (λw Z=>?_);unfold Nz at h;refine Ah (wa Aa (Bu (wm Aa (wm Aa (ob h λr1 e3 h2=>Cp Tryz.call173 (AaI F ys r1 e3) Aa (wv (EL Aa Aa) (wa Aa (Ap (Ar ?_)))))))));obtain rfl:=Av h2;exact As (BH Tryz.results124 (AQ Aa)) sN ⟨Aa,Aa⟩
theorem YX (F:Nat)(hb:Nat)(ys:(List Ae))(s:Ae)(r:Int)(h:RJ F ys s=some r):Fn Tryz.prog GE 173 [AK 1 (Az eS ys),rv (.func (.func 127) #[] #[(.pointer (some ⟨hb,0,none⟩))])] [.blk hb [rS s] 9] (λR H=>R=A2 r∧H=[.blk hb [rS s] 9]):=by
 refine enter (n:=19) Tryz.func173 Aa Tryz.ntmps173 Aa (λw Z=>?_);unfold RJ at h;refine Ah (wa Aa (Ap (Al (Ah (wm Aa (wv (By (ys:=ys) (enc:=eS) CT Aa) (wv (r:=A2 0) (Aj Aa) (Ap (AH (ob h λhi hj hh=>BG (S:=Nat×(Int)×(Unit)) (V:=(Unit)×(Unit)) 0 (λσ=>Cl (λσ=>GI ys s σ) σ.1 σ.2.1=some hi) (λσ=>[(0,AK 1 (Az eS ys)),(1,rv (.func (.func 127) #[] #[(.pointer (some ⟨hb,0,none⟩))])),(7,A2 (ys.length:Int)),(8,A2 σ.2.1)]) (λσ=>[.blk hb [rS s] 9]) (λσ=>σ.1) (F,0,()) hj (AV.c Aa (AV.c Aa (AV.c Aa (AV.c Aa AV.nil)))) (sC sN) (λσ=>Jg =some r) (λσ=>[]) (λσ=>[.blk hb [rS s] 9]) ?_ ?_))))))))))
 ·rintro⟨h5,hd,⟨⟩⟩ hk;refine H6 ?_;obtain⟨hl,rfl,hm,he,hg⟩:=CD hk;replace he:GI ys s hd=some hm:=he;unfold GI at he;refine Ah (wv (CP Aa Aa) (Ap (Al (cz he Aa (λhn hp=>?_) (λhn hq=>?_)))))
  ·refine A0 (Bb (Al (AH (Ah (wm Aa (wa Aa (Bu (wm Aa (wm Aa (wm Aa (ck hp λhr hs=>wv (Bl (enc:=eS) (ys:=ys) CT Dc Aa Aa hr) (wv (Bc DQ Aa Aa) (ob hs λht hu hw=>GV (rs:=[rS (An ys hd)]) (Hin:=[.blk hb [rS s] 9]) (Hr:=[]) Tryz.call127 Aa Aa (Aet _) (Xc hb (An ys hd) s ht hu) Aa ?_)))))))))))));rintro _ _ ⟨rfl,rfl⟩;refine Ap (cz hw Aa (λhx hy=>?_) (λhx hz=>?_))
   ·refine Ah (wm Aa (wa Aa (Ap (Ar (A8 (Ac (Ac (B7 ?_))))))));have h0:=Ca hy hg hh;refine A8 (Ac ?_);obtain rfl:=Av h0;exact As (BH Vg (AQ Aa)) (sC sN) ⟨Aa,Aa⟩
   refine A0 (AN (Bb (Ak (ck hz λh1 h2=>wv (BM Aa Aa h1) (wm Aa (Aq ?_))))));have h3:=B8 h2 hg;exact A9 (AZ (hl,hd+1,()) ⟨h3,Aew _⟩ (AV.c Aa (AV.c Aa (AV.c Aa (AV.c Aa AV.nil)))) (sC sN))
  refine BE (Ay ?_);have h4:=BW hq hg hh;exact Ay (Bq (AZ ((),()) h4 AV.nil (sC sN)))
 rintro⟨⟨⟩,⟨⟩⟩ hf;refine Ir ?_;replace hf:Jg =some r:=hf;unfold Jg at hf;refine Bo (Bb (Ah (wv (r:=A2 (-1)) (A4 Aa) (Ap (Ar ?_)))));obtain rfl:=Av hf;exact As (BH Vg (AQ Aa)) (sC sN) ⟨Aa,Aa⟩
theorem Xv (F:Nat)(hb:Nat)(ys:(List Ae))(s:Ae)(r:Bool)(h:MG F ys s=some r):Fn Tryz.prog GE 124 [AK 1 (Az eS ys),rv (.func (.func 127) #[] #[(.pointer (some ⟨hb,0,none⟩))])] [.blk hb [rS s] 9] (λR H=>R=rB r∧H=[.blk hb [rS s] 9]):=by
 refine enter (n:=9) Tryz.func124 Aa Tryz.ntmps124 Aa (λw Z=>?_);unfold MG at h;refine Ah (wa Aa (Bu (wm Aa (wm Aa (ob h λr1 e3 h2=>EN [0] Tryz.call173 (YX F hb ys s r1 e3) ?_)))));rintro _ _ ⟨rfl,rfl⟩;refine wv (EL Aa Aa) (wa Aa (Ap (Ar ?_)));obtain rfl:=Av h2;exact As (BH Tryz.results124 (AQ Aa)) (sC sN) ⟨Aa,Aa⟩
theorem QM (F:Nat)(s:Ad)(r:Int)(h:EY F s=some r):Fn Tryz.prog GE 74 [B3 (Af s)] [] (λR H=>R=A2 r∧H=[]):=by
 refine enter (n:=37) Tryz.func74 Aa Tryz.ntmps74 Aa (λw Z=>?_);unfold EY at h;refine Ah (Cf Aa Aa (λb1=>?_));refine wa Aa (Bu (vF IO Aa D1 (vL 0 GF Aa (vF IO Aa D1 (vL 0 GF Aa (Bg (ys:=([s.fActions,s.fResources]:List (List Ae))) (enc:=IJ) (css:=[[AK 1 (Az eS s.fActions)],[AK 1 (Az eS s.fResources)]]) (xs:=[.tmp 9,.tmp 11]) Ss D1 Tryz.zeroValue22 Aa Aa Aa ⟨Ek.one Aa (Up.refl _),Ek.one Aa (Up.refl _),trivial⟩ Aa UR Aa Aa Aa (λb2=>?_)))))));refine wa Aa (Ap (Al (Ah (wm Aa (wv (CQ (ys:=([s.fActions,s.fResources]:List (List Ae))) (enc:=IJ) (i:=0) Ss Aa Aa) (wv (r:=A2 0) (Aj Aa) (Ap (AH (ob h λhq hr hl=>BG (S:=Nat×(Int)×(Unit)) (V:=(Unit)×(Unit)) 0 (λσ=>Cl (λσ=>Gf s σ) σ.1 σ.2.1=some hq) (λσ=>[(3,rv (.slice (some ⟨b2,0,none⟩) 2 2)),(13,rv (.slice (some ⟨b2,0,none⟩) 2 2)),(14,A2 (([s.fActions,s.fResources]:List (List Ae)).length:Int)),(15,A2 σ.2.1)]) (λσ=>[.row (.slice (some ⟨b2,0,none⟩) 2 2) 22 1 (Az IJ ([s.fActions,s.fResources]:List (List Ae)))]) (λσ=>σ.1) (F,0,()) hr (AV.c Aa (AV.c Aa (AV.c Aa (AV.c Aa AV.nil)))) (sC (sS sN)) (λσ=>HX F s =some r) (λσ=>[(3,rv (.slice (some ⟨b2,0,none⟩) 2 2))]) (λσ=>[.row (.slice (some ⟨b2,0,none⟩) 2 2) 22 1 (Az IJ ([s.fActions,s.fResources]:List (List Ae)))]) ?_ ?_)))))))))
 ·rintro⟨hU,hb,⟨⟩⟩ hs;refine H6 ?_;obtain⟨ht,rfl,hu,hf,hj⟩:=CD hs;replace hf:Gf s hb=some hu:=hf;unfold Gf at hf;refine Ah (wv (CP Aa Aa) (Ap (Al (cz hf Aa (λhw hx=>?_) (λhw hy=>?_)))))
  ·refine A0 (Bb (Al (AH (Ah (ck hx λhm hz=>wv (r:=rv (DW 1 (.slice (some ⟨b2,0,none⟩) 2 2) (Cc hb) 0)) (Dj (i:=0) Ss D1 Aa Aa Aa (B6 hm)) (wv (r:=AK 1 (Az eS (An ([s.fActions,s.fResources]:List (List Ae)) hb))) (E7 (enc:=IJ) (ys:=([s.fActions,s.fResources]:List (List Ae))) (i:=0) (j:=hb) GF Aa Aa hm Aa) (wa Aa (Ap (AC [(3,rv (.slice (some ⟨b2,0,none⟩) 2 2)),(13,rv (.slice (some ⟨b2,0,none⟩) 2 2)),(14,A2 (([s.fActions,s.fResources]:List (List Ae)).length:Int)),(15,A2 hb),(26,rB ((decide (((An ([s.fActions,s.fResources]:List (List Ae)) hb).length:Int)<1))||(decide (8<((An ([s.fActions,s.fResources]:List (List Ae)) hb).length:Int)))))] [.row (.slice (some ⟨b2,0,none⟩) 2 2) 22 1 (Az IJ ([s.fActions,s.fResources]:List (List Ae)))] ?_ ?_)))))))))
   ·refine Ak (wm Aa (wv (By (ys:=An ([s.fActions,s.fResources]:List (List Ae)) hb) (enc:=eS) CT Aa) (wv (CP Aa Aa) (wm Aa (Bd (decide (((An ([s.fActions,s.fResources]:List (List Ae)) hb).length:Int)<1)) (λhd=>?_) (λhd=>?_))))))
    ·refine wf hd (wf hd (wf hd (wv (r:=rB true) (AF Aa hd Aa) (Aq ?_))));exact Cy hd
    refine wo hd (wm Aa (wo hd (wv (By (ys:=An ([s.fActions,s.fResources]:List (List Ae)) hb) (enc:=eS) CT Aa) (wo hd (wv (Gy Aa Aa) (MY Aa hd Aa (Aq ?_)))))));exact Cy hd
   refine cz hz Aa (λh0 h1=>?_) (λh0 h2=>?_)
   ·refine Ah (wa Aa (Ap (Ar (A8 (Ac (Ac (B7 ?_)))))));have h3:=Ca h1 hj hl;refine A8 (Ac ?_);obtain rfl:=Av h3;exact As (BH Tryz.results74 (AQ Aa)) (sS sN) ⟨Aa,Aa⟩
   refine A0 (AN (Bb (Ak (ck h2 λh4 h5=>wv (BM Aa Aa h4) (wm Aa (Aq ?_))))));have h6:=B8 h5 hj;exact A9 (AZ (ht,hb+1,()) ⟨h6,Aew _⟩ (AV.c Aa (AV.c Aa (AV.c Aa (AV.c Aa AV.nil)))) (sC sN))
  refine BE (Ay ?_);have h7:=BW hy hj hl;exact Ay (Bq (AZ ((),()) h7 (AV.c Aa AV.nil) (sC sN)))
 rintro⟨⟨⟩,⟨⟩⟩ hg;refine Ir ?_;replace hg:HX F s =some r:=hg;unfold HX at hg;refine Bo (Bb (Al (Ah (wm Aa (wv (CQ (ys:=([s.fActions,s.fResources]:List (List Ae))) (enc:=IJ) (i:=0) Ss Aa Aa) (wv (r:=A2 0) (Aj Aa) (Ap (AH (ob hg λh8 h9 hn=>BG (S:=Nat×(Int)×(Unit)) (V:=(Unit)×(Unit)) 2 (λσ=>Cl (λσ=>Ge F s σ) σ.1 σ.2.1=some h8) (λσ=>[(28,rv (.slice (some ⟨b2,0,none⟩) 2 2)),(29,A2 (([s.fActions,s.fResources]:List (List Ae)).length:Int)),(30,A2 σ.2.1)]) (λσ=>[.row (.slice (some ⟨b2,0,none⟩) 2 2) 22 1 (Az IJ ([s.fActions,s.fResources]:List (List Ae)))]) (λσ=>σ.1) (F,0,()) h9 (AV.c Aa (AV.c Aa (AV.c Aa AV.nil))) (sC sN) (λσ=>HW =some r) (λσ=>[]) (λσ=>[]) ?_ ?_)))))))))
 ·rintro⟨hV,he,⟨⟩⟩ hA;refine H6 ?_;obtain⟨hB,rfl,hC,hh,hk⟩:=CD hA;replace hh:Ge F s he=some hC:=hh;unfold Ge at hh;refine Ah (wv (CP Aa Aa) (Ap (Al (cz hh Aa (λhD hE=>?_) (λhD hG=>?_)))))
  ·refine A0 (Bb (Al (AH (Ah (ck hE λhp hH=>wv (r:=rv (DW 1 (.slice (some ⟨b2,0,none⟩) 2 2) (Cc he) 0)) (Dj (i:=0) Ss D1 Aa Aa Aa (B6 hp)) (wv (r:=AK 1 (Az eS (An ([s.fActions,s.fResources]:List (List Ae)) he))) (E7 (enc:=IJ) (ys:=([s.fActions,s.fResources]:List (List Ae))) (i:=0) (j:=he) GF Aa Aa hp Aa) (wa Aa (Bu (wm Aa (ob hH λhI hJ hK=>Cp Tryz.call124 (Zh F (An ([s.fActions,s.fResources]:List (List Ae)) he) hI hJ) Aa (Ap (cz hK Aa (λhL hN=>?_) (λhL hO=>?_)))))))))))))
   ·refine Ah (wa Aa (Ap (Ar (A8 (Ac (Ac (B7 ?_)))))));have hP:=Ca hN hk hn;refine A8 (Ac ?_);obtain rfl:=Av hP;exact As (BH Tryz.results74 (AQ Aa)) (sS sN) ⟨Aa,Aa⟩
   refine A0 (AN (Bb (Ak (ck hO λhQ hR=>wv (BM Aa Aa hQ) (wm Aa (Aq ?_))))));have hS:=B8 hR hk;exact A9 (AZ (hB,he+1,()) ⟨hS,Aew _⟩ (AV.c Aa (AV.c Aa (AV.c Aa AV.nil))) (sC sN))
  refine BE (Ay ?_);have hT:=BW hG hk hn;exact Ay (Bq (AZ ((),()) hT AV.nil (sS sN)))
 rintro⟨⟨⟩,⟨⟩⟩ hi;refine Ir ?_;replace hi:HW =some r:=hi;unfold HW at hi;refine Bo (Bb (Ah (wa Aa (Ap (Ar ?_)))));obtain rfl:=Av hi;exact As (BH Tryz.results74 (AQ Aa)) sN ⟨Aa,Aa⟩
theorem ST (F:Nat)(l:(List Ae))(s:Ae)(r:Bool)(h:G2 F l s=some r):Fn Tryz.prog GE 75 [AK 1 (Az eS l),rS s] [] (λR H=>R=rB r∧H=[]):=by
 refine enter (n:=8) Tryz.func75 Aa Tryz.ntmps75 Aa (λw Z=>?_);unfold G2 at h;refine Ah (OK Aa (BP Aa) Aa (λb1=>?_));refine wa Aa (Bu (wm Aa (wv (r:=rv (.func (.func 127) #[] #[(.pointer (some ⟨b1,0,none⟩))])) (Ib Aa) (ob h λr2 e4 h3=>EN [0] Tryz.call124 (Xv F b1 l s r2 e4) ?_))));rintro _ _ ⟨rfl,rfl⟩;refine wa Aa (Ap (Ar ?_));obtain rfl:=Av h3;exact As (BH Tryz.results75 (AQ Aa)) (sS sN) ⟨Aa,Aa⟩
theorem Xd (F:Nat)(hd:Nat)(he:Nat)(hf:Nat)(x:Ad)(allow:Bool)(action:Ae)(resource:Ae)(r:Bool)(h:M4 F x allow action resource=some r):Fn Tryz.prog GE 73 [B3 (Af x),rP hd 0,rP he 0,rP hf 0] [.blk hd [rB allow] 4,.blk he [rS action] 9,.blk hf [rS resource] 9] (λR H=>R=rB r∧H=[.blk hd [rB allow] 4,.blk he [rS action] 9,.blk hf [rS resource] 9]):=by
 refine enter (n:=27) Tryz.func73 Aa Tryz.ntmps73 Aa (λw Z=>?_);unfold M4 at h;refine Ah (Cf Aa Aa (λb1=>?_));refine wa Aa (Ap (ck h λg2 h3=>ck h3 λg4 h5=>ck h5 λg6 h7=>AC [(5,rB ((x.fAllow ==allow)&&((decide ((ov (EY F x))=0))&&((ov (G2 F x.fActions action))&&(ov (G2 F x.fResources resource))))))] [.blk hd [rB allow] 4,.blk he [rS action] 9,.blk hf [rS resource] 9] ?_ ?_))
 ·refine Ak (vF IO Aa IP (vL 0 Qc Aa (vL 1 Qc Aa (wv (r:=rB (x.fAllow ==allow)) (Abw Tryz.underlying4 Aa Aa) (wm Aa (Bd (x.fAllow ==allow) (λc8=>?_) (λc8=>?_)))))))
  ·refine wo c8 (wv (Br (i:=0) Q7 G0 Aa Aa Aa Aa) (wo c8 (Cp Tryz.call74 (QM F x (ov (EY F x)) (CL (BX g2 c8))) Aa (wo c8 (wv (Ce Aa Aa) (GG Aa c8 Aa (wm Aa (Bd (decide ((ov (EY F x))=0)) (λc9=>?_) (λc9=>?_)))))))))
   ·refine wo c9 (vF IO Aa D1 (wo c9 (vL 0 GF Aa (wo c9 (vL 2 DQ Aa (wo c9 (Cp Tryz.call75 (ST F x.fActions action (ov (G2 F x.fActions action)) (CL (BX (BX g4 c8) c9))) Aa (GG Aa c9 Aa (wm Aa (Bd ((ov (G2 F x.fActions action))) (λhb=>?_) (λhb=>?_)))))))))))
    ·refine wo hb (vF IO Aa D1 (wo hb (vL 0 GF Aa (wo hb (vL 3 DQ Aa (wo hb (Cp Tryz.call75 (ST F x.fResources resource (ov (G2 F x.fResources resource)) (CL (BX (BX (BX g6 c8) c9) hb))) Aa (GG Aa hb Aa (wa Aa (Aq ?_))))))))));exact Cy (And.intro c8 (And.intro c9 hb))
    refine wf hb (wf hb (wf hb (wf hb (wv (r:=rB false) (A3 Aa hb Aa) (wa Aa (Aq ?_))))));exact Cy (And.intro c8 (And.intro c9 hb))
   refine wf c9 (wf c9 (wf c9 (wf c9 (wv (r:=rB false) (A3 Aa c9 Aa) (wm Aa (wz Aa Aa (wz Aa Aa (wz Aa Aa (wz Aa Aa (wv (r:=rB false) (A3 (b:=false) Aa Aa Aa) (wa Aa (Aq ?_))))))))))));exact Cy (And.intro c8 c9)
  refine wf c8 (wf c8 (wf c8 (wv (r:=rB false) (A3 Aa c8 Aa) (wm Aa (wz Aa Aa (wz Aa Aa (wz Aa Aa (wz Aa Aa (wv (r:=rB false) (A3 (b:=false) Aa Aa Aa) (wm Aa (wz Aa Aa (wz Aa Aa (wz Aa Aa (wz Aa Aa (wv (r:=rB false) (A3 (b:=false) Aa Aa Aa) (wa Aa (Aq ?_)))))))))))))))));exact Cy c8
 refine Ar ?_;obtain rfl:=Av h7;exact As (BH Tryz.results73 (AQ Aa)) (sC (sC (sC sN))) ⟨Aa,Aa⟩
theorem AaG (F:Nat)(hb:Nat)(hd:Nat)(he:Nat)(ys:(List Ad))(allow:Bool)(action:Ae)(resource:Ae)(r:Int)(h:Tz F ys allow action resource=some r):Fn Tryz.prog GE 72 [AK 3 (Az Af ys),rv (.func (.func 73) #[] #[(.pointer (some ⟨hb,0,none⟩)),(.pointer (some ⟨hd,0,none⟩)),(.pointer (some ⟨he,0,none⟩))])] [.blk hb [rB allow] 4,.blk hd [rS action] 9,.blk he [rS resource] 9] (λR H=>R=A2 r∧H=[.blk hb [rB allow] 4,.blk hd [rS action] 9,.blk he [rS resource] 9]):=by
 refine enter (n:=19) Tryz.func72 Aa Tryz.ntmps72 Aa (λw Z=>?_);unfold Tz at h;refine Ah (wa Aa (Ap (Al (Ah (wm Aa (wv (By (ys:=ys) (enc:=Af) JV Aa) (wv (r:=A2 0) (Aj Aa) (Ap (AH (ob h λhk hl hj=>BG (S:=Nat×(Int)×(Unit)) (V:=(Unit)×(Unit)) 0 (λσ=>Cl (λσ=>Ig F ys allow action resource σ) σ.1 σ.2.1=some hk) (λσ=>[(0,AK 3 (Az Af ys)),(1,rv (.func (.func 73) #[] #[(.pointer (some ⟨hb,0,none⟩)),(.pointer (some ⟨hd,0,none⟩)),(.pointer (some ⟨he,0,none⟩))])),(7,A2 (ys.length:Int)),(8,A2 σ.2.1)]) (λσ=>[.blk hb [rB allow] 4,.blk hd [rS action] 9,.blk he [rS resource] 9]) (λσ=>σ.1) (F,0,()) hl (AV.c Aa (AV.c Aa (AV.c Aa (AV.c Aa AV.nil)))) (sC (sC (sC sN))) (λσ=>Kq =some r) (λσ=>[]) (λσ=>[.blk hb [rB allow] 4,.blk hd [rS action] 9,.blk he [rS resource] 9]) ?_ ?_))))))))))
 ·rintro⟨h7,hf,⟨⟩⟩ hm;refine H6 ?_;obtain⟨hn,rfl,hp,hg,hi⟩:=CD hm;replace hg:Ig F ys allow action resource hf=some hp:=hg;unfold Ig at hg;refine Ah (wv (CP Aa Aa) (Ap (Al (cz hg Aa (λhq hr=>?_) (λhq hs=>?_)))))
  ·refine A0 (Bb (Al (AH (Ah (wm Aa (wa Aa (Bu (wm Aa (wm Aa (wm Aa (ck hr λht hu=>wv (Bl (enc:=Af) (ys:=ys) JV G0 Aa Aa ht) (wv (Do Q7 G0 Aa Aa Aa) (ob hu λhw hx hy=>GV (rs:=[B3 (Af (An ys hf))]) (Hin:=[.blk hb [rB allow] 4,.blk hd [rS action] 9,.blk he [rS resource] 9]) (Hr:=[]) Tryz.call73 Aa Aa (Aet _) (Xd F hb hd he (An ys hf) allow action resource hw hx) Aa ?_)))))))))))));rintro _ _ ⟨rfl,rfl⟩;refine Ap (cz hy Aa (λhz h0=>?_) (λhz h1=>?_))
   ·refine Ah (wm Aa (wa Aa (Ap (Ar (A8 (Ac (Ac (B7 ?_))))))));have h2:=Ca h0 hi hj;refine A8 (Ac ?_);obtain rfl:=Av h2;exact As (BH Tryz.results72 (AQ Aa)) (sC (sC (sC sN))) ⟨Aa,Aa⟩
   refine A0 (AN (Bb (Ak (ck h1 λh3 h4=>wv (BM Aa Aa h3) (wm Aa (Aq ?_))))));have h5:=B8 h4 hi;exact A9 (AZ (hn,hf+1,()) ⟨h5,Aew _⟩ (AV.c Aa (AV.c Aa (AV.c Aa (AV.c Aa AV.nil)))) (sC (sC (sC sN))))
  refine BE (Ay ?_);have h6:=BW hs hi hj;exact Ay (Bq (AZ ((),()) h6 AV.nil (sC (sC (sC sN)))))
 rintro⟨⟨⟩,⟨⟩⟩ hh;refine Ir ?_;replace hh:Kq =some r:=hh;unfold Kq at hh;refine Bo (Bb (Ah (wv (r:=A2 (-1)) (A4 Aa) (Ap (Ar ?_)))));obtain rfl:=Av hh;exact As (BH Tryz.results72 (AQ Aa)) (sC (sC (sC sN))) ⟨Aa,Aa⟩
theorem SV (F:Nat)(he:Nat)(hb:Nat)(hd:Nat)(allow:Bool)(l:(List Ad))(action:Ae)(resource:Ae)(r:Int)(h:Pp F allow l action resource=some r):Fn Tryz.prog GE 71 [rB allow,rP he 0,rP hb 0,rP hd 0] [.blk he [AK 3 (Az Af l)] 23,.blk hb [rS action] 9,.blk hd [rS resource] 9] (λR H=>R=A2 r∧H=[.blk he [AK 3 (Az Af l)] 23,.blk hb [rS action] 9,.blk hd [rS resource] 9]):=by
 refine enter (n:=9) Tryz.func71 Aa Tryz.ntmps71 Aa (λw Z=>?_);unfold Pp at h;refine Ah (OK Aa (BP Aa) Aa (λb1=>?_));refine wa Aa (Bu (vL 1 Oh Aa (wv (r:=rv (.func (.func 73) #[] #[(.pointer (some ⟨b1,0,none⟩)),(.pointer (some ⟨hb,0,none⟩)),(.pointer (some ⟨hd,0,none⟩))])) (Ib Aa) (ob h λr2 e4 h3=>EN [0,1,1] Tryz.call72 (AaG F b1 hb hd l allow action resource r2 e4) ?_))));rintro _ _ ⟨rfl,rfl⟩;refine wa Aa (Ap (Ar (JY [3,1,1] ?_)));obtain rfl:=Av h3;exact As (BH Tryz.results71 (AQ Aa)) (sC (sC (sC (sS sN)))) ⟨Aa,Aa⟩
theorem U1 (F:Nat)(l:(List Ad))(action:Ae)(resource:Ae)(r:C1)(h:Kc F l action resource=some r):Fn Tryz.prog GE 22 [AK 3 (Az Af l),rS action,rS resource] [] (λR H=>R=B3 (L0 r)∧H=[]):=by
 refine enter (n:=23) Tryz.func22 Aa Tryz.ntmps22 Aa (λw Z=>?_);unfold Kc at h;refine Ah (OK Aa (BP Aa) Aa (λb1=>?_));refine OK Aa (BP Aa) Aa (λb2=>?_);refine OK Aa (BP Aa) Aa (λb3=>?_);refine BO (cs:=[rB false,A2 0]) Tryz.zeroValue63 Aa Aa (λb4=>?_);refine Bu (wv (r:=rv (.func (.func 71) #[] #[(.pointer (some ⟨b1,0,none⟩)),(.pointer (some ⟨b2,0,none⟩)),(.pointer (some ⟨b3,0,none⟩))])) (Ib Aa) (wa Aa (Ap (Al (Ah (wm Aa (ob h λr5 e7 h6=>GV (rs:=[rB false]) (Hin:=[.blk b1 [AK 3 (Az Af l)] 23,.blk b2 [rS action] 9,.blk b3 [rS resource] 9]) (Hr:=[.blk b4 [rB false,A2 0] 63]) Tryz.call71 Aa Aa ((AO (i:=3) Aa).trans (Aer _ ((AO (i:=2) Aa).trans (Aer _ ((AO (i:=1) Aa).trans (Aer _ (Aet _))))))) (SV F b1 b2 b3 false l action resource r5 e7) Aa ?_)))))));rintro _ _ ⟨rfl,rfl⟩;refine wa Aa (Bu (wm Aa (wv (EL Aa Aa) (Ap (cz h6 Aa (λc8 h9=>?_) (λc8 hd=>?_))))))
 ·refine Ah (wm Aa (wv (r:=B3 [rB false,A2 r5]) (NS Aa Aa) (Gx (i:=3) Sv Aa Aa Aa (B5.c Aa) Aa Aa ?_)));refine Ap (Ar (Ac ?_));obtain rfl:=Av h9;exact As (BH Tryz.results22 (CV (i:=3) ZO Sv Aa Aa Aa)) (sS (sS (sS (sS sN)))) ⟨Aa,Aa⟩
 refine A0 (Bb (Ah (wm Aa (ob hd λhb he hf=>GV (rs:=[rB true]) (Hin:=[.blk b1 [AK 3 (Az Af l)] 23,.blk b2 [rS action] 9,.blk b3 [rS resource] 9]) (Hr:=[.blk b4 [rB false,A2 0] 63]) Tryz.call71 Aa Aa (Aet _) (SV F b1 b2 b3 true l action resource hb he) Aa ?_))));rintro _ _ ⟨rfl,rfl⟩;refine wa Aa (Bu (wm Aa (wv (EL Aa Aa) (wm Aa (wv (r:=B3 [rB (decide (0≤hb)),A2 hb]) (Lr Aa Aa Aa Aa) (Gx (i:=3) Sv Aa Aa Aa (B5.c Aa) Aa Aa ?_))))));refine Ap (Ar ?_);obtain rfl:=Av hf;exact As (BH Tryz.results22 (CV (i:=3) ZO Sv Aa Aa Aa)) (sS (sS (sS (sS sN)))) ⟨Aa,Aa⟩
theorem Kf (n:Int)(low:Int)(high:Int)(r:Bool)(h:D7 n low high=some r):Fn Tryz.prog GE 137 [A2 n,A2 low,A2 high] [] (λR H=>R=rB r∧H=[]):=by
 refine enter (n:=15) Tryz.func137 Aa Tryz.ntmps137 Aa (λw Z=>?_);unfold D7 at h;refine Ah (wa Aa (Ap (AC [(6,rB ((decide (low≤n))&&(decide (n≤high))))] [] ?_ ?_)))
 ·refine Ak (wm Aa (wm Aa (wv (EL Aa Aa) (wm Aa (Bd (decide (low≤n)) (λc1=>?_) (λc1=>?_))))))
  ·refine wo c1 (wm Aa (wo c1 (wm Aa (wo c1 (wv (JQ Aa Aa) (GG Aa c1 Aa (wa Aa (Aq ?_))))))));exact Cy c1
  refine wf c1 (wf c1 (wf c1 (wv (r:=rB false) (A3 Aa c1 Aa) (wa Aa (Aq ?_)))));exact Cy c1
 refine Ar ?_;obtain rfl:=Av h;exact As (BH Tryz.results137 (AQ Aa)) sN ⟨Aa,Aa⟩
theorem Py (bits:Int)(r:Int)(h:Ea bits=some r):Fn Tryz.prog GE 138 [A2 bits] [] (λR H=>R=A2 r∧H=[]):=by
 refine enter (n:=7) Tryz.func138 Aa Tryz.ntmps138 Aa (λw Z=>?_);unfold Ea at h;refine Ah (wa Aa (Bu (wm Aa (ck h λg1 h2=>wv (HZ Aa Aa g1) (ck h2 λg3 h4=>wv (r:=A2 (Hm .i64 1 (32-bits))) (VE Aa Aa g3) (ck h4 λg5 h6=>wv (HZ Aa Aa g5) (wa Aa (Ap (Ar ?_)))))))));obtain rfl:=Av h6;exact As (BH Tryz.results138 (AQ Aa)) sN ⟨Aa,Aa⟩
theorem KL (q:AG)(r:Int)(h:D8 q=some r):Fn Tryz.prog GE 86 [B3 (Ao q)] [] (λR H=>R=A2 r∧H=[]):=by
 refine enter (n:=34) Tryz.func86 Aa Tryz.ntmps86 Aa (λw Z=>?_);unfold D8 at h;refine Ah (Cf Aa Aa (λb1=>?_));refine wa Aa (Ap (Al (ck h λg2 h3=>ck h3 λg4 h5=>ck h5 λg6 h7=>ck h7 λg8 h9=>AC [(1,rP b1 0),(26,rB ((!(ov (D7 q.fAddr 0 4294967295)))||((!(ov (D7 q.fBits 0 32)))||((!(ov (D7 q.fLow 1 65535)))||(!(ov (D7 q.fHigh q.fLow 65535)))))))] [.blk b1 (Ao q) 111] ?_ ?_)))
 ·refine Ak (vF Hw Aa Ee (vL 0 Gn Aa (Cp NH (Kf q.fAddr 0 4294967295 (ov (D7 q.fAddr 0 4294967295)) (CL g2)) Aa (wv (Cn Aa) (wm Aa (Bd (!(ov (D7 q.fAddr 0 4294967295))) (λhb=>?_) (λhb=>?_)))))))
  ·refine wf hb (wf hb (wf hb (wf hb (wv (r:=rB true) (AF Aa hb Aa) (wm Aa (wz Aa Aa (wz Aa Aa (wz Aa Aa (wz Aa Aa (wv (r:=rB true) (AF (b:=true) Aa Aa Aa) (wm Aa (wz Aa Aa (wz Aa Aa (wz Aa Aa (wz Aa Aa (wz Aa Aa (wz Aa Aa (wv (r:=rB true) (AF (b:=true) Aa Aa Aa) (Aq ?_)))))))))))))))))));exact Cy hb
  refine wo hb (vF Hw Aa Ee (wo hb (vL 0 Gn Aa (wo hb (Cp NH (Kf q.fBits 0 32 (ov (D7 q.fBits 0 32)) (CL (H3 g4 hb))) Aa (wo hb (wv (Cn Aa) (MY Aa hb Aa (wm Aa (Bd (!(ov (D7 q.fBits 0 32))) (λhe=>?_) (λhe=>?_)))))))))))
  ·refine wf he (wf he (wf he (wf he (wv (r:=rB true) (AF Aa he Aa) (wm Aa (wz Aa Aa (wz Aa Aa (wz Aa Aa (wz Aa Aa (wz Aa Aa (wz Aa Aa (wv (r:=rB true) (AF (b:=true) Aa Aa Aa) (Aq ?_)))))))))))));exact Cy (And.intro hb he)
  refine wo he (vF Hw Aa Ee (wo he (vL 0 Gn Aa (wo he (Cp NH (Kf q.fLow 1 65535 (ov (D7 q.fLow 1 65535)) (CL (H3 (H3 g6 hb) he))) Aa (wo he (wv (Cn Aa) (MY Aa he Aa (wm Aa (Bd (!(ov (D7 q.fLow 1 65535))) (λhd=>?_) (λhd=>?_)))))))))))
  ·refine wf hd (wf hd (wf hd (wf hd (wf hd (wf hd (wv (r:=rB true) (AF Aa hd Aa) (Aq ?_)))))));exact Cy (And.intro hb (And.intro he hd))
  refine wo hd (vF Hw Aa Ee (wo hd (vL 0 Gn Aa (wo hd (vF Hw Aa Ee (wo hd (vL 0 Gn Aa (wo hd (Cp NH (Kf q.fHigh q.fLow 65535 (ov (D7 q.fHigh q.fLow 65535)) (CL (H3 (H3 (H3 g8 hb) he) hd))) Aa (wo hd (wv (Cn Aa) (MY Aa hd Aa (Aq ?_)))))))))))));exact Cy (And.intro hb (And.intro he hd))
 refine cz h9 Aa (λhg hh=>?_) (λhg hi=>?_)
 ·refine Ah (wa Aa (Ap (Ar (Ac ?_))));obtain rfl:=Av hh;exact As (BH Tryz.results86 (AQ Aa)) (sS sN) ⟨Aa,Aa⟩
 refine A0 (Bb (Al (Al (ob hi λhf hj hk=>CJ [1] ?_))));refine rq (Am Hw Aa Ee Aa Aa) (rq (AU (i:=0) Gn Aa Aa Aa) (rq (Am Hw Aa Ee Aa Aa) (rq (AU (i:=0) Gn Aa Aa Aa) (Eo (Cg Tryz.call138 (Py q.fBits hf hj) Aa) (rq (r:=A2 (Ze .i64 q.fAddr hf)) (AcV Aa Aa) (rq (CZ Aa Aa) (re [33] ?_)))))));refine Bb (cz hk Aa (λhl hm=>?_) (λhl hn=>?_))
 ·refine Ah (wa Aa (Ap (Ar (Ac ?_))));obtain rfl:=Av hm;exact As (BH Tryz.results86 (AQ Aa)) (sS sN) ⟨Aa,Aa⟩
 refine A0 (Bb (Ah (wa Aa (Ap (Ar ?_)))));obtain rfl:=Av hn;exact As (BH Tryz.results86 (AQ Aa)) (sS sN) ⟨Aa,Aa⟩
theorem AaF (s:Ae)(r:Int)(h:VP s=some r):Fn Tryz.prog GE 180 [rS s,rS ([46]:Ae)] [] (λR H=>R=A2 r∧H=[]):=by
 refine enter (n:=143) Tryz.func180 Aa Tryz.ntmps180 Aa (λw Z=>?_);unfold VP at h;refine Ah (wa Aa (Bu (wm Aa (wv (BS (p:=([46]:Ae)) DH Aa) (wa Aa (Ap (Al (AH (AC [(0,rS s),(1,rS ([46]:Ae)),(5,A2 1),(16,rB (decide (([46]:Ae)=s)))] [] ?_ ?_)))))))))
 ·refine Ak (wm Aa (wv (Ce Aa Aa) (wm Aa (Bf (b:=decide (1=0)) Aa Aa (by decide) (wm Aa (Bf (b:=decide (1=0)) Aa Aa (by decide) (wm Aa (Bf (b:=decide (1=0)) Aa Aa (by decide) (wv (C2 Aa Aa) (wv (r:=rB (decide (([46]:Ae)=s))) (A3 (b:=decide (1=0)) Aa (by decide) Aa) (wa Aa (Aq ?_))))))))))));exact wt
 refine cz h Aa (λc1 h2=>?_) (λc1 h3=>?_)
 ·refine Ah (wa Aa (Ap (Ar (A8 (Ac ?_)))));obtain rfl:=Av h2;exact As (BH Vf (AQ Aa)) sN ⟨Aa,Aa⟩
 refine Ah (wm Aa (wv (Ce Aa Aa) (wa Aa (Ap (CG Aa (by decide) (Ah (wm Aa (wm Aa (ck h3 λg4 h5=>wv (BZ DH Aa Aa g4) (Cq (rs:=[rS s,rI .u8 (Cw ([46]:Ae) 0)]) (r:=A2 (Lib.indexByte s (Cc (Cw ([46]:Ae) 0)).toUInt8)) Tryz.call207 Aa (Abx s (Cw ([46]:Ae) 0)) Aa Aa (wa Aa (Ap (Ar (A8 (Ac ?_)))))))))))))));obtain rfl:=Av h5;exact As (BH Vf (AQ Aa)) sN ⟨Aa,Aa⟩
theorem AaH (s:Ae)(r:Int)(h:T0 s=some r):Fn Tryz.prog GE 180 [rS s,rS ([58]:Ae)] [] (λR H=>R=A2 r∧H=[]):=by
 refine enter (n:=143) Tryz.func180 Aa Tryz.ntmps180 Aa (λw Z=>?_);unfold T0 at h;refine Ah (wa Aa (Bu (wm Aa (wv (BS (p:=([58]:Ae)) DH Aa) (wa Aa (Ap (Al (AH (AC [(0,rS s),(1,rS ([58]:Ae)),(5,A2 1),(16,rB (decide (([58]:Ae)=s)))] [] ?_ ?_)))))))))
 ·refine Ak (wm Aa (wv (Ce Aa Aa) (wm Aa (Bf (b:=decide (1=0)) Aa Aa (by decide) (wm Aa (Bf (b:=decide (1=0)) Aa Aa (by decide) (wm Aa (Bf (b:=decide (1=0)) Aa Aa (by decide) (wv (C2 Aa Aa) (wv (r:=rB (decide (([58]:Ae)=s))) (A3 (b:=decide (1=0)) Aa (by decide) Aa) (wa Aa (Aq ?_))))))))))));exact wt
 refine cz h Aa (λc1 h2=>?_) (λc1 h3=>?_)
 ·refine Ah (wa Aa (Ap (Ar (A8 (Ac ?_)))));obtain rfl:=Av h2;exact As (BH Vf (AQ Aa)) sN ⟨Aa,Aa⟩
 refine Ah (wm Aa (wv (Ce Aa Aa) (wa Aa (Ap (CG Aa (by decide) (Ah (wm Aa (wm Aa (ck h3 λg4 h5=>wv (BZ DH Aa Aa g4) (Cq (rs:=[rS s,rI .u8 (Cw ([58]:Ae) 0)]) (r:=A2 (Lib.indexByte s (Cc (Cw ([58]:Ae) 0)).toUInt8)) Tryz.call207 Aa (Abx s (Cw ([58]:Ae) 0)) Aa Aa (wa Aa (Ap (Ar (A8 (Ac ?_)))))))))))))));obtain rfl:=Av h5;exact As (BH Vf (AQ Aa)) sN ⟨Aa,Aa⟩
theorem Yt (s:Ae)(r:Int)(h:Ph s=some r):Fn Tryz.prog GE 206 [rS s,rS ([46]:Ae)] [] (λR H=>R=A2 r∧H=[]):=by
 refine enter (n:=8) Tryz.func206 Aa Tryz.ntmps206 Aa (λw Z=>?_);unfold Ph at h;refine Ah (wa Aa (Bu (wm Aa (wm Aa (ob h λr1 e3 h2=>Cp Tryz.call180 (AaF s r1 e3) Aa (wa Aa (Ap (Ar ?_))))))));obtain rfl:=Av h2;exact As (BH Tryz.results206 (AQ Aa)) sN ⟨Aa,Aa⟩
theorem UP (F:Nat)(s:Ae)(r:(List Ae))(h:MP F s=some r):Fn Tryz.prog GE 181 [rS s,rS ([46]:Ae),A2 0,A2 (-1)] [] (λR H=>∃u0:Value,R=rv u0∧H=[.row u0 9 1 (Az eS r)]):=by
 refine enter (n:=66) Tryz.func181 Aa Tryz.ntmps181 Aa (λw Z=>?_);unfold MP at h;refine Ah (wa Aa (Ap (Al (Ah (wm Aa (wv (Ce Aa Aa) (Ap (CS Aa (by decide) (A0 (Bb (Al (Ah (wm Aa (wv (C2 Aa Aa) (Ap (CS Aa (by decide) (A0 (Bb (Al (Ah (wm Aa (wv (CP Aa Aa) (Ap ?_)))))))))))))))))))))));refine CG Aa (by decide) (Ak (wm Aa (wm Aa (Cq (rs:=[rS s,rS ([46]:Ae)]) (r:=A2 (Lib.countByte s 46:Int)) Tryz.call179 Aa (RW s 46) Aa Aa (ck h λg1 h2=>wv (BM Aa Aa g1) (wa Aa (Bu (wm Aa (wm Aa (wv (BS DH Aa) (ck h2 λg3 h4=>wv (BM Aa Aa g3) (wv (r:=A2 (min ((Lib.countByte s 46:Int)+1) ((s.length:Int)+1))) (AcS yu3 Aa Aa) (wa Aa (Bu (wm Aa (ck h4 λg6 h7=>ck h7 λg8 h9=>Exists.elim NV λinf hinf=>ZV (enc:=eS) (zα:=([]:Ae)) (m:=min ((Lib.countByte s 46:Int)+1) ((s.length:Int)+1)) CT hinf.1 hinf.2.1 hinf.2.2.1 hinf.2.2.2 Aa Aa Aa (λ_=>Aa) Aa Aa g6 g8 Aa (λv5=>?_)))))))))))))))));refine wa Aa (Bu (wm Aa (ck h9 λhq hr=>wv (HZ Aa Aa hq) (wa Aa (Bu (wa Aa (Ap (Al (AH (ob hr λhs ht hm=>BG (S:=Nat×(Ae×Int×(List Ae))×(Unit)) (V:=(Ae×Int×(List Ae))×(Unit)) 0 (λσ=>Cl (λσ=>CW s σ.1 σ.2.1 σ.2.2) σ.1 σ.2.1=some hs) (λσ=>[(0,rS σ.2.1.1),(1,rS ([46]:Ae)),(2,A2 0),(3,A2 ((min ((Lib.countByte s 46:Int)+1) ((s.length:Int)+1))-1)),(9,rv v5),(10,A2 σ.2.1.2.1)]) (λσ=>[.row v5 9 1 (Az eS σ.2.1.2.2)]) (λσ=>σ.1) (F,(s,0,List.replicate (Cc (min ((Lib.countByte s 46:Int)+1) ((s.length:Int)+1))) ([]:Ae)),()) ht (AV.c Aa (AV.c5 Aa Aa Aa Aa Aa AV.nil)) (sC sN) (λσ=>DV σ.1.1 σ.1.2.1 σ.1.2.2=some r) (λσ=>[(0,rS σ.1.1),(9,rv v5),(10,A2 σ.1.2.1)]) (λσ=>[.row v5 9 1 (Az eS σ.1.2.2)]) ?_ ?_))))))))))
 ·rintro⟨ga,⟨hb,hd,he⟩,⟨⟩⟩ hu;refine H6 ?_;obtain⟨hw,rfl,t210,hf,hj⟩:=CD hu;replace hf:CW s hb hd he=some t210:=hf;unfold CW at hf;refine Al (Ah (wm Aa (wm Aa (wv (CP Aa Aa) (Ap (cz hf Aa (λhx hy=>?_) (λhx hz=>?_)))))))
  ·refine A0 (Bb (AH (Ah (wm Aa (wm Aa (ob hy λhg h0 h1=>Cp Tryz.call206 (Yt hb hg h0) Aa (wa Aa (Ap (Al (Ah (wm Aa (wv (CP Aa Aa) (Ap (cz h1 Aa (λh3 h5=>?_) (λh3 h6=>?_)))))))))))))))
   ·refine BE (Ay (OI Aa ?_));have h8:=BW h5 hj hm;exact Ay (Bq (AZ ((hb,hd,he),()) h8 (AV.c Aa (AV.c Aa (AV.c Aa AV.nil))) (sC sN)))
   refine A0 (Bb (Ah (wm Aa (wm Aa (wm Aa (wm Aa (wm Aa (ck h6 λhA hB=>wv (BM Aa Aa hA) (ck hB λhC hD=>wv (Ia DH Aa Aa hC) (ck hD λhn hE=>wv (r:=rv (DW 1 v5 (Cc hd) 0)) (Dj (i:=0) CT Dc Aa Aa Aa (B6 hn)) (Jx (enc:=eS) (ys:=he) (y':=List.take (Cc (hg+0)) hb) (i:=0) (j:=hd) Dc Aa Aa (BP Aa) Aa hn Aa Aa (H':=[.row v5 9 1 (Az eS (List.set he (Cc hd) (List.take (Cc (hg+0)) hb)))]) Aa (bd hE λhG hH hI=>?_))))))))))));rw[← hH];refine Bu (wm Aa (wm Aa (wm Aa (wv (BS (p:=([46]:Ae)) DH Aa) (ck hI λhJ hK=>wv (BM Aa Aa hJ) (ck hK λhL hN=>wv (Gg DH Aa Aa hL) (wa Aa (Ap (Ak (wm Aa (ck hN λhO hP=>wv (BM Aa Aa hO) (wa Aa (Aq (AN ?_))))))))))))));have hQ:=B8 hP hj;exact A9 (AZ (hw,(List.drop (Cc (hg+1)) hb,hd+1,hG),()) ⟨hQ,Aew _⟩ (AV.c Aa (AV.c5 Aa Aa Aa Aa Aa AV.nil)) (sC sN))
  refine BE (Ay ?_);have hR:=BW hz hj hm;exact Ay (Bq (AZ ((hb,hd,he),()) hR (AV.c Aa (AV.c Aa (AV.c Aa AV.nil))) (sC sN)))
 rintro⟨⟨hk,hh,hl⟩,⟨⟩⟩ hi;refine Ir ?_;replace hi:DV hk hh hl=some r:=hi;unfold DV at hi;refine Bo (Bb (Ah (wm Aa (wm Aa (wm Aa (ck hi λhp hS=>wv (r:=rv (DW 1 v5 (Cc hh) 0)) (Dj (i:=0) CT Dc Aa Aa Aa (B6 hp)) (Jx (enc:=eS) (ys:=hl) (y':=hk) (i:=0) (j:=hh) Dc Aa Aa (BP Aa) Aa hp Aa Aa (H':=[.row v5 9 1 (Az eS (List.set hl (Cc hh) hk))]) Aa (bd hS λgb hT hU=>?_))))))));rw[← hT];refine Bu (wm Aa (wm Aa (ck hU λhV hW=>wv (BM Aa Aa hV) (ck hW λhX hY=>Abq (i:=0) CT Dc Aa Aa Aa hX Aa (λhZ=>?_)))));refine wa Aa (Ap (Ar ?_));obtain rfl:=Av hY;exact As (BH Tryz.results181 (AQ Aa)) (sC sN) ⟨hZ,Aa,Aa⟩
theorem Ys (F:Nat)(s:Ae)(r:(List Ae))(h:Pg F s=some r):Fn Tryz.prog GE 145 [rS s,rS ([46]:Ae)] [] (λR H=>∃u0:Value,R=rv u0∧H=[.row u0 9 1 (Az eS r)]):=by
 refine enter (n:=8) Tryz.func145 Aa Tryz.ntmps145 Aa (λw Z=>?_);unfold Pg at h;refine Ah (wa Aa (Bu (wm Aa (wm Aa (ob h λr1 e3 h2=>EN [] Tryz.call181 (UP F s r1 e3) ?_)))));rintro _ _ ⟨v4,rfl,rfl⟩;refine wa Aa (Ap (Ar ?_));obtain rfl:=Av h2;exact As (BH Tryz.results145 (AQ Aa)) (sC sN) ⟨v4,Aa,Aa⟩
theorem Aae (s:Ae)(r:Ae×Ae×Bool)(h:Vv s=some r):Fn Tryz.prog GE 144 [rS s,rS ([58]:Ae)] [] (λR H=>R=Dr [rS r.1,rS r.2.1,rB r.2.2]∧H=[]):=by
 refine enter (n:=23) Tryz.func144 Aa Tryz.ntmps144 Aa (λw Z=>?_);unfold Vv at h;refine Ah (wv (r:=rS ([]:Ae)) (A4 Aa) (wv (r:=rS ([]:Ae)) (A4 Aa) (wa Aa (Ap (Al (Ah (wm Aa (wm Aa (ob h λr1 e3 h2=>Cp Tryz.call180 (AaH s r1 e3) Aa (wa Aa (Bu (wm Aa (wv (EL Aa Aa) (Ap (cz h2 Aa (λc4 h5=>?_) (λc4 hb=>?_))))))))))))))))
 ·refine Al (ck h5 λg6 h7=>ck h7 λg8 h9=>ck h9 λhd he=>CJ [0,1,7] ?_);refine rq (Aj Aa) (rq (Aj Aa) (rq (Ia DH Aa Aa g6) (rq (Aj Aa) (rq (Aj Aa) (rq (Aj Aa) (rq (BS (p:=([58]:Ae)) DH Aa) (rq (BM Aa Aa g8) (rq (Gg DH Aa Aa hd) (rq (A4 Aa) (rq (A4 Aa) (rq (r:=rB true) (A4 Aa) (re [4,5,6] ?_))))))))))));refine Bb (Ar (Ac ?_));obtain rfl:=Av he;exact As (V1 Tryz.results144 (AQ Aa) (AQ Aa) (AQ Aa)) sN ⟨Aa,Aa⟩
 refine A0 (Bb (Ah (wm Aa (wa Aa (wv (r:=rS ([]:Ae)) (A4 Aa) (wa Aa (Ap (Ar ?_))))))));obtain rfl:=Av hb;exact As (V1 Tryz.results144 (AQ Aa) (AQ Aa) (AQ Aa)) sN ⟨Aa,Aa⟩
theorem AbE (s:Ae)(r:Ae×Ae×Bool)(h:Yu s=some r):Fn Tryz.prog GE 96 [rS s,rS ([58]:Ae)] [] (λR H=>R=Dr [rS r.1,rS r.2.1,rB r.2.2]∧H=[]):=by
 refine enter (n:=13) Tryz.func96 Aa Tryz.ntmps96 Aa (λw Z=>?_);unfold Yu at h;refine Ah (wv (r:=rS ([]:Ae)) (A4 Aa) (wv (r:=rS ([]:Ae)) (A4 Aa) (wa Aa (Bu (wm Aa (wm Aa (ob h λr1 e3 h2=>Cp Tryz.call144 (Aae s r1 e3) Aa (wv (A5 Aa Aa) (wv (A5 Aa Aa) (wv (A5 Aa Aa) (wa Aa (wa Aa (wa Aa (Ap (Ar ?_)))))))))))))));obtain rfl:=Av h2;exact As (V1 Tryz.results96 (AQ Aa) (AQ Aa) (AQ Aa)) sN ⟨Aa,Aa⟩
theorem Tj (F:Nat)(s:Ae)(r:Int×Int)(h:Je F s=some r):Fn Tryz.prog GE 97 [rS s] [] (λR H=>R=Dr [A2 r.1,A2 r.2]∧H=[]):=by
 refine enter (n:=50) Tryz.func97 Aa Tryz.ntmps97 Aa (λw Z=>?_);unfold Je at h;refine Ah (wa Aa (wa Aa (Bu (wm Aa (ob h λr1 e3 h2=>EN [] Tryz.call145 (Ys F s r1 e3) ?_)))));rintro _ _ ⟨v4,rfl,rfl⟩;refine wa Aa (Ap (Al (Ah (wm Aa (wv (CQ (ys:=r1) (enc:=eS) (i:=0) CT Aa Aa) (wv (CZ Aa Aa) (Ap (cz h2 Aa (λc5 h6=>?_) (λc5 h7=>?_)))))))))
 ·refine Ah (wa Aa (wa Aa (Ap (Ar (Ac ?_)))));obtain rfl:=Av h6;exact As (Iy Tryz.results97 (AQ Aa) (AQ Aa)) (sS sN) ⟨Aa,Aa⟩
 refine A0 (Bb (Ah (BO (cs:=Az (rI .i64) (List.replicate 4 (0:Int))) Tryz.zeroValue195 (by kernel_rfl) Aa (λb8=>?_))));refine Ap (Al (Ah (wv (r:=A2 0) (Aj Aa) (Ap (AH (ob h7 λhl hm hj=>BG (S:=Nat×(Int×(List Int))×(Unit)) (V:=((List Int))×(Unit)) 0 (λσ=>Cl (λσ=>D9 r1 σ.1 σ.2) σ.1 σ.2.1=some hl) (λσ=>[(4,rv v4),(5,rP b8 0),(14,A2 σ.2.1.1)]) (λσ=>[.blk b8 (Az (rI .i64) σ.2.1.2) 195,.row v4 9 1 (Az eS r1)]) (λσ=>σ.1) (F,(0,List.replicate 4 (0:Int)),()) hm (AV.c Aa (AV.c Aa (AV.c Aa AV.nil))) (sC (sC sN)) (λσ=>EG σ.1=some r) (λσ=>[(5,rP b8 0)]) (λσ=>[.blk b8 (Az (rI .i64) σ.1) 195]) ?_ ?_))))))
 ·rintro⟨hW,⟨hb,hf⟩,⟨⟩⟩ hn;refine H6 ?_;obtain⟨hp,rfl,hq,hg,hi⟩:=CD hn;replace hg:D9 r1 hb hf=some hq:=hg;unfold D9 at hg;refine Ah (wv (CP Aa Aa) (Ap (Al (cz hg Aa (λc75 hr=>?_) (λc75 hs=>?_)))))
  ·refine A0 (Bb (Al (AH (Ah (wm Aa (wa Aa (Bu (wm Aa (wm Aa (ck hr λhk ht=>wv (r:=rv (DW 1 v4 (Cc hb) 0)) (Dj (i:=1) CT Dc Aa Aa Aa (B6 hk)) (wv (r:=rS (An r1 hb)) (E7 (enc:=eS) (ys:=r1) (i:=1) (j:=hb) DQ Aa Aa hk Aa) (ck ht λhu hw=>Cq (rs:=[rS (An r1 hb)]) (r:=Dr [A2 (C7 (An r1 hb)),A2 (Ep (An r1 hb))]) Tryz.call98 Aa (V6 (An r1 hb) hu) Aa Aa (wm Aa (wv (A5 Aa Aa) (wv (A5 Aa Aa) (wa Aa (wa Aa (Ap (Al (ck hw λhx hy=>AC [(4,rv v4),(5,rP b8 0),(6,A2 hb),(7,A2 (C7 (An r1 hb))),(14,A2 hb),(31,rB ((!decide ((Ep (An r1 hb))=0))||(!(ov (D7 (C7 (An r1 hb)) 0 255)))))] [.blk b8 (Az (rI .i64) hf) 195,.row v4 9 1 (Az eS r1)] ?_ ?_))))))))))))))))))))
   ·refine Ak (wm Aa (wv (CZ Aa Aa) (wm Aa (Bd (!decide ((Ep (An r1 hb))=0)) (λhe=>?_) (λhe=>?_)))))
    ·refine wf he (wf he (wf he (wv (r:=rB true) (AF Aa he Aa) (Aq ?_))));exact Cy he
    refine wo he (wm Aa (wo he (Cp NH (Kf (C7 (An r1 hb)) 0 255 (ov (D7 (C7 (An r1 hb)) 0 255)) (CL (H3 hx he))) Aa (wo he (wv (Cn Aa) (MY Aa he Aa (Aq ?_)))))));exact Cy he
   refine cz hy Aa (λhz h0=>?_) (λhz h1=>?_)
   ·refine Ah (wa Aa (wa Aa (Ap (Ar (Ac (A8 (Ac (Ac (B7 ?_)))))))));have h3:=Ca h0 hi hj;refine A8 (Ac ?_);obtain rfl:=Av h3;exact As (Iy Tryz.results97 (AQ Aa) (AQ Aa)) (sS (sS sN)) ⟨Aa,Aa⟩
   refine A0 (Bb (Ak (wm Aa (wm Aa (ck h1 λh4 h5=>wv (r:=rv (.pointer (some ⟨b8,Cc hb,none⟩))) (Px Sr Ee Aa Aa h4) (ck h5 λh8 h9=>WG (enc:=(rI .i64)) (ys:=hf) (v:=C7 (An r1 hb)) (i:=0) Ee Aa Aa (BP Aa) Aa h8 (H':=[.blk b8 (Az (rI .i64) (List.set hf (Cc hb) (C7 (An r1 hb)))) 195,.row v4 9 1 (Az eS r1)]) Aa (Aq (AN (Bb (Ak (ck h9 λhA hB=>wv (BM Aa Aa hA) (wm Aa (Aq ?_)))))))))))));have hC:=B8 hB hi;exact A9 (AZ (hp,(hb+1,List.set hf (Cc hb) (C7 (An r1 hb))),()) ⟨hC,Aew _⟩ (AV.c Aa (AV.c Aa (AV.c Aa AV.nil))) (sC (sC sN)))
  refine BE (Ay ?_);have hD:=BW hs hi hj;exact Ay (Bq (AZ (hf,()) hD (AV.c Aa AV.nil) (sC (sS sN))))
 rintro⟨hd,⟨⟩⟩ hh;refine Ir ?_;replace hh:EG hd=some r:=hh;unfold EG at hh;refine Bo (Bb (Ah (ck hh λhE hG=>wv (r:=rv (.pointer (some ⟨b8,Cc 0,none⟩))) (Px Sr Ee Aa Aa hE) (ck hG λhH hI=>wv (r:=A2 (An hd 0)) (M8 (enc:=(rI .i64)) (ys:=hd) (i:=0) Gn Aa Aa hH) (wv (r:=A2 (Hm .i64 (An hd 0) 24)) (VE Aa Aa (by decide)) (ck hI λhJ hK=>wv (r:=rv (.pointer (some ⟨b8,Cc 1,none⟩))) (Px Sr Ee Aa Aa hJ) (ck hK λhL hN=>wv (r:=A2 (An hd 1)) (M8 (enc:=(rI .i64)) (ys:=hd) (i:=0) Gn Aa Aa hL) (wv (r:=A2 (Hm .i64 (An hd 1) 16)) (VE Aa Aa (by decide)) (wv (r:=A2 (Ud .i64 (Hm .i64 (An hd 0) 24) (Hm .i64 (An hd 1) 16))) (AbR Aa Aa) (ck hN λhO hP=>wv (r:=rv (.pointer (some ⟨b8,Cc 2,none⟩))) (Px Sr Ee Aa Aa hO) (ck hP λhQ hR=>wv (r:=A2 (An hd 2)) (M8 (enc:=(rI .i64)) (ys:=hd) (i:=0) Gn Aa Aa hQ) (wv (r:=A2 (Hm .i64 (An hd 2) 8)) (VE Aa Aa (by decide)) (wv (r:=A2 (Ud .i64 (Ud .i64 (Hm .i64 (An hd 0) 24) (Hm .i64 (An hd 1) 16)) (Hm .i64 (An hd 2) 8))) (AbR Aa Aa) (ck hR λhS hT=>wv (r:=rv (.pointer (some ⟨b8,Cc 3,none⟩))) (Px Sr Ee Aa Aa hS) (ck hT λhU hV=>wv (r:=A2 (An hd 3)) (M8 (enc:=(rI .i64)) (ys:=hd) (i:=0) Gn Aa Aa hU) ?_)))))))))))))));refine wv (r:=A2 (Ud .i64 (Ud .i64 (Ud .i64 (Hm .i64 (An hd 0) 24) (Hm .i64 (An hd 1) 16)) (Hm .i64 (An hd 2) 8)) (An hd 3))) (AbR Aa Aa) (wa Aa (wa Aa (Ap (Ar ?_))));obtain rfl:=Av hV;exact As (Iy Tryz.results97 (AQ Aa) (AQ Aa)) (sS sN) ⟨Aa,Aa⟩
theorem Th (q:AG)(addr:Int)(port:Int)(r:Bool)(h:Jd q addr port=some r):Fn Tryz.prog GE 99 [B3 (Ao q),A2 addr,A2 port] [] (λR H=>R=rB r∧H=[]):=by
 refine enter (n:=30) Tryz.func99 Aa Tryz.ntmps99 Aa (λw Z=>?_);unfold Jd at h;refine Ah (Cf Aa Aa (λb1=>?_));refine wa Aa (Ap (ck h λg2 h3=>ck h3 λg4 h5=>ck h5 λg6 h7=>ck h7 λg8 h9=>ck h9 λhe hf=>AC [(6,rB ((decide ((ov (D8 q))=0))&&((ov (D7 addr q.fAddr (q.fAddr+(ov (Ea q.fBits)))))&&(ov (D7 port q.fLow q.fHigh)))))] [] ?_ ?_))
 ·refine Bd (decide ((ov (D8 q))=0)) (λhb=>?_) (λhb=>?_)
  ·refine Bd ((ov (D7 addr q.fAddr (q.fAddr+(ov (Ea q.fBits)))))) (λhd=>?_) (λhd=>?_)
   ·refine CJ [1,2,3] ?_;refine rq (Br (i:=0) OH JD Aa Aa Aa Aa) (Eo (Cg Tryz.call86 (KL q (ov (D8 q)) (CL g2)) Aa) (rq (Ce Aa Aa) (rq (Aj Aa) (rg hb (Aj Aa) (rg hb (Am Hw Aa Ee Aa Aa) (rg hb (AU (i:=0) Gn Aa Aa Aa) (rg hb (Am Hw Aa Ee Aa Aa) (rg hb (AU (i:=0) Gn Aa Aa Aa) (rg hb (Am Hw Aa Ee Aa Aa) (rg hb (AU (i:=0) Gn Aa Aa Aa) (ro hb (Cg Tryz.call138 (Py q.fBits (ov (Ea q.fBits)) (CL (BX g4 hb))) Aa) (rg hb (BM Aa Aa (BX g6 hb)) (ro hb (Cg NH (Kf addr q.fAddr (q.fAddr+(ov (Ea q.fBits))) (ov (D7 addr q.fAddr (q.fAddr+(ov (Ea q.fBits))))) (CL (BX g8 hb))) Aa) (rq (AF Aa hb Aa) (rq (Aj Aa) (rg hd (Aj Aa) (rg hd (Am Hw Aa Ee Aa Aa) (rg hd (AU (i:=0) Gn Aa Aa Aa) (rg hd (Am Hw Aa Ee Aa Aa) (rg hd (AU (i:=0) Gn Aa Aa Aa) (ro hd (Cg NH (Kf port q.fLow q.fHigh (ov (D7 port q.fLow q.fHigh)) (CL (BX (BX he hb) hd))) Aa) (rq (AF Aa hd Aa) (rq (A4 Aa) ?_)))))))))))))))))))))));refine re [6] ?_;exact Cy (And.intro hb hd)
   refine CJ [1,2,3] ?_;refine rq (Br (i:=0) OH JD Aa Aa Aa Aa) (Eo (Cg Tryz.call86 (KL q (ov (D8 q)) (CL g2)) Aa) (rq (Ce Aa Aa) (rq (Aj Aa) (rg hb (Aj Aa) (rg hb (Am Hw Aa Ee Aa Aa) (rg hb (AU (i:=0) Gn Aa Aa Aa) (rg hb (Am Hw Aa Ee Aa Aa) (rg hb (AU (i:=0) Gn Aa Aa Aa) (rg hb (Am Hw Aa Ee Aa Aa) (rg hb (AU (i:=0) Gn Aa Aa Aa) (ro hb (Cg Tryz.call138 (Py q.fBits (ov (Ea q.fBits)) (CL (BX g4 hb))) Aa) (rg hb (BM Aa Aa (BX g6 hb)) (ro hb (Cg NH (Kf addr q.fAddr (q.fAddr+(ov (Ea q.fBits))) (ov (D7 addr q.fAddr (q.fAddr+(ov (Ea q.fBits))))) (CL (BX g8 hb))) Aa) (rq (AF Aa hb Aa) (rq (Aj Aa) (rz hd (rz hd (rz hd (rz hd (rz hd (rz hd (rq (r:=rB false) (A3 (b:=(ov (D7 addr q.fAddr (q.fAddr+(ov (Ea q.fBits)))))) Aa hd Aa) (rq (A4 Aa) ?_)))))))))))))))))))))));refine re [6] ?_;exact Cy (And.intro hb hd)
  refine CJ [1,2,3] ?_;refine rq (Br (i:=0) OH JD Aa Aa Aa Aa) (Eo (Cg Tryz.call86 (KL q (ov (D8 q)) (CL g2)) Aa) (rq (Ce Aa Aa) (rq (Aj Aa) (rz hb (rz hb (rz hb (rz hb (rz hb (rz hb (rz hb (rz hb (rz hb (rz hb (rq (r:=rB false) (A3 (b:=decide ((ov (D8 q))=0)) Aa hb Aa) (rq (Aj Aa) (rz Aa (rz Aa (rz Aa (rz Aa (rz Aa (rz Aa (rq (r:=rB false) (A3 (b:=false) Aa Aa Aa) (rq (A4 Aa) ?_)))))))))))))))))))))));refine re [6] ?_;exact Cy hb
 refine Ar ?_;obtain rfl:=Av hf;exact As (BH Tryz.results99 (AQ Aa)) sN ⟨Aa,Aa⟩
theorem Pz (F:Nat)(l:(List AG))(addr:Int)(port:Int)(r:C1)(h:Hj F l addr port=some r):Fn Tryz.prog GE 39 [AK 5 (Az Ao l),A2 addr,A2 port] [] (λR H=>R=B3 (L0 r)∧H=[]):=by
 refine enter (n:=26) Tryz.func39 Aa Tryz.ntmps39 Aa (λw Z=>?_);unfold Hj at h;refine Ah (BO (cs:=[rB false,A2 0]) Tryz.zeroValue63 Aa Aa (λb1=>?_));refine Ap (Al (Ah (wm Aa (wv (By (ys:=l) (enc:=Ao) Sq Aa) (wv (r:=A2 0) (Aj Aa) (Ap (AH (ob h λhh hi hg=>BG (S:=Nat×(Int)×(Unit)) (V:=(Unit)×(Unit)) 0 (λσ=>Cl (λσ=>E8 l addr port σ) σ.1 σ.2.1=some hh) (λσ=>[(1,A2 addr),(2,A2 port),(6,rP b1 0),(9,AK 5 (Az Ao l)),(10,A2 (l.length:Int)),(11,A2 σ.2.1)]) (λσ=>[.blk b1 [rB false,A2 0] 63]) (λσ=>σ.1) (F,0,()) hi (AV.c Aa (AV.c5 Aa Aa Aa Aa Aa AV.nil)) (sC sN) (λσ=>I0 =some r) (λσ=>[(6,rP b1 0)]) (λσ=>[.blk b1 [rB false,A2 0] 63]) ?_ ?_))))))))
 ·rintro⟨h3,hb,⟨⟩⟩ hj;refine H6 ?_;obtain⟨hk,rfl,hl,hd,hf⟩:=CD hj;replace hd:E8 l addr port hb=some hl:=hd;unfold E8 at hd;refine Ah (wv (CP Aa Aa) (Ap (Al (cz hd Aa (λc53 hm=>?_) (λc53 hn=>?_)))))
  ·refine A0 (Bb (Al (AH (Ah (wm Aa (ck hm λhp hq=>wv (Bl (enc:=Ao) (ys:=l) Sq JD Aa Aa hp) (wv (Do OH JD Aa Aa Aa) (BO (cs:=[rB false,A2 0,A2 0,A2 0,A2 0]) Tryz.zeroValue111 Aa Aa (λh4=>?_)))))))));refine wa Aa (Gx (i:=0) JD Aa Aa Aa (B5.c Aa) Aa Aa ?_);refine Bu (wv (Br (i:=0) OH JD Aa Aa Aa Aa) (wm Aa (wm Aa (ob hq λhr hs ht=>Cp Tryz.call99 (Th (An l hb) addr port hr hs) Aa (Ap (cz ht Aa (λhu hw=>?_) (λhu hx=>?_)))))))
   ·refine Ah (vF Hw Aa IP (vL 0 Qc Aa (wm Aa (wv (r:=B3 [rB ((An l hb).fAllow),A2 hb]) (Lr Aa Aa Aa Aa) (Gx (i:=1) Sv Aa Aa Aa (B5.c Aa) Aa Aa ?_)))));refine Ap (Ar (A8 (Ac (Ac (B7 ?_)))));have hy:=Ca hw hf hg;refine A8 (Ac ?_);obtain rfl:=Av hy;exact As (BH Tryz.results39 (CV (i:=1) ZO Sv Aa Aa Aa)) (sS (sS sN)) ⟨Aa,Aa⟩
   refine A0 (AN (Bb (Ak (ck hx λhz h0=>wv (BM Aa Aa hz) (wm Aa (Aq ?_))))));have h1:=B8 h0 hf;exact A9 (AZ (hk,hb+1,()) ⟨h1,Aew _⟩ (AV.c Aa (AV.c5 Aa Aa Aa Aa Aa AV.nil)) (sS (sC sN)))
  refine BE (Ay ?_);have h2:=BW hn hf hg;exact Ay (Bq (AZ ((),()) h2 (AV.c Aa AV.nil) (sC sN)))
 rintro⟨⟨⟩,⟨⟩⟩ he;refine Ir ?_;replace he:I0 =some r:=he;unfold I0 at he;refine Bo (Bb (Ah (wv (r:=B3 [rB false,A2 (-1)]) (NS Aa Aa) (Gx (i:=0) Sv Aa Aa Aa (B5.c Aa) Aa Aa ?_))));refine Ap (Ar ?_);obtain rfl:=Av he;exact As (BH Tryz.results39 (CV (i:=0) ZO Sv Aa Aa Aa)) (sS sN) ⟨Aa,Aa⟩
end Go.Proofs.YtmjlemhondjfhaaGreatDoor.Q
namespace Go.Proofs.YtmjlemhondjfhaaGreatDoor
open Go
set_option linter.unusedVariables false
structure A7 where
 fOp:Ae
 fArgs:(List (List Ab))
 deriving DecidableEq,Inhabited
structure AR where
 fTenant:Ae
 fFunction:Ae
 fOps:(List Ae)
 fPolicy:(List Ad)
 fNet:(List AG)
 fNow:Int
 deriving DecidableEq,Inhabited
structure Bt where
 fKey:Ae
 fValue:(List Ab)
 fVersion:Int
 deriving DecidableEq,Inhabited
end Go.Proofs.YtmjlemhondjfhaaGreatDoor
namespace Go.Proofs.YtmjlemhondjfhaaGreatDoor.Q
open Go Go.RowKit
set_option linter.unusedVariables false
set_option linter.unusedSimpArgs false
set_option maxRecDepth 100000
set_option maxHeartbeats 4000000
@[reducible] def AL (x:(List Ab)):List Rp:=[AK 4 (Az Ai x)]
theorem BU (x:(List Ab)):(AL x).length=1:=rfl
@[reducible] def AP (x:A7):List Rp:=[rS x.fOp,AK 1 (Az AL x.fArgs)]
theorem N3 (x:A7):(AP x).length=2:=rfl
@[reducible] def BF (x:AR):List Rp:=[rS x.fTenant,rS x.fFunction,AK 1 (Az eS x.fOps),AK 3 (Az Af x.fPolicy),AK 5 (Az Ao x.fNet),A2 x.fNow]
@[reducible] def BA (x:Bt):List Rp:=[rS x.fKey,AK 4 (Az Ai x.fValue),A2 x.fVersion]
theorem Lz (x:Bt):(BA x).length=3:=rfl
theorem Acg:∃inf,Tryz.prog.info? 70=some inf∧inf.zero=some (.agg #[(.int .i64 0),(.int .i64 0),(.string ⟨#[]⟩),(.int .i64 0)])∧inf.size=4∧inf.bytes=40:=by
  have key:(Tryz.prog.info? 70).map (λi=>(i.zero,i.size,i.bytes))=some (some (.agg #[(.int .i64 0),(.int .i64 0),(.string ⟨#[]⟩),(.int .i64 0)]),4,40):=by kernel_rfl
  obtain⟨inf,h1,h2⟩:=Option.map_eq_some_iff.1 key;simp only[Prod.mk.injEq] at h2;exact⟨inf,h1,h2.1,h2.2.1,h2.2.2⟩
end Go.Proofs.YtmjlemhondjfhaaGreatDoor.Q
namespace Go.Proofs.YtmjlemhondjfhaaGreatDoor
open Go
set_option linter.unusedVariables false
structure Bh where
 fSecrets:(List (Ae×Int))
 deriving DecidableEq,Inhabited
structure AI where
 fText:Ae
 fBefore:Ae
 fVersion:Int
 fUntil:Int
 fNow:Int
 fBound:(List (Ae×Bool))
 deriving DecidableEq,Inhabited
def Es (ys:(List Ab)):Option ((List Ab)):=
 Bk (D2 40 (([]:List Ab).length+ys.length))<|some (([]:List Ab)++ys)
def Mw (c:Int):Option (Bool):=
 some ((decide (c<33))||(decide (126<c)))
def GJ (ys:(List Int))(hb:Int):Option (Stp (Int) (Out (Int) (Unit))):=
 BB (decide (hb<(ys.length:Int))) (Bk (Ck hb (ys.length:Int))<|Bs (Mw (An ys hb)) λhd=>BB (hd) (some (.out (.ret hb))) (Bk (Cb .i64 (hb+1))<|some (.next (hb+1)))) (some (.out (.go ())))
def Jh :Option (Int):=
 some (-1)
def RK (F:Nat)(ys:(List Int)):Option (Int):=
 Bs (Cl (λσ=>GJ ys σ) F 0) (Co λν=>Jh )
def I6 (F:Nat)(ys:(List Int)):Option (Bool):=
 Bs (RK F ys) λr1=>some (decide (0≤r1))
def Mx (F:Nat)(s:Ae):Option (Bool):=
 Bk (imp (!decide (s=([]:Ae))) (imp (decide ((s.length:Int)≤200)) (D2 1 s.length)))<|Bk (imp (!decide (s=([]:Ae))) (imp (decide ((s.length:Int)≤200)) ((I6 F (EK s)).isSome)))<|some ((!decide (s=([]:Ae)))&&((decide ((s.length:Int)≤200))&&(!(ov (I6 F (EK s))))))
def SK :Option ((Bh×(List AI))):=
 some ((Bh.mk ([]:List (Ae×Int))),([]:List AI))
def Ni (name:Ae):Option (Unit×Unit):=
 some ((),())
def LC (v:Bh)(hb:(List AI))(name:Ae):Option (Int×Int):=
 BB (!(DL v.fSecrets name)) (some ((-1),5)) (some (E9 v.fSecrets name (-1),0))
def Pc (F:Nat)(v:Bh)(hb:(List AI))(name:Ae)(text:Ae):Option (Int×Bh×(List AI)):=
 Bs (LC v hb name) λr1=>BB (decide (r1.2=10)) (some (r1.2,v,hb)) (BB (!(CK name)) (some (4,v,hb)) (Bs (Mx F text) λhd=>BB (!hd) (some (1,v,hb)) (BB (decide (r1.2=0)) (some (6,v,hb)) (BB (decide (256≤(v.fSecrets.length:Int))) (some (3,v,hb)) (some (0,(Bh.mk (mset v.fSecrets name (hb.length:Int))),hb++[(AI.mk text ([]:Ae) 1 0 0 ([]:List (Ae×Bool)))]))))))
def LD (v:Bh)(hb:(List AI))(name:Ae)(function:Ae):Option (Int×Bh×(List AI)):=
 Bs (LC v hb name) λr1=>BB (!decide (r1.2=0)) (some (r1.2,v,hb)) (BB (!(CK function)) (some (4,v,hb)) (Bk (Ck r1.1 (hb.length:Int))<|BB (E9 ((An hb r1.1).fBound) function false) (some (6,v,hb)) (BB (decide (32≤(((An hb r1.1).fBound).length:Int))) (some (3,v,hb)) (some (0,v,List.set hb (Int.toNat r1.1) (AI.mk ((An hb r1.1).fText) ((An hb r1.1).fBefore) ((An hb r1.1).fVersion) ((An hb r1.1).fUntil) ((An hb r1.1).fNow) (mset ((An hb r1.1).fBound) function true)))))))
def KH (name:Ae)(function:Ae):Option (Ae×Int×Int):=
 Bs (Ni name) λr1=>some (([]:Ae),0,10)
def LB (v:Bh)(hb:(List AI))(name:Ae)(function:Ae):Option (Ae×Int×Int):=
 Bs (LC v hb name) λr1=>BB (!decide (r1.2=0)) (some (([]:Ae),0,r1.2)) (Bk (Ck r1.1 (hb.length:Int))<|BB (!(E9 ((An hb r1.1).fBound) function false)) (some (([]:Ae),0,12)) (some ((An hb r1.1).fText,(An hb r1.1).fVersion,0)))
def Ix (s:Ae):Option (Ae):=
 some s
def Dk (hb:(List AI))(hg:Ae)(hd:Int)(hf:Int)(he:Int):Option (Stp (Int×Int) (Out (Stp (Int) (Out (Stp (Ae×Ae) (Out (Ae) (Ae))) (Int))) (Int×Int×Bool))):=
 BB (decide (he<(([(An hb hd).fText,(An hb hd).fBefore]:List Ae).length:Int))) (Bk (Ck he (([(An hb hd).fText,(An hb hd).fBefore]:List Ae).length:Int))<|Bk ((DM hg (An ([(An hb hd).fText,(An hb hd).fBefore]:List Ae) he)).isSome)<|Bk (Cb .i64 (he+1))<|some (.next ((bif (ov (DM hg (An ([(An hb hd).fText,(An hb hd).fBefore]:List Ae) he))) then max hf ((An ([(An hb hd).fText,(An hb hd).fBefore]:List Ae) he).length:Int) else hf),he+1))) (some (.out (.go (hf,he,decide (he<(([(An hb hd).fText,(An hb hd).fBefore]:List Ae).length:Int))))))
def Gs (hb:Int)(hd:Int)(he:Bool):Option (Stp (Int) (Out (Stp (Ae×Ae) (Out (Ae) (Ae))) (Int))):=
 some (.next hb)
def E5 (F:Nat)(hb:(List AI))(he:Ae)(hg:Ae)(hd:Int)(hf:Int):Option (Stp (Int) (Out (Stp (Ae×Ae) (Out (Ae) (Ae))) (Int))):=
 Bk (Ck hd (hb.length:Int))<|Bs (Cl (λσ=>Dk hb he hd σ.1 σ.2) F (hf,0)) (Co λν=>Gs ν.1 ν.2.1 ν.2.2)
def DR (hb:Ae)(hd:Ae)(he:Int):Option (Stp (Ae×Ae) (Out (Ae) (Ae))):=
 BB (decide (he=0)) (Bk (Ck 0 (hb.length:Int))<|Bk (D2 1 (hd.length+1))<|Bk (Cb .u8 (Cw hb 0))<|JT (hd++[UInt8.ofNat (Int.toNat (Cw hb 0))]) λhf=>Bk (Lw 1 (hb.length:Int))<|some (.next (List.drop (Int.toNat 1) hb,hf))) (Bk (D2 1 (hd.length+([42,42,42]:Ae).length))<|JT (hd++([42,42,42]:Ae)) λhg=>Bk (Lw he (hb.length:Int))<|some (.next (List.drop (Int.toNat he) hb,hg)))
def D5 (F:Nat)(v:Bh)(he:(List AI))(hb:Ae)(hd:Ae):Option (Stp (Ae×Ae) (Out (Ae) (Ae))):=
 BB (!decide (hb=([]:Ae))) (YN v.fSecrets λord=>Bs (Xs (λpe τ=>E5 F he hb pe.1 pe.2 τ) ord 0) (Co λν=>DR hb hd ν)) (some (.out (.go hd)))
def Gt (hb:Ae):Option (Ae):=
 Bk (decide (0<hb.length))<|some hb
def HU (F:Nat)(v:Bh)(hb:(List AI))(s:Ae):Option (Ae):=
 Bs (Cl (λσ=>D5 F v hb σ.1 σ.2) F (s,([]:Ae))) (Co λν=>Gt ν)
end Go.Proofs.YtmjlemhondjfhaaGreatDoor
namespace Go.Proofs.YtmjlemhondjfhaaGreatDoor.Q
open Go Go.RowKit
set_option linter.unusedVariables false
set_option linter.unusedSimpArgs false
set_option linter.unusedSectionVars false
section
variable {P : Program} {n : Nat} {c : Cx} {ops : Array Oper} {Q : Exit → Act → World → Prop} {rest : List Oper} {l : Fr} {H H' Hr : List Ent} {d k b rz : Nat} {ty t e re : TypeId} {pos : String} {af : Array Edge} {pv r : Value} {cs : List Rp} {ys : List (List Rp)} {K : Act → World → Prop} {cx : Code}
section
variable {Z : Fz} {w : World} {xs : List ((Value → List Rp) × List (List Rp))}
end
def Abn (l:Fr)(k:Nat)(i:Int):List Nat→Prop
 | []=>True
 | d::ds=>look l d=some (ZH k i 0)∧Abn l k i ds
def asB (b:Nat):List Nat→Fr→Fr
 | [],l=>l
 | d::ds,l=>(d,rv (.pointer (some ⟨b,0,none⟩)))::asB b ds l
def asI (k:Nat)(i:Int):List Nat→Fr→Fr
 | [],l=>l
 | d::ds,l=>(d,ZH k i 0)::asI k i ds l
theorem UZ {Z:Fz}{a:Act}{i:Int}{l:Fr}(ha:De n l a Z)(h0:0≤i)(hn:Z.nm k i.toNat=some b):∀{ds:List Nat},Abn l k i ds→De n (asB b ds l) a Z
 | [],_=>ha
 | d::ds,⟨h1,h2⟩=>by
  have h3:=UZ ha h0 hn h2;refine⟨h3.size,h3.defers,λj u hj=>?_⟩;rw[asB,C3] at hj
  split at hj
  ·rename_i e;subst e;simp at hj;subst hj
   obtain⟨v,h4,h5⟩:=ha.tm d _ h1
   change XP k i 0 Z v at h5
   unfold XP at h5;rw[AeR (by omega)] at h5;obtain⟨b',g1,g2⟩:=h5;rw[hn] at g1;obtain rfl:=Option.some.inj g1;exact⟨v,h4,g2⟩
  ·exact h3.tm j u hj
theorem LS {Z:Fz}{a:Act}{i:Int}{l:Fr}(ha:De n l a Z)(h0:0≤i)(hn:Z.nm k i.toNat=some b):∀{ds:List Nat},Qa l b ds→De n (asI k i ds l) a Z
 | [],_=>ha
 | d::ds,⟨h1,h2⟩=>by
  have h3:=LS ha h0 hn h2;refine⟨h3.size,h3.defers,λj u hj=>?_⟩;rw[asI,C3] at hj
  split at hj
  ·rename_i e;subst e;simp at hj;subst hj
   obtain⟨v,h4,h5⟩:=ha.tm d _ h1;refine⟨v,h4,?_⟩;show XP k i 0 Z v;unfold XP;rw[AeR (by omega)];exact⟨b,hn,h5⟩
  ·exact h3.tm j u hj
section
variable {β : Type} [Inhabited β] {xs : List β} {encw : β → (Value → List Rp) × List (List Rp)} {i : Int} {y : β}
end
end
section
variable {P : Program} {n : Nat} {c : Cx} {ops : Array Oper} {Q : Exit → Act → World → Prop} {rest : List Oper} {l : Fr} {H H' Hr : List Ent} {d k b r : Nat} {ty t e : TypeId} {pos : String} {af : Array Edge} {pv : Value} {cs : List Rp} {ys : List (List UInt8 × Rp)} {K : Act → World → Prop} {cx : Code}
theorem TH {ps:List (Nat×Nat)}{i:Nat}{p:Nat×Nat}(h:ps[i]? =some p):(Ra ps).Perm (([p.1,p.2])++Ra (ps.eraseIdx i)):=by
 have:ps.Perm (p::ps.eraseIdx i):=by
  induction ps generalizing i with
  | nil=>cases h
  | cons x r ih=>
   cases i with
   | zero=>simp at h;subst h;exact Aet _
   | succ i=>
    simp at h;exact((ih h).cons x).trans (List.Perm.swap p x _)
 exact this.flatMap_right _
theorem AaX {ps:List (Nat×Nat)}{i:Nat}{p q:Nat×Nat}(h:ps[i]? =some p):(Ra (ps.set i q)).Perm (([q.1,q.2])++Ra (ps.eraseIdx i)):=by
 have hi:=(List.getElem?_eq_some_iff.1 h).1;have h1:=TH (ps:=ps.set i q) (i:=i) (p:=q) (by simp[hi]);have h2:(ps.set i q).eraseIdx i=ps.eraseIdx i:=by
  refine List.ext_getElem? λj=>?_;rw[List.getElem?_eraseIdx,List.getElem?_eraseIdx]
  split
  ·rw[List.getElem?_set_ne (by omega)]
  ·rw[List.getElem?_set_ne (by omega)]
 rw[h2] at h1;exact h1
theorem Wd (ps:List (Nat×Nat))(q:Nat×Nat):Ra (ps++[q])=Ra ps++([q.1,q.2]):=by
 unfold Ra;rw[List.flatMap_append];simp
section
variable {Z : Fz} {w : World} {xs : List ((Nat → List Rp) × List (List UInt8 × Rp))}
theorem St.mtakeout (h:St c (.poolm k pv e xs none::Hr) Z w){i:Nat}(hi:i<xs.length) :
  ∃b r,Z.nm k i=some b∧St c (.blk b (xs[i].1 r) e::.map r xs[i].2::.poolm k pv e xs (some (i,(b,r)))::Hr) Z w:=by
 obtain⟨hl,hn,hm,_,hx⟩:=h.has (.poolm k pv e xs none) (by simp);have hp:(EM pv)[i]? =some (EM pv)[i]:=Aep (by omega);generalize(EM pv)[i]=p at hp;obtain⟨b,r⟩:=p;have hperm:=TH hp;have hnd:=hperm.nodup hn;have hd:=List.pairwise_cons.1 h.dis;have gd:=List.pairwise_cons.1 h.gst.dis;obtain⟨⟨us,h1,h2⟩,es,ck,h4,h5⟩:=hx i (b,r) xs[i] hp (Aep hi) (λo ho=>by cases ho);rw[List.nodup_append] at hnd;have hin:∀q,q∈[b,r]∨q∈Ra ((EM pv).eraseIdx i)→q∈(Ent.poolm k pv e xs none).foot:=λq hq=>hperm.symm.subset (List.mem_append.2 hq);have fb:∀q∈(Ent.blk b (xs[i].1 r) e).foot,q∈(Ent.poolm k pv e xs none).foot:=λq hq=>hin q (.inl (by simp[Ent.foot] at hq;simp[hq]));have fr:∀q∈(Ent.map r xs[i].2).foot,q∈(Ent.poolm k pv e xs none).foot:=λq hq=>hin q (.inl (List.mem_cons_of_mem _ hq));have fo:∀q∈(Ent.poolm k pv e xs (some (i,(b,r)))).foot,q∈(Ent.poolm k pv e xs none).foot:=λq hq=>hin q (.inr hq);have hmem:∀en∈(.blk b (xs[i].1 r) e::.map r xs[i].2::.poolm k pv e xs (some (i,(b,r)))::Hr:List Ent),(∀q∈en.foot,q∈(Ent.poolm k pv e xs none).foot)∨en∈Hr:=λen he=>by
  simp only[AeQ] at he;rcases he with rfl | rfl | rfl | he
  ·exact .inl fb
  ·exact .inl fr
  ·exact .inl fo
  ·exact .inr he
 have hgk:∀en∈(.blk b (xs[i].1 r) e::.map r xs[i].2::.poolm k pv e xs (some (i,(b,r)))::Hr:List Ent),∀q∈en.gk,∃en'∈(.poolm k pv e xs none::Hr:List Ent),q∈en'.gk∧en'.gn=en.gn:=λen he q hq=>by
  simp only[AeQ] at he;rcases he with rfl | rfl | rfl | he
  ·cases hq
  ·cases hq
  ·exact⟨_,List.mem_cons_self ..,hq,rfl⟩
  ·exact⟨en,List.mem_cons_of_mem _ he,hq,rfl⟩
 refine⟨b,r,hm i _ hp,{ h with has:=λen he=>?_,own:=λen he q hq=>?_,dis:=?_,zdis:=λen he q hq=>?_,gst:=⟨λen he q hq=>?_,λen he q hq=>?_,?_,h.gst.new,λen he q hq j hj=>?_⟩ }⟩
 ·simp only[AeQ] at he;rcases he with rfl | rfl | rfl | he
  ·exact⟨us,h1,h2⟩
  ·exact⟨es,ck,h4,h5⟩
  ·exact⟨hl,hnd.2.1,hm,λo ho=>by cases ho;exact hp,λj p x hj hxj hne=>hx j p x hj hxj (λo ho=>by cases ho)⟩
  ·exact h.has en (List.mem_cons_of_mem _ he)
 ·rcases hmem en he with h6 | h6
  ·exact h.own _ (List.mem_cons_self ..) q (h6 q hq)
  ·exact h.own en (List.mem_cons_of_mem _ h6) q hq
 ·have hbr:=List.nodup_cons.1 hnd.1;refine List.pairwise_cons.2 ⟨λen he q hq hq'=>?_,List.pairwise_cons.2 ⟨λen he q hq hq'=>?_,List.pairwise_cons.2 ⟨λen he q hq hq'=>hd.1 en he q (fo q hq) hq',hd.2⟩⟩⟩
  ·have e1:q=b:=by simpa[Ent.foot] using hq
   subst e1;simp only[AeQ] at he;rcases he with rfl | rfl | he
   ·exact hbr.1 hq'
   ·exact hnd.2.2 q (List.mem_cons_self ..) q hq' rfl
   ·exact hd.1 en he q (fb q hq) hq'
  ·simp only[AeQ] at he;rcases he with rfl | he
   ·exact hnd.2.2 q (List.mem_cons_of_mem _ hq) q hq' rfl
   ·exact hd.1 en he q (fr q hq) hq'
 ·rcases hmem en he with h6 | h6
  ·exact h.zdis _ (List.mem_cons_self ..) q (h6 q hq)
  ·exact h.zdis en (List.mem_cons_of_mem _ h6) q hq
 ·obtain⟨en',h6,h7,_⟩:=hgk en he q hq;exact h.gst.own en' h6 q h7
 ·obtain⟨en',h6,h7,_⟩:=hgk en he q hq;exact h.gst.sz en' h6 q h7
 ·exact List.pairwise_cons.2 ⟨λ_ _ _ hq=>(by cases hq),List.pairwise_cons.2 ⟨λ_ _ _ hq=>(by cases hq),List.pairwise_cons.2 ⟨gd.1,gd.2⟩⟩⟩
 ·obtain⟨en',h6,h7,h8⟩:=hgk en he q hq;exact h.gst.cap en' h6 q h7 j (by rw[h8];exact hj)
theorem St.mputback {i:Nat}{r0:Nat}{y:(Nat→List Rp)×List (List UInt8×Rp)}(h:St c (.blk b cs e::.map r ys::.poolm k pv e xs (some (i,(b,r0)))::Hr) Z w)(hcs:y.1 r=cs)(hys:y.2=ys){pv':Value}(hpv:EM pv'=(EM pv).set i (b,r)) :
  Z.nm k i=some b∧St c (.poolm k pv' e (xs.set i y) none::Hr) Z w:=by
 obtain⟨us,h1,h2⟩:=h.has (.blk b cs e) (by simp);obtain⟨es,ck,h4,h5⟩:=h.has (.map r ys) (by simp);obtain⟨hl,hn,hm,ho,hx⟩:=h.has (.poolm k pv e xs (some (i,(b,r0)))) (by simp);have hp:(EM pv)[i]? =some (b,r0):=ho _ rfl;have hi:i<(EM pv).length:=(List.getElem?_eq_some_iff.1 hp).1;have hd:=List.pairwise_cons.1 h.dis;have hd2:=List.pairwise_cons.1 hd.2;have hd3:=List.pairwise_cons.1 hd2.2;have gd:=List.pairwise_cons.1 (List.pairwise_cons.1 (List.pairwise_cons.1 h.gst.dis).2).2;have hperm:=AaX (q:=(b,r)) hp;have hback:∀q∈(Ent.poolm k pv' e (xs.set i y) none).foot,q=b∨q∈[r]∨q∈(Ent.poolm k pv e xs (some (i,(b,r0)))).foot:=λq hq=>by
  have h6:q∈Ra ((EM pv).set i (b,r)):=by rw[← hpv];exact hq
  rcases List.mem_append.1 (hperm.subset h6) with h7 | h7
  ·rcases List.mem_cons.1 h7 with h8 | h8
   ·exact .inl h8
   ·exact .inr (.inl h8)
  ·exact .inr (.inr h7)
 have hbr:b ∉ [r]:=λhb=>hd.1 (.map r ys) (by simp) b (by simp[Ent.foot]) hb;have hbo:b ∉ (Ent.poolm k pv e xs (some (i,(b,r0)))).foot:=λhb=>hd.1 (.poolm k pv e xs (some (i,(b,r0)))) (by simp) b (by simp[Ent.foot]) hb;have hro:∀q∈[r],q ∉ (Ent.poolm k pv e xs (some (i,(b,r0)))).foot:=λq hq hq'=>hd2.1 (.poolm k pv e xs (some (i,(b,r0)))) (by simp) q hq hq';have hrn:([r]).Nodup:=by simp
 refine⟨hm i _ hp,{ h with has:=λen he=>?_,own:=λen he q hq=>?_,dis:=List.pairwise_cons.2 ⟨λen he q hq hq'=>?_,hd3.2⟩,zdis:=λen he q hq=>?_,gst:=⟨λen he q hq=>?_,λen he q hq=>?_,List.pairwise_cons.2 ⟨gd.1,gd.2⟩,h.gst.new,λen he q hq j hj=>?_⟩ }⟩
 ·rcases List.mem_cons.1 he with rfl | he
  ·refine⟨by rw[hpv];simpa using hl,?_,λj p hj=>?_,λo ho=>(by cases ho),λj p x hj hxj _=>?_⟩
   ·show(Ra (EM pv')).Nodup;rw[hpv];refine hperm.symm.nodup ?_;rw[List.nodup_append];exact⟨List.nodup_cons.2 ⟨hbr,hrn⟩,hn,λq hq q' hq' e=>by
     subst e;rcases List.mem_cons.1 hq with rfl | hq
     ·exact hbo hq'
     ·exact hro q hq hq'⟩
   ·rw[hpv,List.getElem?_set] at hj
    split at hj
    ·rename_i e1;subst e1;simp[hi] at hj;subst hj;exact(hm i _ hp:Z.nm k i=some b)
    ·exact hm j p hj
   ·rw[hpv,List.getElem?_set] at hj;rw[List.getElem?_set] at hxj
    by_cases e1:i=j
    ·subst e1;rw[AeW rfl,AeW hi] at hj;rw[AeW rfl,AeW (by omega)] at hxj
     cases hj;cases hxj
     subst hcs;subst hys;exact⟨⟨us,h1,h2⟩,es,ck,h4,h5⟩
    ·rw[AeR e1] at hj hxj;exact hx j p x hj hxj (λo ho=>by cases ho;exact e1)
  ·exact h.has en (by simp[he])
 ·rcases List.mem_cons.1 he with rfl | he
  ·rcases hback q hq with rfl | h6 | h6
   ·exact h.own (.blk q cs e) (by simp) q (by simp[Ent.foot])
   ·exact h.own (.map r ys) (by simp) q h6
   ·exact h.own (.poolm k pv e xs (some (i,(b,r0)))) (by simp) q h6
  ·exact h.own en (by simp[he]) q hq
 ·rcases hback q hq with rfl | h6 | h6
  ·exact hd.1 en (by simp[he]) q (by simp[Ent.foot]) hq'
  ·exact hd2.1 en (by simp[he]) q h6 hq'
  ·exact hd3.1 en he q h6 hq'
 ·rcases List.mem_cons.1 he with rfl | he
  ·rcases hback q hq with rfl | h6 | h6
   ·exact h.zdis (.blk q cs e) (by simp) q (by simp[Ent.foot])
   ·exact h.zdis (.map r ys) (by simp) q h6
   ·exact h.zdis (.poolm k pv e xs (some (i,(b,r0)))) (by simp) q h6
  ·exact h.zdis en (by simp[he]) q hq
 ·rcases List.mem_cons.1 he with rfl | he
  ·exact h.gst.own (.poolm k pv e xs (some (i,(b,r0)))) (by simp) q hq
  ·exact h.gst.own en (by simp[he]) q hq
 ·rcases List.mem_cons.1 he with rfl | he
  ·exact h.gst.sz (.poolm k pv e xs (some (i,(b,r0)))) (by simp) q hq
  ·exact h.gst.sz en (by simp[he]) q hq
 ·rcases List.mem_cons.1 he with rfl | he
  ·refine h.gst.cap (.poolm k pv e xs (some (i,(b,r0)))) (by simp) q hq j ?_;have:(EM pv').length≤j:=hj;rw[hpv,List.length_set] at this;exact this
  ·exact h.gst.cap en (by simp[he]) q hq j hj
theorem St.mputsame {i:Nat}(hi:i<xs.length)(h:St c (.blk b (xs[i].1 r) e::.map r xs[i].2::.poolm k pv e xs (some (i,(b,r)))::Hr) Z w):Z.nm k i=some b∧St c (.poolm k pv e xs none::Hr) Z w:=by
 obtain⟨hl,hn,hm,ho,hx⟩:=h.has (.poolm k pv e xs (some (i,(b,r)))) (by simp);have hp:(EM pv)[i]? =some (b,r):=ho _ rfl;have h1:=St.mputback (y:=xs[i]) (pv':=pv) h rfl rfl (by
  refine(List.ext_getElem? λj=>?_);rw[List.getElem?_set]
  split
  ·rename_i e1;subst e1
   have:=(List.getElem?_eq_some_iff.1 hp).1;rw[AeW this,hp]
  ·rfl)
 rw[List.set_getElem_self] at h1;exact h1
theorem St.adoptM {y:(Nat→List Rp)×List (List UInt8×Rp)}(h:St c (.blk b cs e::.map r ys::.poolm k pv e xs none::Hr) Z w)(hcs:y.1 r=cs)(hys:y.2=ys){pv':Value}(hpv:EM pv'=EM pv++[(b,r)]) :
  ∃Z',Fz.le Z Z'∧Z'.nm k xs.length=some b∧St c (.poolm k pv' e (xs++[y]) none::Hr) Z' w:=by
 obtain⟨us,h1,h2⟩:=h.has (.blk b cs e) (by simp);obtain⟨es,ck,h4,h5⟩:=h.has (.map r ys) (by simp);obtain⟨hl,hn,hm,ho,hx⟩:=h.has (.poolm k pv e xs none) (by simp);have hd:=List.pairwise_cons.1 h.dis;have hd2:=List.pairwise_cons.1 hd.2;have hd3:=List.pairwise_cons.1 hd2.2;have gd:=List.pairwise_cons.1 (List.pairwise_cons.1 (List.pairwise_cons.1 h.gst.dis).2).2;have hcap:=h.gst.cap (.poolm k pv e xs none) (by simp) k (by simp[Ent.gk]);have hksz:=h.gst.sz (.poolm k pv e xs none) (by simp) k (by simp[Ent.gk]);have hkown:=h.gst.own (.poolm k pv e xs none) (by simp) k (by simp[Ent.gk])
 let Z':Fz:=⟨Z.f,λq i=>if q=k∧i=xs.length then some b else Z.nm q i⟩
 have hnew:Z'.nm k xs.length=some b:=by simp[Z']
 have hle:Fz.le Z Z':=⟨λ_ _ h=>h,λq i b' hq=>by
  by_cases hqi:q=k∧i=xs.length
  ·obtain⟨rfl,rfl⟩:=hqi;rw[hcap _ (by simp[Ent.gn,hl])] at hq;cases hq
  ·simpa[Z',hqi] using hq⟩
 have hbr:b ∉ [r]:=λhb=>hd.1 (.map r ys) (by simp) b (by simp[Ent.foot]) hb;have hbo:b ∉ (Ent.poolm k pv e xs none).foot:=λhb=>hd.1 (.poolm k pv e xs none) (by simp) b (by simp[Ent.foot]) hb;have hro:∀q∈[r],q ∉ (Ent.poolm k pv e xs none).foot:=λq hq hq'=>hd2.1 (.poolm k pv e xs none) (by simp) q hq hq';have hrn:([r]).Nodup:=by simp
 have hback:∀q∈(Ent.poolm k pv' e (xs++[y]) none).foot,q=b∨q∈[r]∨q∈(Ent.poolm k pv e xs none).foot:=λq hq=>by
  have h6:q∈Ra (EM pv++[(b,r)]):=by rw[← hpv];exact hq
  rw[Wd] at h6;rcases List.mem_append.1 h6 with h7 | h7
  ·exact .inr (.inr h7)
  ·rcases List.mem_cons.1 h7 with h8 | h8
   ·exact .inl h8
   ·exact .inr (.inl h8)
 refine⟨Z',hle,hnew,{ h with has:=λen he=>?_,own:=λen he q hq=>?_,dis:=List.pairwise_cons.2 ⟨λen he q hq hq'=>?_,hd3.2⟩,frz:=⟨λb o hb=>h.frz.f b o hb,λq i b' hq=>?_⟩,le:=h.le.trans hle,new:=λb o hb=>h.new b o hb,zdis:=λen he q hq=>?_,env:=h.emono hle h.env,gst:=⟨λen he q hq=>?_,λen he q hq=>?_,List.pairwise_cons.2 ⟨gd.1,gd.2⟩,λq i b' hq=>?_,λen he q hq i hi=>?_⟩ }⟩
 ·rcases List.mem_cons.1 he with rfl | he
  ·refine⟨by rw[hpv];simp[hl],?_,λj p hj=>?_,λo ho=>(by cases ho),λj p x hj hxj _=>?_⟩
   ·show(Ra (EM pv')).Nodup;rw[hpv,Wd,List.nodup_append];exact⟨hn,List.nodup_cons.2 ⟨hbr,hrn⟩,λq hq q' hq' e=>by
     subst e;rcases List.mem_cons.1 hq' with rfl | hq'
     ·exact hbo hq
     ·exact hro q hq' hq⟩
   ·rw[hpv] at hj
    by_cases hjl:j<(EM pv).length
    ·rw[AeS hjl] at hj;exact hle.nm k j _ (hm j p hj)
    ·have hj2:j=(EM pv).length:=by have:=(List.getElem?_eq_some_iff.1 hj).1;simp at this;omega
     subst hj2;simp at hj;subst hj;rw[hl];exact hnew
   ·rw[hpv] at hj
    by_cases hjl:j<(EM pv).length
    ·rw[AeS hjl] at hj;rw[AeS (by omega)] at hxj;obtain⟨⟨us',g1,g2⟩,es',ck',g4,g5⟩:=hx j p x hj hxj (λo ho=>by cases ho);exact⟨⟨us',g1,g2.mono hle⟩,es',ck',g4,g5.mono hle⟩
    ·have hj2:j=(EM pv).length:=by have:=(List.getElem?_eq_some_iff.1 hj).1;simp at this;omega
     subst hj2;simp at hj;subst hj;rw[hl] at hxj;simp at hxj;subst hxj;subst hcs;subst hys;exact⟨⟨us,h1,h2.mono hle⟩,es,ck,h4,h5.mono hle⟩
  ·exact Ent.keep (h.has en (by simp[he])) hle λ_ _=>rfl
 ·rcases List.mem_cons.1 he with rfl | he
  ·rcases hback q hq with rfl | h6 | h6
   ·exact h.own (.blk q cs e) (by simp) q (by simp[Ent.foot])
   ·exact h.own (.map r ys) (by simp) q h6
   ·exact h.own (.poolm k pv e xs none) (by simp) q h6
  ·exact h.own en (by simp[he]) q hq
 ·rcases hback q hq with rfl | h6 | h6
  ·exact hd.1 en (by simp[he]) q (by simp[Ent.foot]) hq'
  ·exact hd2.1 en (by simp[he]) q h6 hq'
  ·exact hd3.1 en he q h6 hq'
 ·by_cases hqi:q=k∧i=xs.length
  ·rw[hqi.1];exact hksz
  ·exact h.frz.nm q i b' (by simpa[Z',hqi] using hq)
 ·rcases List.mem_cons.1 he with rfl | he
  ·rcases hback q hq with rfl | h6 | h6
   ·exact h.zdis (.blk q cs e) (by simp) q (by simp[Ent.foot])
   ·exact h.zdis (.map r ys) (by simp) q h6
   ·exact h.zdis (.poolm k pv e xs none) (by simp) q h6
  ·exact h.zdis en (by simp[he]) q hq
 ·rcases List.mem_cons.1 he with rfl | he
  ·simp[Ent.gk] at hq;subst hq;exact hkown
  ·exact h.gst.own en (by simp[he]) q hq
 ·rcases List.mem_cons.1 he with rfl | he
  ·simp[Ent.gk] at hq;subst hq;exact hksz
  ·exact h.gst.sz en (by simp[he]) q hq
 ·by_cases hqi:q=k∧i=xs.length
  ·rw[hqi.1];exact .inr hkown
  ·exact h.gst.new q i b' (by simpa[Z',hqi] using hq)
 ·rcases List.mem_cons.1 he with rfl | he
  ·simp[Ent.gk] at hq;subst hq;have hi':(EM pv').length≤i:=hi;rw[hpv,Aes] at hi';simp at hi';have hne : ¬ i=xs.length:=by omega
   simp only[Z',hne,and_false,AeB];exact hcap i (by simp[Ent.gn];omega)
  ·have hqk:q≠k:=λe1=>gd.1 en he k (by simp[Ent.gk]) (e1▸hq);simp only[Z',hqk,false_and,AeB];exact h.gst.cap en (by simp[he]) q hq i hi
end
section
variable {β : Type} [Inhabited β] {xs : List β} {encw : β → (Nat → List Rp) × List (List UInt8 × Rp)} {i : Int} {y : β}
theorem St.mtakeoutE {Z:Fz}{w:World}(hw:St c H Z w)(hp:H.Perm (.poolm k pv e (xs.map encw) none::Hr))(hg:Ck i (xs.length:Int)=true) :
  ∃b r,0≤i∧Z.nm k i.toNat=some b∧St c (.blk b ((encw (An xs i)).1 r) e::.map r (encw (An xs i)).2::.poolm k pv e (xs.map encw) (some (i.toNat,(b,r)))::Hr) Z w:=by
 have h0:=(Cj hg).1;have h1:i.toNat<xs.length:=by have:=(Cj hg).2;omega
 obtain⟨b,r,h2,h3⟩:=(hw.perm hp).mtakeout (i:=i.toNat) (by simpa using h1);have e1:(xs.map encw)[i.toNat]'(by simpa using h1)=encw (An xs i):=by simp[An,h1]
 rw[e1] at h3;exact⟨b,r,h0,h2,h3⟩
theorem WL.mtakeout (hp:H.Perm (.poolm k pv e (xs.map encw) none::Hr))(hg:Ck i (xs.length:Int)=true)(ds:List Nat)(hd:Abn l k i ds)
  (h:∀b r,WL P n c ops Q rest (asB b ds l) (.blk b ((encw (An xs i)).1 r) e::.map r (encw (An xs i)).2::.poolm k pv e (xs.map encw) (some (i.toNat,(b,r)))::Hr)):WL P n c ops Q rest l H:=λa w Z ha hw=>by
 obtain⟨b,r,h0,h1,h2⟩:=St.mtakeoutE hw hp hg;exact h b r a w Z (UZ ha h0 h1 hd) h2
theorem WC.mtakeout (hp:H.Perm (.poolm k pv e (xs.map encw) none::Hr))(hg:Ck i (xs.length:Int)=true)(ds:List Nat)(hd:Abn l k i ds)
  (h:∀b r,WC P n c cx Q (asB b ds l) (.blk b ((encw (An xs i)).1 r) e::.map r (encw (An xs i)).2::.poolm k pv e (xs.map encw) (some (i.toNat,(b,r)))::Hr)):WC P n c cx Q l H:=λa w Z ha hw=>by
 obtain⟨b,r,h0,h1,h2⟩:=St.mtakeoutE hw hp hg;exact h b r a w Z (UZ ha h0 h1 hd) h2
theorem St.mputbackE {Z:Fz}{w:World}{r0:Nat}(hw:St c H Z w)(hp:H.Perm (.blk b cs e::.map r ys::.poolm k pv e (xs.map encw) (some (i.toNat,(b,r0)))::Hr))(hcs:(encw y).1 r=cs)(hys:(encw y).2=ys) :
  ∃pv',Z.nm k i.toNat=some b∧St c (.poolm k pv' e ((xs.set i.toNat y).map encw) none::Hr) Z w:=by
 obtain⟨h1,h2⟩:=(hw.perm hp).mputback (y:=encw y) (pv':=Aa5 ((EM pv).set i.toNat (b,r))) hcs hys (VJ _);rw[← List.map_set] at h2;exact⟨_,h1,h2⟩
theorem WL.mputback {r0:Nat}(hp:H.Perm (.blk b cs e::.map r ys::.poolm k pv e (xs.map encw) (some (i.toNat,(b,r0)))::Hr))(hg:Ck i (xs.length:Int)=true)(ds:List Nat)(hd:Qa l b ds)(hcs:(encw y).1 r=cs)(hys:(encw y).2=ys)
  (h:∀pv',WL P n c ops Q rest (asI k i ds l) (.poolm k pv' e ((xs.set i.toNat y).map encw) none::Hr)):WL P n c ops Q rest l H:=λa w Z ha hw=>by
 obtain⟨pv',h1,h2⟩:=St.mputbackE hw hp hcs hys;exact h pv' a w Z (LS ha (Cj hg).1 h1 hd) h2
theorem WC.mputback {r0:Nat}(hp:H.Perm (.blk b cs e::.map r ys::.poolm k pv e (xs.map encw) (some (i.toNat,(b,r0)))::Hr))(hg:Ck i (xs.length:Int)=true)(ds:List Nat)(hd:Qa l b ds)(hcs:(encw y).1 r=cs)(hys:(encw y).2=ys)
  (h:∀pv',WC P n c cx Q (asI k i ds l) (.poolm k pv' e ((xs.set i.toNat y).map encw) none::Hr)):WC P n c cx Q l H:=λa w Z ha hw=>by
 obtain⟨pv',h1,h2⟩:=St.mputbackE hw hp hcs hys;exact h pv' a w Z (LS ha (Cj hg).1 h1 hd) h2
theorem WK.mputback {r0:Nat}(hp:H.Perm (.blk b cs e::.map r ys::.poolm k pv e (xs.map encw) (some (i.toNat,(b,r0)))::Hr))(hg:Ck i (xs.length:Int)=true)(ds:List Nat)(hd:Qa l b ds)(hcs:(encw y).1 r=cs)(hys:(encw y).2=ys)
  (h:∀pv',WK n c K (asI k i ds l) (.poolm k pv' e ((xs.set i.toNat y).map encw) none::Hr)):WK n c K l H:=λa w Z ha hw=>by
 obtain⟨pv',h1,h2⟩:=St.mputbackE hw hp hcs hys;exact h pv' a w Z (LS ha (Cj hg).1 h1 hd) h2
theorem St.mputsameE {Z:Fz}{w:World}(hw:St c H Z w)(hp:H.Perm (.blk b cs e::.map r ys::.poolm k pv e (xs.map encw) (some (i.toNat,(b,r)))::Hr))(hg:Ck i (xs.length:Int)=true)(hcs:(encw (An xs i)).1 r=cs)(hys:(encw (An xs i)).2=ys) :
  Z.nm k i.toNat=some b∧St c (.poolm k pv e (xs.map encw) none::Hr) Z w:=by
 have h1:i.toNat<xs.length:=by have:=Cj hg;omega
 have e1:(xs.map encw)[i.toNat]'(by simpa using h1)=encw (An xs i):=by simp[An,h1]
 subst hcs;subst hys;have h2:=hw.perm hp;rw[← e1] at h2;exact St.mputsame (by simpa using h1) h2
theorem WL.mputsame (hp:H.Perm (.blk b cs e::.map r ys::.poolm k pv e (xs.map encw) (some (i.toNat,(b,r)))::Hr))(hg:Ck i (xs.length:Int)=true)(ds:List Nat)(hd:Qa l b ds)(hcs:(encw (An xs i)).1 r=cs)(hys:(encw (An xs i)).2=ys)
  (h:WL P n c ops Q rest (asI k i ds l) (.poolm k pv e (xs.map encw) none::Hr)):WL P n c ops Q rest l H:=λa w Z ha hw=>by
 obtain⟨h1,h2⟩:=St.mputsameE hw hp hg hcs hys;exact h a w Z (LS ha (Cj hg).1 h1 hd) h2
theorem WC.mputsame (hp:H.Perm (.blk b cs e::.map r ys::.poolm k pv e (xs.map encw) (some (i.toNat,(b,r)))::Hr))(hg:Ck i (xs.length:Int)=true)(ds:List Nat)(hd:Qa l b ds)(hcs:(encw (An xs i)).1 r=cs)(hys:(encw (An xs i)).2=ys)
  (h:WC P n c cx Q (asI k i ds l) (.poolm k pv e (xs.map encw) none::Hr)):WC P n c cx Q l H:=λa w Z ha hw=>by
 obtain⟨h1,h2⟩:=St.mputsameE hw hp hg hcs hys;exact h a w Z (LS ha (Cj hg).1 h1 hd) h2
theorem WK.mputsame (hp:H.Perm (.blk b cs e::.map r ys::.poolm k pv e (xs.map encw) (some (i.toNat,(b,r)))::Hr))(hg:Ck i (xs.length:Int)=true)(ds:List Nat)(hd:Qa l b ds)(hcs:(encw (An xs i)).1 r=cs)(hys:(encw (An xs i)).2=ys)
  (h:WK n c K (asI k i ds l) (.poolm k pv e (xs.map encw) none::Hr)):WK n c K l H:=λa w Z ha hw=>by
 obtain⟨h1,h2⟩:=St.mputsameE hw hp hg hcs hys;exact h a w Z (LS ha (Cj hg).1 h1 hd) h2
theorem WC.uncur {it i:Nat}{m lf:List (List UInt8×Rp)}{cur:Option (List UInt8×Rp)}(hi:H[i]? =some (.mit b it m lf cur))(h:WC P n c cx Q l (H.set i (.mit b it m lf none))):WC P n c cx Q l H:=λa w Z ha hw=>h a w Z ha (hw.uncur hi)
theorem St.adoptME {Z:Fz}{w:World}(hw:St c H Z w)(hp:H.Perm (.blk b cs e::.map r ys::.poolm k pv e (xs.map encw) none::Hr))(hcs:(encw y).1 r=cs)(hys:(encw y).2=ys) :
  ∃Z' pv',Fz.le Z Z'∧Z'.nm k xs.length=some b∧St c (.poolm k pv' e ((xs++[y]).map encw) none::Hr) Z' w:=by
 obtain⟨Z',h1,h2,h3⟩:=(hw.perm hp).adoptM (y:=encw y) (pv':=Aa5 (EM pv++[(b,r)])) hcs hys (VJ _);rw[Ae6] at h2;exact⟨Z',_,h1,h2,by rw[List.map_append];exact h3⟩
theorem WL.adoptM (hp:H.Perm (.blk b cs e::.map r ys::.poolm k pv e (xs.map encw) none::Hr))(ds:List Nat)(hd:Qa l b ds)(hcs:(encw y).1 r=cs)(hys:(encw y).2=ys)
  (h:∀pv',WL P n c ops Q rest (asP k xs.length ds l) (.poolm k pv' e ((xs++[y]).map encw) none::Hr)):WL P n c ops Q rest l H:=λa w Z ha hw=>by
 obtain⟨Z',pv',h1,h2,h3⟩:=St.adoptME hw hp hcs hys;exact h pv' a w Z' (UY (ha.mono h1) h2 hd) h3
theorem WC.adoptM (hp:H.Perm (.blk b cs e::.map r ys::.poolm k pv e (xs.map encw) none::Hr))(ds:List Nat)(hd:Qa l b ds)(hcs:(encw y).1 r=cs)(hys:(encw y).2=ys)
  (h:∀pv',WC P n c cx Q (asP k xs.length ds l) (.poolm k pv' e ((xs++[y]).map encw) none::Hr)):WC P n c cx Q l H:=λa w Z ha hw=>by
 obtain⟨Z',pv',h1,h2,h3⟩:=St.adoptME hw hp hcs hys;exact h pv' a w Z' (UY (ha.mono h1) h2 hd) h3
end
theorem Kg:EM (.tuple #[])=[]:=rfl
theorem Oi (hn:Nat.blt d n=true)(h:∀b,WL P n c ops Q rest ((d,rv (.map (some b)))::l) (.poolm b (.tuple #[]) e [] none::.map b []::H)) :
  WL P n c ops Q ({ dst:=some d,op:=.makeMap t none,type:=ty,pos:=pos,after:=af,guard:=none }::rest) l H:=
 Jt (λa w Z ha hw=>by
  have h1:=hw.alloc (.map #[] 0) (e:=.map w.heap.size []) ⟨#[],0,by simpa using heap_alloc_new w _,by simp,by simp,by simp,[],Aet _,trivial⟩ rfl;refine⟨_,w.alloc (.map #[] 0),_,_,Z,by simp[execOp,run_makeMap],Fz.le.refl _,rfl,?_,h w.heap.size⟩;have hz:∀i,Z.nm w.heap.size i=none:=λi=>by
   cases hq:Z.nm w.heap.size i with
   | none=>rfl
   | some b=>have:=hw.frz.nm _ _ _ hq;omega
  have hold:∀en∈(Ent.map w.heap.size []::H),∀q∈en.gk,q<w.heap.size:=λen he q hq=>by
   rcases List.mem_cons.1 he with rfl | he
   ·simp[Ent.gk] at hq
   ·exact hw.gst.sz en he q hq
  have hf:∀q,q ∉ (Ent.poolm w.heap.size (.tuple #[]) e [] none).foot:=λq hq=>by simp[Ent.foot,Kg,U4,Ra] at hq
  refine { h1 with has:=λen he=>?_,own:=λen he q hq=>?_,dis:=List.pairwise_cons.2 ⟨λen he q hq=>absurd hq (hf q),h1.dis⟩,zdis:=λen he q hq=>?_,gst:=⟨λen he q hq=>?_,λen he q hq=>?_,List.pairwise_cons.2 ⟨λen he q hq hq'=>?_,h1.gst.dis⟩,h1.gst.new,λen he q hq i hi=>?_⟩ }
  ·rcases List.mem_cons.1 he with rfl | he
   ·exact⟨by simp[Kg],by simp[Kg,U4,Ra],by simp[Kg],λo ho=>(by cases ho),by simp[Kg]⟩
   ·exact h1.has en he
  ·rcases List.mem_cons.1 he with rfl | he
   ·exact absurd hq (hf q)
   ·exact h1.own en he q hq
  ·rcases List.mem_cons.1 he with rfl | he
   ·exact absurd hq (hf q)
   ·exact h1.zdis en he q hq
  ·rcases List.mem_cons.1 he with rfl | he
   ·simp[Ent.gk] at hq;subst hq;exact .inl hw.size
   ·exact h1.gst.own en he q hq
  ·rcases List.mem_cons.1 he with rfl | he
   ·simp[Ent.gk] at hq;subst hq;simp
   ·exact h1.gst.sz en he q hq
  ·simp[Ent.gk] at hq;subst hq;have:=hold en he _ hq';omega
  ·rcases List.mem_cons.1 he with rfl | he
   ·simp[Ent.gk] at hq;subst hq;exact hz i
   ·exact h1.gst.cap en he q hq i hi) hn
end
end Go.Proofs.YtmjlemhondjfhaaGreatDoor.Q
namespace Go.Proofs.YtmjlemhondjfhaaGreatDoor
open Go
end Go.Proofs.YtmjlemhondjfhaaGreatDoor
namespace Go.Proofs.YtmjlemhondjfhaaGreatDoor.Q
open Go Go.RowKit Go.ChangeMaps
set_option linter.unusedVariables false
set_option linter.unusedSimpArgs false
end Go.Proofs.YtmjlemhondjfhaaGreatDoor.Q
namespace Go.Proofs.YtmjlemhondjfhaaGreatDoor.Q
open Go Go.RowKit
set_option linter.unusedVariables false
set_option linter.unusedSimpArgs false
set_option maxRecDepth 100000
set_option maxHeartbeats 4000000
@[reducible] def J5 (x:Bool):Rp:=rB x
theorem Tq (Z:Fz):(J5 false).p Z (.bool false):=rfl
@[reducible] def A1 (x:AI):(Nat→List Rp)×List (List UInt8×Rp):=(λr=>[rS x.fText,rS x.fBefore,A2 x.fVersion,A2 x.fUntil,A2 x.fNow,rv (.map (some r))],Bj J5 x.fBound)
theorem Z8 (parts:List (Nat×Value)):Tryz.prog.built 156 parts=Instr.fill (λi=>(#[(0,1)]:Array (Nat×Nat))[i]?) #[((.map none))] parts:=by kernel_rfl
theorem RA {n:Nat}{c:Cx}{l:Fr}{H:List Ent}{d:Option Nat}{ty:TypeId}{pos:String}{af:Array Edge}{g:Option (Nat×Bool)}{x0:Operand}{r0:Rp}(h0:ev l x0=some r0)(u0:r0.one=true):BD Tryz.prog n c l H { dst:=d,op:=.build 156 #[(0,x0)],type:=ty,pos:=pos,after:=af,guard:=g } (B3 [r0]):=λa w Z ha _=>by
  have p0:=ha.ev h0;have c0:=B0 (r0.hone u0 Z _ p0);have hb:Tryz.prog.built 156 [(0,a.eval x0)]=some #[a.eval x0]:=by
    rw[Z8];generalize a.eval x0=v0 at *;simp[Instr.fill,c0]
  refine⟨.agg #[a.eval x0],⟨[a.eval x0],rfl,p0,trivial⟩,?_⟩;have:=run_build w 156 #[(0,a.eval x0)] _ (by simpa using hb);simp[execOp,this]
theorem Z7 (parts:List (Nat×Value)):Tryz.prog.built 162 parts=Instr.fill (λi=>(#[(0,1),(1,1),(2,1),(3,1),(4,1),(5,1)]:Array (Nat×Nat))[i]?) #[(.string ⟨#[]⟩),(.string ⟨#[]⟩),(.int .i64 0),(.int .i64 0),(.int .i64 0),((.map none))] parts:=by kernel_rfl
theorem Nq {n:Nat}{c:Cx}{l:Fr}{H:List Ent}{d:Option Nat}{ty:TypeId}{pos:String}{af:Array Edge}{g:Option (Nat×Bool)}{x0:Operand}{r0:Rp}(h0:ev l x0=some r0)(u0:r0.one=true){x2:Operand}{r2:Rp}(h2:ev l x2=some r2)(u2:r2.one=true){x5:Operand}{r5:Rp}(h5:ev l x5=some r5)(u5:r5.one=true):BD Tryz.prog n c l H { dst:=d,op:=.build 162 #[(0,x0),(2,x2),(5,x5)],type:=ty,pos:=pos,after:=af,guard:=g } (B3 [r0,rS ([]:Ae),r2,A2 0,A2 0,r5]):=λa w Z ha _=>by
  have p0:=ha.ev h0;have c0:=B0 (r0.hone u0 Z _ p0);have p2:=ha.ev h2;have c2:=B0 (r2.hone u2 Z _ p2);have p5:=ha.ev h5;have c5:=B0 (r5.hone u5 Z _ p5);have hb:Tryz.prog.built 162 [(0,a.eval x0),(2,a.eval x2),(5,a.eval x5)]=some #[a.eval x0,(.string ⟨#[]⟩),a.eval x2,(.int .i64 0),(.int .i64 0),a.eval x5]:=by
    rw[Z7];generalize a.eval x0=v0 at *;generalize a.eval x2=v2 at *;generalize a.eval x5=v5 at *;simp[Instr.fill,c0,c2,c5]
  refine⟨.agg #[a.eval x0,(.string ⟨#[]⟩),a.eval x2,(.int .i64 0),(.int .i64 0),a.eval x5],⟨[a.eval x0,(.string ⟨#[]⟩),a.eval x2,(.int .i64 0),(.int .i64 0),a.eval x5],rfl,p0,rfl,p2,rfl,rfl,p5,trivial⟩,?_⟩;have:=run_build w 162 #[(0,a.eval x0),(2,a.eval x2),(5,a.eval x5)] _ (by simpa using hb);simp[execOp,this]
theorem Ej (ys:(List Ab))(r:(List Ab))(h:Es ys=some r):Fn Tryz.prog GE 59 [AK 4 (Az Ai ys)] [] (λR H=>R=AK 4 (Az Ai r)∧H=[]):=by
 refine enter (n:=8) Tryz.func59 Aa Tryz.ntmps59 Aa (λw Z=>?_);unfold Es at h;refine Ah (wa Aa (Ap (Al (Ah (wm Aa (wv (KJ Ef Aa) (Ap (Mg Aa (λc1=>?_) (λc1=>?_)))))))))
 ·have e2:ys=[]:=List.map_eq_nil_iff.1 (c1 rfl);have h3:some ([]:List Ab)=some r:=by rw[e2] at h;exact(Ri h).2
  refine Ah (wa Aa (Ap (Ar (Ac (WK.up (d:=2) (r:=AK 4 (Az Ai ([]:List Ab))) Aa (Up.le (GA.nil _)) ?_)))));obtain rfl:=Av h3;exact As (BH Tryz.results59 (AQ Aa)) sN ⟨Aa,Aa⟩
 refine A0 (Bb (Ah (Bg (ys:=([]:List Ab)) (enc:=Ai) (css:=[]) (xs:=[]) Ef E0 Oe Aa Aa Aa trivial Aa C9 Aa Aa Aa (λb4=>?_))));refine wm Aa (ck h λg6 h7=>Exists.elim Acg λinf hinf=>Di (xs:=([]:List Ab)) (ys:=ys) (enc:=Ai) (i:=0) Ef hinf.1 hinf.2.1 hinf.2.2.1 hinf.2.2.2 Aa Aa Aa Aa Aa (NC.z Aa Aa) C9 Qx g6 Aa (λv5=>?_));refine wa Aa (Ap (Ar (WK.freeze (i:=0) Aa (WK.up (d:=2) (r:=AK 4 (Az Ai (([]:List Ab)++ys))) Aa (Up.fact (i:=0) Aa) ?_))));obtain rfl:=Av h7;exact As (BH Tryz.results59 (AQ Aa)) (sS sN) ⟨Aa,Aa⟩
theorem Uy (c:Int)(r:Bool)(h:Mw c=some r):Fn Tryz.prog GE 158 [rI .u8 c] [] (λR H=>R=rB r∧H=[]):=by
 refine enter (n:=9) Tryz.func158 Aa Tryz.ntmps158 Aa (λw Z=>?_);unfold Mw at h;refine Ah (wa Aa (Ap (AC [(2,rB ((decide (c<33))||(decide (126<c))))] [] ?_ ?_)))
 ·refine Ak (wm Aa (wv (CP Aa Aa) (wm Aa (Bd (decide (c<33)) (λc1=>?_) (λc1=>?_)))))
  ·refine wf c1 (wf c1 (wv (r:=rB true) (AF Aa c1 Aa) (wa Aa (Aq ?_))));exact Cy c1
  refine wo c1 (wm Aa (wo c1 (wv (Gy Aa Aa) (MY Aa c1 Aa (wa Aa (Aq ?_))))));exact Cy c1
 refine Ar ?_;obtain rfl:=Av h;exact As (BH Tryz.results158 (AQ Aa)) sN ⟨Aa,Aa⟩
theorem YZ (F:Nat)(ys:(List Int))(r:Int)(h:RK F ys=some r):Fn Tryz.prog GE 186 [AK 1 (Az Ct ys),rv (.func (.func 158) #[] #[])] [] (λR H=>R=A2 r∧H=[]):=by
 refine enter (n:=19) Tryz.func186 Aa Tryz.ntmps186 Aa (λw Z=>?_);unfold RK at h;refine Ah (wa Aa (Ap (Al (Ah (wm Aa (wv (By (ys:=ys) (enc:=Ct) JW Aa) (wv (r:=A2 0) (Aj Aa) (Ap (AH (ob h λhh hi hg=>BG (S:=Nat×(Int)×(Unit)) (V:=(Unit)×(Unit)) 0 (λσ=>Cl (λσ=>GJ ys σ) σ.1 σ.2.1=some hh) (λσ=>[(0,AK 1 (Az Ct ys)),(1,rv (.func (.func 158) #[] #[])),(7,A2 (ys.length:Int)),(8,A2 σ.2.1)]) (λσ=>[]) (λσ=>σ.1) (F,0,()) hi (AV.c Aa (AV.c Aa (AV.c Aa (AV.c Aa AV.nil)))) sN (λσ=>Jh =some r) (λσ=>[]) (λσ=>[]) ?_ ?_))))))))))
 ·rintro⟨h4,hb,⟨⟩⟩ hj;refine H6 ?_;obtain⟨hk,rfl,hl,hd,hf⟩:=CD hj;replace hd:GJ ys hb=some hl:=hd;unfold GJ at hd;refine Ah (wv (CP Aa Aa) (Ap (Al (cz hd Aa (λhm hn=>?_) (λhm hp=>?_)))))
  ·refine A0 (Bb (Al (AH (Ah (wm Aa (wa Aa (Bu (wm Aa (wm Aa (wm Aa (ck hn λhq hr=>wv (Bl (enc:=Ct) (ys:=ys) JW Tryz.sizeOf5 Aa Aa hq) (wv (Bc Tryz.isAgg5 Aa Aa) (ob hr λhs ht hu=>GV (rs:=[rI .u8 (An ys hb)]) (Hin:=[]) (Hr:=[]) Tryz.call158 Aa Aa (Aet _) (Uy (An ys hb) hs ht) Aa ?_)))))))))))));rintro _ _ ⟨rfl,rfl⟩;refine Ap (cz hu Aa (λhw hx=>?_) (λhw hy=>?_))
   ·refine Ah (wm Aa (wa Aa (Ap (Ar (A8 (Ac (Ac (B7 ?_))))))));have hz:=Ca hx hf hg;refine A8 (Ac ?_);obtain rfl:=Av hz;exact As (BH Tryz.results186 (AQ Aa)) sN ⟨Aa,Aa⟩
   refine A0 (AN (Bb (Ak (ck hy λh0 h1=>wv (BM Aa Aa h0) (wm Aa (Aq ?_))))));have h2:=B8 h1 hf;exact A9 (AZ (hk,hb+1,()) ⟨h2,Aew _⟩ (AV.c Aa (AV.c Aa (AV.c Aa (AV.c Aa AV.nil)))) sN)
  refine BE (Ay ?_);have h3:=BW hp hf hg;exact Ay (Bq (AZ ((),()) h3 AV.nil sN))
 rintro⟨⟨⟩,⟨⟩⟩ he;refine Ir ?_;replace he:Jh =some r:=he;unfold Jh at he;refine Bo (Bb (Ah (wv (r:=A2 (-1)) (A4 Aa) (Ap (Ar ?_)))));obtain rfl:=Av he;exact As (BH Tryz.results186 (AQ Aa)) sN ⟨Aa,Aa⟩
theorem Xw (F:Nat)(ys:(List Int))(r:Bool)(h:I6 F ys=some r):Fn Tryz.prog GE 157 [AK 1 (Az Ct ys),rv (.func (.func 158) #[] #[])] [] (λR H=>R=rB r∧H=[]):=by
 refine enter (n:=9) Tryz.func157 Aa Tryz.ntmps157 Aa (λw Z=>?_);unfold I6 at h;refine Ah (wa Aa (Bu (wm Aa (wm Aa (ob h λr1 e3 h2=>Cp Tryz.call186 (YZ F ys r1 e3) Aa (wv (EL Aa Aa) (wa Aa (Ap (Ar ?_)))))))));obtain rfl:=Av h2;exact As (BH Tryz.results157 (AQ Aa)) sN ⟨Aa,Aa⟩
theorem WR (F:Nat)(s:Ae)(r:Bool)(h:Mx F s=some r):Fn Tryz.prog GE 111 [rS s] [] (λR H=>R=rB r∧H=[]):=by
 refine enter (n:=16) Tryz.func111 Aa Tryz.ntmps111 Aa (λw Z=>?_);unfold Mx at h;refine Ah (wa Aa (Ap (ck h λg1 h2=>ck h2 λg3 h4=>AC [(2,rB ((!decide (s=([]:Ae)))&&((decide ((s.length:Int)≤200))&&(!(ov (I6 F (EK s)))))))] [] ?_ ?_)))
 ·refine Ak (wm Aa (wv (NQ Aa Aa) (wm Aa (Bd (!decide (s=([]:Ae))) (λc5=>?_) (λc5=>?_)))))
  ·refine wo c5 (wm Aa (wo c5 (wv (BS DH Aa) (wo c5 (wv (JQ Aa Aa) (GG Aa c5 Aa (wm Aa (Bd (decide ((s.length:Int)≤200)) (λc6=>?_) (λc6=>?_)))))))))
   ·refine wo c6 (wm Aa (wo c6 (AcB DH JW Tryz.underlying5 Aa (BX (BX g1 c5) c6) Aa (wo c6 (Cp Tryz.call157 (Xw F (EK s) (ov (I6 F (EK s))) (CL (BX (BX g3 c5) c6))) Aa (wo c6 (wv (Cn Aa) (GG Aa c6 Aa (wa Aa (Aq ?_))))))))));exact Cy (And.intro c5 c6)
   refine wf c6 (wf c6 (wf c6 (wf c6 (wv (r:=rB false) (A3 Aa c6 Aa) (wa Aa (Aq ?_))))));exact Cy (And.intro c5 c6)
  refine wf c5 (wf c5 (wf c5 (wv (r:=rB false) (A3 Aa c5 Aa) (wm Aa (wz Aa Aa (wz Aa Aa (wz Aa Aa (wz Aa Aa (wv (r:=rB false) (A3 (b:=false) Aa Aa Aa) (wa Aa (Aq ?_)))))))))));exact Cy c5
 refine Ar ?_;obtain rfl:=Av h4;exact As (BH Tryz.results111 (AQ Aa)) sN ⟨Aa,Aa⟩
theorem Ry  (r:(Bh×(List AI)))(h:SK=some r):Fn Tryz.prog GE 48 [] [] (λR H=>∃u0:Nat,∃u0_0:Nat,∃u0_p0:Value,R=rP u0 0∧H=[.blk u0 [rv (.map (some u0_0))] 156,.map u0_0 (Bj (mP u0_0) r.1.fSecrets),.poolm u0_0 u0_p0 162 (Az A1 r.2) none]):=by
 refine enter (n:=4) Tryz.func48 Aa Tryz.ntmps48 Aa (λw Z=>?_);unfold SK at h;refine Ah (wa Aa (Bu (Oi (e:=162) Aa (λb1=>?_))));refine wv (r:=B3 [rv (.map (some b1))]) (RA Aa Aa) (Cf Aa Aa (λb2=>?_));refine wa Aa (Ap (Ar (JY [0,1] ?_)));obtain rfl:=Av h;exact As (BH Tryz.results48 (AQ Aa)) (sC (sC (sC sN))) ⟨b2,b1,(.tuple #[]),Aa,Aa⟩
theorem SL (name:Ae)(r:Unit×Unit)(h:Ni name=some r):Fn Tryz.prog GE 110 [rv (.pointer none),rS name] [] (λR H=>R=Dr [rv (.pointer none),A2 10]∧H=[]):=by
 refine enter (n:=29) Tryz.func110 Aa Tryz.ntmps110 Aa (λw Z=>?_);unfold Ni at h;refine Ah (wa Aa (wa Aa (Ap (Al (AC [(0,rv (.pointer none)),(1,rS name),(16,rB true)] [] ?_ ?_)))))
 ·refine Ak (wm Aa (wv (r:=rB true) (M7 ⟨_,Wu⟩ Aa) (wm Aa (wz Aa Aa (wz Aa Aa (wz Aa Aa (wz Aa Aa (wz Aa Aa (wv (r:=rB true) (AF (b:=true) Aa Aa Aa) (Aq ?_))))))))));exact wt
 refine CG Aa Aa (Ah (wa Aa (wa Aa (Ap (Ar (Ac ?_))))));obtain rfl:=Av h;exact As (Iy Tryz.results110 (AQ Aa) (AQ Aa)) sN ⟨Aa,Aa⟩
theorem Pd (hd:Nat)(hb:Nat)(hf:Value)(v:Bh)(he:(List AI))(name:Ae)(r:Int×Int)(h:LC v he name=some r):Fn Tryz.prog GE 110 [rP hd 0,rS name] [.blk hd [rv (.map (some hb))] 156,.map hb (Bj (mP hb) v.fSecrets),.poolm hb hf 162 (Az A1 he) none] (λR H=>R=Dr [ZH hb r.1 0,A2 r.2]∧H=[.blk hd [rv (.map (some hb))] 156,.map hb (Bj (mP hb) v.fSecrets),.poolm hb hf 162 (Az A1 he) none]):=by
 refine enter (n:=29) Tryz.func110 Aa Tryz.ntmps110 Aa (λw Z=>?_);unfold LC at h;refine Ah (wa Aa (wa Aa (Ap (Al (AC [(0,rP hd 0),(1,rS name),(16,rB false)] [.blk hd [rv (.map (some hb))] 156,.map hb (Bj (mP hb) v.fSecrets),.poolm hb hf 162 (Az A1 he) none] ?_ ?_)))))
 ·refine Ak (wm Aa (wv (r:=rB false) (J4 ⟨_,Wu⟩ Aa) (wm Aa (Bf (b:=false) Aa Aa Aa (wm Aa (Bf (b:=false) Aa Aa Aa (wv (AD Aa) (Bf (b:=false) Aa Aa Aa (vF Q2 Aa Q4 (Bf (b:=false) Aa Aa Aa (vL 0 Q6 Aa (Bf (b:=false) Aa Aa Aa (wv (r:=rB false) (YC (v:=some hb) Q3 Aa) (wv (r:=rB false) (A3 (b:=false) Aa Aa Aa) (Aq ?_)))))))))))))));exact wt
 refine CS Aa Aa (A0 (Bb (Ah (wm Aa (wv (AD Aa) (vF Q2 Aa Q4 (vL 0 Q6 Aa (wm Aa (wv (r:=Dr [ZH hb (E9 v.fSecrets name (-1)) 0,rB (DL v.fSecrets name)]) (VF (enc:=(mP hb)) (xs:=v.fSecrets) (z:=(-1)) (i:=1) Q3 DH Tryz.zeroValue157 (AdL hb) Aa Aa Aa) (wm Aa (wv (A5 Aa Aa) (wv (A5 Aa Aa) (wa Aa (wa Aa (Ap (Al (Ah (wm Aa (wv (Cn Aa) (Ap (cz h Aa (λc1 h2=>?_) (λc1 h3=>?_))))))))))))))))))))))
 ·refine Ah (wa Aa (wa Aa (Ap (Ar (Ac (WK.up (d:=4) (r:=ZH hb (-1) 0) Aa (Up.le (GA.pnil _)) ?_))))));obtain rfl:=Av h2;exact As (Iy Tryz.results110 (AQ Aa) (AQ Aa)) (sC (sC (sC sN))) ⟨Aa,Aa⟩
 refine A0 (Bb (Ah (wm Aa (wa Aa (wa Aa (Ap (Ar ?_)))))));obtain rfl:=Av h3;exact As (Iy Tryz.results110 (AQ Aa) (AQ Aa)) (sC (sC (sC sN))) ⟨Aa,Aa⟩
theorem Rx (F:Nat)(hf:Nat)(hb:Nat)(hd:Value)(v:Bh)(he:(List AI))(name:Ae)(text:Ae)(r:Int×Bh×(List AI))(h:Pc F v he name text=some r):Fn Tryz.prog GE 49 [rP hf 0,rS name,rS text] [.blk hf [rv (.map (some hb))] 156,.map hb (Bj (mP hb) v.fSecrets),.poolm hb hd 162 (Az A1 he) none] (λR H=>∃w0_p0:Value,R=A2 r.1∧H=[.blk hf [rv (.map (some hb))] 156,.map hb (Bj (mP hb) r.2.1.fSecrets),.poolm hb w0_p0 162 (Az A1 r.2.2) none]):=by
 refine enter (n:=46) Tryz.func49 Aa Tryz.ntmps49 Aa (λw Z=>?_);unfold Pc at h;refine Ah (wa Aa (Bu (wm Aa (wm Aa (ob h λr1 e3 h2=>EN [0,0,0] Tryz.call110 (Pd hf hb hd v he name r1 e3) ?_)))));rintro _ _ ⟨rfl,rfl⟩;refine wm Aa (wv (A5 Aa Aa) (wv (A5 Aa Aa) (wa Aa (wa Aa (Ap (Al (AH (Ah (wm Aa (wv (Ce Aa Aa) (wa Aa (Ap (cz h2 Aa (λc4 h5=>?_) (λc4 h6=>?_))))))))))))))
 ·refine Ah (wm Aa (wa Aa (Ap (Ar (A8 (Ac ?_))))));obtain rfl:=Av h5;exact As (BH Wz (AQ Aa)) (sC (sC (sC sN))) ⟨hd,Aa,Aa⟩
 refine Ah (wm Aa (Cq (rs:=[rS name]) (r:=rB (CK name)) XU Aa (P1 name) Aa Aa (wv (Cn Aa) (wa Aa (Ap (cz h6 Aa (λc7 h8=>?_) (λc7 h9=>?_)))))))
 ·refine Ah (wa Aa (Ap (Ar (A8 (Ac ?_)))));obtain rfl:=Av h8;exact As (BH Wz (AQ Aa)) (sC (sC (sC sN))) ⟨hd,Aa,Aa⟩
 refine Ah (wm Aa (ob h9 λhg hh hi=>Cp Tryz.call111 (WR F text hg hh) Aa (wv (Cn Aa) (wa Aa (Ap (cz hi Aa (λhj hk=>?_) (λhj hl=>?_)))))))
 ·refine Ah (wa Aa (Ap (Ar (A8 (Ac ?_)))));obtain rfl:=Av hk;exact As (BH Wz (AQ Aa)) (sC (sC (sC sN))) ⟨hd,Aa,Aa⟩
 refine Ah (wm Aa (wv (Ce Aa Aa) (wa Aa (Ap (cz hl Aa (λhm hn=>?_) (λhm hp=>?_))))))
 ·refine Ah (wa Aa (Ap (Ar (A8 (Ac ?_)))));obtain rfl:=Av hn;exact As (BH Wz (AQ Aa)) (sC (sC (sC sN))) ⟨hd,Aa,Aa⟩
 refine Ah (wm Aa (wv (AD Aa) (vF Q2 Aa Q4 (vL 0 Q6 Aa (wv (r:=A2 (v.fSecrets.length:Int)) (YD (N:=v.fSecrets.length) (i:=1) Q3 Aa Aa (Kj _ _)) (wv (EL Aa Aa) (wa Aa (Ap (cz hp Aa (λhq hr=>?_) (λhq hs=>?_))))))))))
 ·refine Ah (wa Aa (Ap (Ar (A8 (Ac ?_)))));obtain rfl:=Av hr;exact As (BH Wz (AQ Aa)) (sC (sC (sC sN))) ⟨hd,Aa,Aa⟩
 refine A0 (AN (Bb (Ah (wm Aa (wv (AD Aa) (vF Q2 Aa Q4 (vL 0 Q6 Aa (wm Aa (wm Aa (Nc Aa (λht=>?_)))))))))));refine wv (r:=B3 [rS text,rS ([]:Ae),A2 1,A2 0,A2 0,rv (.map (some ht))]) (Nq Aa Aa Aa Aa Aa Aa) (Cf Aa Aa (λhu=>?_));refine WL.adoptM (encw:=A1) (xs:=he) (y:=(AI.mk text ([]:Ae) 1 0 0 ([]:List (Ae×Bool)))) (Hr:=[.blk hf [rv (.map (some hb))] 156,.map hb (Bj (mP hb) v.fSecrets)]) ((AO (i:=0) Aa).trans (Aer _ ((AO (i:=0) Aa).trans (Aer _ ((AO (i:=2) Aa).trans (Aer _ (Aet _))))))) [45] ⟨Aa,trivial⟩ Aa Aa (λv24=>?_);refine Ow (enc:=(mP hb)) (xs:=v.fSecrets) (v:=(he.length:Int)) (i:=2) Q3 DH Aa Aa Aa Aa (H':=[.poolm hb v24 162 (Az A1 (he++[(AI.mk text ([]:Ae) 1 0 0 ([]:List (Ae×Bool)))])) none,.blk hf [rv (.map (some hb))] 156,.map hb (Bj (mP hb) (mset v.fSecrets name (he.length:Int)))]) Aa (Bu (wa Aa (Ap (Ar (JY [1,1] ?_)))));obtain rfl:=Av hs;exact As (BH Wz (AQ Aa)) (sC (sC (sC sN))) ⟨v24,Aa,Aa⟩
theorem Pe (he:Nat)(hd:Nat)(hf:Value)(v:Bh)(hb:(List AI))(name:Ae)(function:Ae)(r:Int×Bh×(List AI))(h:LD v hb name function=some r):Fn Tryz.prog GE 50 [rP he 0,rS name,rS function] [.blk he [rv (.map (some hd))] 156,.map hd (Bj (mP hd) v.fSecrets),.poolm hd hf 162 (Az A1 hb) none] (λR H=>∃w0_p0:Value,R=A2 r.1∧H=[.blk he [rv (.map (some hd))] 156,.map hd (Bj (mP hd) r.2.1.fSecrets),.poolm hd w0_p0 162 (Az A1 r.2.2) none]):=by
 refine enter (n:=42) Tryz.func50 Aa Tryz.ntmps50 Aa (λw Z=>?_);unfold LD at h;refine Ah (wa Aa (Bu (wm Aa (wm Aa (ob h λr1 e3 h2=>EN [0,0,0] Tryz.call110 (Pd he hd hf v hb name r1 e3) ?_)))));rintro _ _ ⟨rfl,rfl⟩;refine wm Aa (wv (A5 Aa Aa) (wv (A5 Aa Aa) (wa Aa (wa Aa (Ap (Al (AH (Ah (wm Aa (wv (CZ Aa Aa) (wa Aa (Ap (cz h2 Aa (λc4 h5=>?_) (λc4 h6=>?_))))))))))))))
 ·refine Ah (wm Aa (wa Aa (Ap (Ar (A8 (Ac ?_))))));obtain rfl:=Av h5;exact As (BH XT (AQ Aa)) (sC (sC (sC sN))) ⟨hf,Aa,Aa⟩
 refine Ah (wm Aa (Cq (rs:=[rS function]) (r:=rB (CK function)) XU Aa (P1 function) Aa Aa (wv (Cn Aa) (wa Aa (Ap (cz h6 Aa (λc7 h8=>?_) (λc7 h9=>?_)))))))
 ·refine Ah (wa Aa (Ap (Ar (A8 (Ac ?_)))));obtain rfl:=Av h8;exact As (BH XT (AQ Aa)) (sC (sC (sC sN))) ⟨hf,Aa,Aa⟩
 refine Ah (wm Aa (ck h9 λhh hj=>WL.mtakeout (encw:=A1) (xs:=hb) (i:=r1.1) (Hr:=[.blk he [rv (.map (some hd))] 156,.map hd (Bj (mP hd) v.fSecrets)]) ((AO (i:=2) Aa).trans (Aer _ (Aet _))) hh [7,13,24] ⟨Aa,Aa,Aa,trivial⟩ (λhi hg=>?_)));refine Uk (H':=[.blk hi [rS ((An hb r1.1).fText),rS ((An hb r1.1).fBefore),A2 ((An hb r1.1).fVersion),A2 ((An hb r1.1).fUntil),A2 ((An hb r1.1).fNow),rv (.map (some hg))] 162,.map hg (Bj J5 ((An hb r1.1).fBound)),.poolm hd hf 162 (Az A1 hb) (some (Cc r1.1,(hi,hg))),.blk he [rv (.map (some hd))] 156,.map hd (Bj (mP hd) v.fSecrets)]) Aa (wv (AD Aa) (vF NG Aa Vd (vL 0 Tryz.isAgg160 Aa (wm Aa (wv (r:=rB (E9 ((An hb r1.1).fBound) function false)) (YE (enc:=J5) (xs:=(An hb r1.1).fBound) (z:=false) (i:=1) Vc DH yz4 Tq Aa Aa Aa) (wa Aa (Ap (cz hj Aa (λhk hl=>?_) (λhk hm=>?_)))))))))
 ·refine Ah (wa Aa (Ap (Ar (A8 (Ac (WK.mputsame (encw:=A1) (xs:=hb) (i:=r1.1) (Hr:=[.blk he [rv (.map (some hd))] 156,.map hd (Bj (mP hd) v.fSecrets)]) (Aet _) hh [7,13,24,25] ⟨Aa,Aa,Aa,Aa,trivial⟩ Aa Aa (JY [1,1] ?_)))))));obtain rfl:=Av hl;exact As (BH XT (AQ Aa)) (sC (sC (sC sN))) ⟨hf,Aa,Aa⟩
 refine Ah (wm Aa (wv (AD Aa) (vF NG Aa Vd (vL 0 Tryz.isAgg160 Aa (wv (r:=A2 (((An hb r1.1).fBound).length:Int)) (YD (N:=((An hb r1.1).fBound).length) (i:=1) Vc Aa Aa (Kj _ _)) (wv (EL Aa Aa) (wa Aa (Ap (cz hm Aa (λhn hp=>?_) (λhn hq=>?_))))))))))
 ·refine Ah (wa Aa (Ap (Ar (A8 (Ac (WK.mputsame (encw:=A1) (xs:=hb) (i:=r1.1) (Hr:=[.blk he [rv (.map (some hd))] 156,.map hd (Bj (mP hd) v.fSecrets)]) (Aet _) hh [7,13,24,25,31,32] ⟨Aa,Aa,Aa,Aa,Aa,Aa,trivial⟩ Aa Aa (JY [1,1] ?_)))))));obtain rfl:=Av hp;exact As (BH XT (AQ Aa)) (sC (sC (sC sN))) ⟨hf,Aa,Aa⟩
 refine A0 (AN (Bb (Ah (wm Aa (wv (AD Aa) (vF NG Aa Vd (vL 0 Tryz.isAgg160 Aa (wm Aa (Ow (enc:=J5) (xs:=(An hb r1.1).fBound) (v:=true) (i:=1) Vc DH Aa Aa Aa Aa (H':=[.blk hi [rS ((An hb r1.1).fText),rS ((An hb r1.1).fBefore),A2 ((An hb r1.1).fVersion),A2 ((An hb r1.1).fUntil),A2 ((An hb r1.1).fNow),rv (.map (some hg))] 162,.map hg (Bj J5 (mset ((An hb r1.1).fBound) function true)),.poolm hd hf 162 (Az A1 hb) (some (Cc r1.1,(hi,hg))),.blk he [rv (.map (some hd))] 156,.map hd (Bj (mP hd) v.fSecrets)]) Aa (Bu (wa Aa (Ap (Ar (WK.mputback (y:=(AI.mk ((An hb r1.1).fText) ((An hb r1.1).fBefore) ((An hb r1.1).fVersion) ((An hb r1.1).fUntil) ((An hb r1.1).fNow) (mset ((An hb r1.1).fBound) function true))) (encw:=A1) (xs:=hb) (i:=r1.1) (Hr:=[.blk he [rv (.map (some hd))] 156,.map hd (Bj (mP hd) v.fSecrets)]) (Aet _) hh [7,13,24,25,31,32,37,38] ⟨Aa,Aa,Aa,Aa,Aa,Aa,Aa,Aa,trivial⟩ Aa Aa (λv20=>?_)))))))))))))));refine JY [1,1] ?_;obtain rfl:=Av hq;exact As (BH XT (AQ Aa)) (sC (sC (sC sN))) ⟨v20,Aa,Aa⟩
theorem SJ (name:Ae)(function:Ae)(r:Ae×Int×Int)(h:KH name function=some r):Fn Tryz.prog GE 264 [rv (.pointer none),rS name,rS function] [] (λR H=>R=Dr [rS r.1,A2 r.2.1,A2 r.2.2]∧H=[]):=by
 refine enter (n:=37) Tryz.func264 Aa Tryz.ntmps264 Aa (λw Z=>?_);unfold KH at h;refine Ah (wv (r:=rS ([]:Ae)) (A4 Aa) (wa Aa (wa Aa (Bu (wm Aa (wm Aa (ob h λr1 e3 h2=>Cp Tryz.call110 (SL name r1 e3) Aa (wm Aa (wv (A5 Aa Aa) (wv (A5 Aa Aa) (wa Aa (wa Aa (Ap (Al (AH (Ah (wm Aa (wv (CZ Aa Aa) (wa Aa (Ap (CG Aa (AcX (by decide)) (Ah ?_))))))))))))))))))))));refine wm Aa (wv (r:=rS ([]:Ae)) (A4 Aa) (wa Aa (wa Aa (Ap (Ar (A8 (Ac ?_)))))));obtain rfl:=Av h2;exact As (V1 Ve (AQ Aa) (AQ Aa) (AQ Aa)) sN ⟨Aa,Aa⟩
theorem Yq (he:Nat)(hb:Nat)(hf:Value)(v:Bh)(hd:(List AI))(name:Ae)(function:Ae)(r:Ae×Int×Int)(h:LB v hd name function=some r):Fn Tryz.prog GE 264 [rP he 0,rS name,rS function] [.blk he [rv (.map (some hb))] 156,.map hb (Bj (mP hb) v.fSecrets),.poolm hb hf 162 (Az A1 hd) none] (λR H=>R=Dr [rS r.1,A2 r.2.1,A2 r.2.2]∧H=[.blk he [rv (.map (some hb))] 156,.map hb (Bj (mP hb) v.fSecrets),.poolm hb hf 162 (Az A1 hd) none]):=by
 refine enter (n:=37) Tryz.func264 Aa Tryz.ntmps264 Aa (λw Z=>?_);unfold LB at h;refine Ah (wv (r:=rS ([]:Ae)) (A4 Aa) (wa Aa (wa Aa (Bu (wm Aa (wm Aa (ob h λr1 e3 h2=>EN [0,0,0] Tryz.call110 (Pd he hb hf v hd name r1 e3) ?_)))))));rintro _ _ ⟨rfl,rfl⟩;refine wm Aa (wv (A5 Aa Aa) (wv (A5 Aa Aa) (wa Aa (wa Aa (Ap (Al (AH (Ah (wm Aa (wv (CZ Aa Aa) (wa Aa (Ap (cz h2 Aa (λc4 h5=>?_) (λc4 h6=>?_))))))))))))))
 ·refine Ah (wm Aa (wv (r:=rS ([]:Ae)) (A4 Aa) (wa Aa (wa Aa (Ap (Ar (A8 (Ac ?_))))))));obtain rfl:=Av h5;exact As (V1 Ve (AQ Aa) (AQ Aa) (AQ Aa)) (sC (sC (sC sN))) ⟨Aa,Aa⟩
 refine Ah (wm Aa (ck h6 λg7 h8=>WL.mtakeout (encw:=A1) (xs:=hd) (i:=r1.1) (Hr:=[.blk he [rv (.map (some hb))] 156,.map hb (Bj (mP hb) v.fSecrets)]) ((AO (i:=2) Aa).trans (Aer _ (Aet _))) g7 [9,15,22] ⟨Aa,Aa,Aa,trivial⟩ (λb9 hg=>?_)));refine Uk (H':=[.blk b9 [rS ((An hd r1.1).fText),rS ((An hd r1.1).fBefore),A2 ((An hd r1.1).fVersion),A2 ((An hd r1.1).fUntil),A2 ((An hd r1.1).fNow),rv (.map (some hg))] 162,.map hg (Bj J5 ((An hd r1.1).fBound)),.poolm hb hf 162 (Az A1 hd) (some (Cc r1.1,(b9,hg))),.blk he [rv (.map (some hb))] 156,.map hb (Bj (mP hb) v.fSecrets)]) Aa (wv (AD Aa) (vF NG Aa Vd (vL 0 Tryz.isAgg160 Aa (wm Aa (wv (r:=rB (E9 ((An hd r1.1).fBound) function false)) (YE (enc:=J5) (xs:=(An hd r1.1).fBound) (z:=false) (i:=1) Vc DH yz4 Tq Aa Aa Aa) (wv (Cn Aa) (wa Aa (Ap (cz h8 Aa (λhh hi=>?_) (λhh hj=>?_))))))))))
 ·refine Ah (wv (r:=rS ([]:Ae)) (A4 Aa) (wa Aa (wa Aa (Ap (Ar (A8 (Ac (WK.mputsame (encw:=A1) (xs:=hd) (i:=r1.1) (Hr:=[.blk he [rv (.map (some hb))] 156,.map hb (Bj (mP hb) v.fSecrets)]) (Aet _) g7 [9,15,22,23] ⟨Aa,Aa,Aa,Aa,trivial⟩ Aa Aa (JY [1,1] ?_)))))))));obtain rfl:=Av hi;exact As (V1 Ve (AQ Aa) (AQ Aa) (AQ Aa)) (sC (sC (sC sN))) ⟨Aa,Aa⟩
 refine A0 (AN (Bb (Al (CJ [9] ?_))));refine rq (Aj Aa) (rq (AD Aa) (rq (Am NG Aa Dc Aa Aa) (rq (AU (i:=0) DQ Aa Aa Aa) (rq (Aj Aa) (rq (AD Aa) (rq (Am NG Aa Ee Aa Aa) (rq (AU (i:=0) Gn Aa Aa Aa) (rq (A4 Aa) (rq (A4 Aa) (rq (r:=A2 0) (A4 Aa) (re [6,7,8] ?_)))))))))));refine Bb (Ar (WK.mputsame (encw:=A1) (xs:=hd) (i:=r1.1) (Hr:=[.blk he [rv (.map (some hb))] 156,.map hb (Bj (mP hb) v.fSecrets)]) (Aet _) g7 [] trivial Aa Aa (JY [1,1] ?_)));obtain rfl:=Av hj;exact As (V1 Ve (AQ Aa) (AQ Aa) (AQ Aa)) (sC (sC (sC sN))) ⟨Aa,Aa⟩
theorem Qn (s:Ae)(r:Ae)(h:Ix s=some r):Fn Tryz.prog GE 265 [rv (.pointer none),rS s] [] (λR H=>R=rS r∧H=[]):=by
 refine enter (n:=66) Tryz.func265 Aa Tryz.ntmps265 Aa (λw Z=>?_);unfold Ix at h;refine Ah (wv (r:=rS ([]:Ae)) (A4 Aa) (Ap (Al (AC [(0,rv (.pointer none)),(1,rS s),(19,rB true)] [] ?_ ?_))))
 ·refine Ak (wm Aa (wv (r:=rB true) (M7 ⟨_,Wu⟩ Aa) (wm Aa (wz Aa Aa (wz Aa Aa (wz Aa Aa (wz Aa Aa (wz Aa Aa (wv (r:=rB true) (AF (b:=true) Aa Aa Aa) (Aq ?_))))))))));exact wt
 refine CG Aa Aa (Ah (wm Aa (wa Aa (Ap (Ar (Ac ?_))))));obtain rfl:=Av h;exact As (BH Tryz.results265 (AQ Aa)) sN ⟨Aa,Aa⟩
theorem Pb (F:Nat)(hf:Nat)(hb:Nat)(hi:Value)(v:Bh)(hd:(List AI))(s:Ae)(r:Ae)(h:HU F v hd s=some r):Fn Tryz.prog GE 265 [rP hf 0,rS s] [.blk hf [rv (.map (some hb))] 156,.map hb (Bj (mP hb) v.fSecrets),.poolm hb hi 162 (Az A1 hd) none] (λR H=>R=rS r∧H=[.blk hf [rv (.map (some hb))] 156,.map hb (Bj (mP hb) v.fSecrets),.poolm hb hi 162 (Az A1 hd) none]):=by
 refine enter (n:=66) Tryz.func265 Aa Tryz.ntmps265 Aa (λw Z=>?_);unfold HU at h;refine Ah (wv (r:=rS ([]:Ae)) (A4 Aa) (Ap (Al (AC [(0,rP hf 0),(1,rS s),(19,rB false)] [.blk hf [rv (.map (some hb))] 156,.map hb (Bj (mP hb) v.fSecrets),.poolm hb hi 162 (Az A1 hd) none] ?_ ?_))))
 ·refine Ak (wm Aa (wv (r:=rB false) (J4 ⟨_,Wu⟩ Aa) (wm Aa (Bf (b:=false) Aa Aa Aa (wm Aa (Bf (b:=false) Aa Aa Aa (wv (AD Aa) (Bf (b:=false) Aa Aa Aa (vF Q2 Aa Q4 (Bf (b:=false) Aa Aa Aa (vL 0 Q6 Aa (Bf (b:=false) Aa Aa Aa (wv (r:=rB false) (YC (v:=some hb) Q3 Aa) (wv (r:=rB false) (A3 (b:=false) Aa Aa Aa) (Aq ?_)))))))))))))));exact wt
 refine CS Aa Aa (A0 (Bb (Ah (BO (cs:=[rv (.pointer none),rv (.slice none 0 0)]) Tryz.zeroValue177 Aa Aa (λb1=>?_)))));refine Ap (Al (AH (WK.tobld (te:=5) (i:=0) Aa (ob h λhE hG hH=>BG (S:=Nat×(Ae×Ae)×(Value)) (V:=(Ae)×(Value)) 0 (λσ=>Cl (λσ=>D5 F v hd σ.1 σ.2) σ.1 σ.2.1=some hE) (λσ=>[(0,rP hf 0),(1,rS σ.2.1.1),(5,rP b1 0)]) (λσ=>[.bld 177 5 b1 σ.2.2 σ.2.1.2,.blk hf [rv (.map (some hb))] 156,.map hb (Bj (mP hb) v.fSecrets),.poolm hb hi 162 (Az A1 hd) none]) (λσ=>σ.1) (F,(s,([]:Ae)),(.slice none 0 0)) hG (AV.c Aa (AV.c Aa (AV.c Aa AV.nil))) (sC (sC (sC (sC sN)))) (λσ=>Gt σ.1=some r) (λσ=>[(5,rP b1 0)]) (λσ=>[.bld 177 5 b1 σ.2 σ.1,.blk hf [rv (.map (some hb))] 156,.map hb (Bj (mP hb) v.fSecrets),.poolm hb hi 162 (Az A1 hd) none]) ?_ ?_))))
 ·rintro⟨gJ,⟨hg,hh⟩,hj⟩ hI;refine H6 ?_;obtain⟨h5,rfl,hq,hr,h0⟩:=CD hI;replace hr:D5 F v hd hg hh=some hq:=hr;unfold D5 at hr;refine Al (Ah (wm Aa (wv (NQ Aa Aa) (Ap (cz hr Aa (λhJ hK=>?_) (λhJ hL=>?_))))))
  ·refine A0 (Bb (AH (Ah (wa Aa (Ap (Al (Ah (wm Aa (wv (AD Aa) (vF Q2 Aa Q4 (vL 1 Q6 Aa (ZU (i:=2) Q3 Aa Aa Aa (λhk=>?_)))))))))))));refine Ap (AH ?_);have hN:=AbX hK;refine BG (S:=(List (Ae×Int))×(Int)×(Unit)) (V:=(Int)×(Unit)) 2 (λσ=>∀qo:List (Ae×Int),qo.Perm σ.1→Bs (Xs (λpe τ=>E5 F hd hg pe.1 pe.2 τ) qo σ.2.1) (Co λν=>DR hg hh ν)=some hq) (λσ=>[(0,rP hf 0),(1,rS hg),(5,rP b1 0),(6,A2 σ.2.1),(27,rP hk 0)]) (λσ=>[.bld 177 5 b1 hj hh,.blk hf [rv (.map (some hb))] 156,.mit hb hk (Bj (mP hb) v.fSecrets) (Bj (mP hb) σ.1) none,.poolm hb hi 162 (Az A1 hd) none]) (λσ=>σ.1.length) (v.fSecrets,0,()) hN (AV.c5 Aa Aa Aa Aa Aa AV.nil) (sC (sC (sC (sC sN)))) (λσ=>DR hg hh σ.1=some hq) (λσ=>[(0,rP hf 0),(1,rS hg),(5,rP b1 0),(6,A2 σ.1),(27,rP hk 0)]) (λσ=>[.bld 177 5 b1 hj hh,.blk hf [rv (.map (some hb))] 156,.map hb (Bj (mP hb) v.fSecrets),.poolm hb hi 162 (Az A1 hd) none]) ?_ ?_
   ·rintro⟨hO,hs,⟨⟩⟩ h6;refine H6 ?_;refine Ah (Ab7 (enc:=(mP hb)) (ys:=hO) (i:=2) Aa Aa Aa (λhy=>?_) (λp hm h7=>?_))
    ·have hP:DR hg hh hs=some hq:=AaC h6 hy;exact wv (A5 Aa Aa) (Ap (Al (CS Aa Aa (BE (Ay (WK.unmit (i:=2) Aa (Ay (Bq (AZ (hs,()) hP (AV.c5 Aa Aa Aa Aa Aa AV.nil) (sC (sC (sC (sC sN)))))))))))))
    obtain⟨hn,he⟩:=p;obtain⟨h1,ht,hQ⟩:=AcZ h6 h7;replace ht:E5 F hd hg hn he hs=some h1:=ht;unfold E5 at ht;refine Uk (H':=[.bld 177 5 b1 hj hh,.blk hf [rv (.map (some hb))] 156,.mit hb hk (Bj (mP hb) v.fSecrets) (Bj (mP hb) hm) (some (hn,(mP hb) he)),.poolm hb hi 162 (Az A1 hd) none]) Aa (wv (A5 Aa Aa) (Ap (Al (CG Aa Aa (A0 (Bb (AH (Ah (wv (r:=Dr [rS hn,ZH hb he 0]) (Aa1 (i:=2) Aa Aa) (wv (A5 Aa Aa) (wa Aa (Ap (Al (ck ht λh8 hR=>WC.mtakeout (encw:=A1) (xs:=hd) (i:=he) (Hr:=[.bld 177 5 b1 hj hh,.blk hf [rv (.map (some hb))] 156,.mit hb hk (Bj (mP hb) v.fSecrets) (Bj (mP hb) hm) (some (hn,(mP hb) he))]) ((AO (i:=3) Aa).trans (Aer _ (Aet _))) h8 [8,31] ⟨Aa,Aa,trivial⟩ (λh9 h2=>?_)))))))))))))));refine Abp (l':=_) (H':=[.blk h9 [rS ((An hd he).fText),rS ((An hd he).fBefore),A2 ((An hd he).fVersion),A2 ((An hd he).fUntil),A2 ((An hd he).fNow),rv (.map (some h2))] 162,.map h2 (Bj J5 ((An hd he).fBound)),.poolm hb hi 162 (Az A1 hd) (some (Cc he,(h9,h2))),.bld 177 5 b1 hj hh,.blk hf [rv (.map (some hb))] 156,.mit hb hk (Bj (mP hb) v.fSecrets) (Bj (mP hb) hm) (some (hn,(mP hb) he))]) Aa Aa (CJ [0,1,5,6,8,27] ?_);refine rq (Aj Aa) (rq (AD Aa) (rq (Am NG Aa Dc Aa Aa) (rq (AU (i:=0) DQ Aa Aa Aa) (rq (Aj Aa) (rq (AD Aa) (rq (Am NG Aa Dc Aa Aa) (rq (AU (i:=0) DQ Aa Aa Aa) (Eo (CE (ys:=([(An hd he).fText,(An hd he).fBefore]:List Ae)) (enc:=eS) (css:=[[rS ((An hd he).fText)],[rS ((An hd he).fBefore)]]) (xs:=[.tmp 35,.tmp 39]) CT Dc XL Aa Aa Aa ⟨Ek.one Aa (Up.refl _),Ek.one Aa (Up.refl _),trivial⟩ Aa DN Aa Aa) (rq (By (ys:=([(An hd he).fText,(An hd he).fBefore]:List Ae)) (enc:=eS) CT Aa) (rq (r:=A2 0) (Aj Aa) (re [40,41,42,0,1,5,6,27] ?_)))))))))));refine Bb (AH (WC.mputsame (encw:=A1) (xs:=hd) (i:=he) (Hr:=[.bld 177 5 b1 hj hh,.blk hf [rv (.map (some hb))] 156,.mit hb hk (Bj (mP hb) v.fSecrets) (Bj (mP hb) hm) (some (hn,(mP hb) he))]) (Aet _) h8 [] trivial Aa Aa (WC.uncur (i:=3) Aa (ob hR λhS hT hU=>BG (S:=Nat×(Int×Int)×(Unit)) (V:=(Int×Int×Bool)×(Unit)) 4 (λσ=>Cl (λσ=>Dk hd hg he σ.1 σ.2) σ.1 σ.2.1=some hS) (λσ=>[(0,rP hf 0),(1,rS hg),(5,rP b1 0),(6,A2 σ.2.1.1),(27,rP hk 0),(40,AK 1 (Az eS ([(An hd he).fText,(An hd he).fBefore]:List Ae))),(41,A2 (([(An hd he).fText,(An hd he).fBefore]:List Ae).length:Int)),(42,A2 σ.2.1.2)]) (λσ=>[.poolm hb hi 162 (Az A1 hd) none,.bld 177 5 b1 hj hh,.blk hf [rv (.map (some hb))] 156,.mit hb hk (Bj (mP hb) v.fSecrets) (Bj (mP hb) hm) none]) (λσ=>σ.1) (F,(hs,0),()) hT (AV.c Aa (AV.c Aa (AV.c Aa (AV.c5 Aa Aa Aa Aa Aa AV.nil)))) (sC (sC (sC (sC sN)))) (λσ=>Gs σ.1.1 σ.1.2.1 σ.1.2.2=some h1) (λσ=>[(0,rP hf 0),(1,rS hg),(5,rP b1 0),(6,A2 σ.1.1),(27,rP hk 0),(40,AK 1 (Az eS ([(An hd he).fText,(An hd he).fBefore]:List Ae))),(41,A2 (([(An hd he).fText,(An hd he).fBefore]:List Ae).length:Int)),(42,A2 σ.1.2.1),(43,rB σ.1.2.2)]) (λσ=>[.poolm hb hi 162 (Az A1 hd) none,.bld 177 5 b1 hj hh,.blk hf [rv (.map (some hb))] 156,.mit hb hk (Bj (mP hb) v.fSecrets) (Bj (mP hb) hm) none]) ?_ ?_))))
    ·rintro⟨gK,⟨hp,hl⟩,⟨⟩⟩ hV;refine H6 ?_;obtain⟨hW,rfl,hX,hu,hA⟩:=CD hV;replace hu:Dk hd hg he hp hl=some hX:=hu;unfold Dk at hu;refine Ah (wv (CP Aa Aa) (Ap (Al (cz hu Aa (λhY hZ=>?_) (λhY ga=>?_)))))
     ·refine A0 (Bb (ck hZ λgb gc=>ck gc λgd gf=>AC [(0,rP hf 0),(1,rS hg),(5,rP b1 0),(6,A2 (bif (ov (DM hg (An ([(An hd he).fText,(An hd he).fBefore]:List Ae) hl))) then max hp ((An ([(An hd he).fText,(An hd he).fBefore]:List Ae) hl).length:Int) else hp)),(27,rP hk 0),(40,AK 1 (Az eS ([(An hd he).fText,(An hd he).fBefore]:List Ae))),(41,A2 (([(An hd he).fText,(An hd he).fBefore]:List Ae).length:Int)),(42,A2 hl)] [.poolm hb hi 162 (Az A1 hd) none,.bld 177 5 b1 hj hh,.blk hf [rv (.map (some hb))] 156,.mit hb hk (Bj (mP hb) v.fSecrets) (Bj (mP hb) hm) none] ?_ ?_))
      ·refine AH (Ah (wv (Bl (enc:=eS) (ys:=([(An hd he).fText,(An hd he).fBefore]:List Ae)) CT Dc Aa Aa gb) (wv (Bc DQ Aa Aa) (wa Aa (Bu (wm Aa (wm Aa (Cp Tryz.call176 (NX hg (An ([(An hd he).fText,(An hd he).fBefore]:List Ae) hl) (ov (DM hg (An ([(An hd he).fText,(An hd he).fBefore]:List Ae) hl))) (CL gd)) Aa (Ap (Eu (b:=(ov (DM hg (An ([(An hd he).fText,(An hd he).fBefore]:List Ae) hl)))) Aa (λh3=>?_) (λh3=>?_)))))))))))
       ·refine Ak (wm Aa (wm Aa (wv (BS DH Aa) (wv (YF yu3 Aa Aa) (wa Aa (Aq (AN ?_)))))));exact Cy h3
       refine A0 (AN ?_);exact Cy h3
      refine Ak (ck gf λgg gh=>wv (BM Aa Aa gg) (wm Aa (Aq ?_)));have gi:=B8 gh hA;exact A9 (AZ (hW,((bif (ov (DM hg (An ([(An hd he).fText,(An hd he).fBefore]:List Ae) hl))) then max hp ((An ([(An hd he).fText,(An hd he).fBefore]:List Ae) hl).length:Int) else hp),hl+1),()) ⟨gi,Aew _⟩ (AV.c Aa (AV.c Aa (AV.c Aa (AV.c5 Aa Aa Aa Aa Aa AV.nil)))) (sC (sC (sC (sC sN)))))
     refine BE (Ay ?_);have gj:=BW ga hA hU;exact Ay (Bq (AZ ((hp,hl,decide (hl<(([(An hd he).fText,(An hd he).fBefore]:List Ae).length:Int))),()) gj (AV.c Aa (AV.c Aa (AV.c Aa (AV.c Aa (AV.c5 Aa Aa Aa Aa Aa AV.nil))))) (sC (sC (sC (sC sN))))))
    rintro⟨⟨hB,gl,gm⟩,⟨⟩⟩ hw;refine Ir ?_;replace hw:Gs hB gl gm=some h1:=hw;unfold Gs at hw;refine Bo (AN (JY [1,1,1] ?_));have gp:=Xq hw hQ;exact A9 (AZ (hm,hB,()) ⟨gp,Aaq h7⟩ (AV.c5 Aa Aa Aa Aa Aa AV.nil) (sC (sC (sC (sC sN)))))
   rintro⟨hC,⟨⟩⟩ hx;refine Ir ?_;replace hx:DR hg hh hC=some hq:=hx;unfold DR at hx;refine Bo (Bb (Al (Ah (wm Aa (wv (Ce Aa Aa) (Ap (cz hx Aa (λgq gr=>?_) (λgq gs=>?_))))))))
   ·refine Ah (wm Aa (ck gr λgu gv=>wv (BZ DH Aa Aa gu) (ck gv λgw gx=>ck gx λgy gz=>C5 (rs:=[rP b1 0,rI .u8 (Cw hg 0)]) (Hin:=[.bld 177 5 b1 hj hh]) (Hr:=[.blk hf [rv (.map (some hb))] 156,.map hb (Bj (mP hb) v.fSecrets),.poolm hb hi 162 (Az A1 hd) none]) IQ Aa (Aet _) (CF b1 hj hh (Cw hg 0) gw gy) Aa ?_)));rintro _ _ ⟨g0,rfl,rfl⟩;refine bd gz λg1 g2 g3=>?_;rw[← g2];refine Bu (wm Aa (ck g3 λg4 g5=>wv (Gg DH Aa Aa g4) (wa Aa (Ap (BE (Ay (Bo ?_)))))));have g6:=B8 g5 h0;exact A9 (AZ (h5,(List.drop (Cc 1) hg,g1),g0) ⟨g6,Aew _⟩ (AV.c Aa (AV.c Aa (AV.c Aa AV.nil))) (sC (sC (sC (sC sN)))))
   refine A0 (Bb (Ah (ck gs λg7 g8=>C5 (rs:=[rP b1 0,rS ([42,42,42]:Ae)]) (Hin:=[.bld 177 5 b1 hj hh]) (Hr:=[.blk hf [rv (.map (some hb))] 156,.map hb (Bj (mP hb) v.fSecrets),.poolm hb hi 162 (Az A1 hd) none]) Tryz.call162 Aa (Aet _) (GU b1 hj hh ([42,42,42]:Ae) g7) Aa ?_)));rintro _ _ ⟨g9,rfl,rfl⟩;refine bd g8 λgA gB gC=>?_;rw[← gB];refine Ap (Ak (wm Aa (wm Aa (ck gC λgD gE=>wv (Gg DH Aa Aa gD) (wa Aa (Aq (AN ?_)))))));have gF:=B8 gE h0;exact A9 (AZ (h5,(List.drop (Cc hC) hg,gA),g9) ⟨gF,Aew _⟩ (AV.c Aa (AV.c Aa (AV.c Aa AV.nil))) (sC (sC (sC (sC sN)))))
  refine BE (Ay ?_);have gG:=BW hL h0 hH;exact Ay (Bq (AZ (hh,hj) gG (AV.c Aa AV.nil) (sC (sC (sC (sC sN))))))
 rintro⟨h4,hD⟩ hz;refine Ir ?_;replace hz:Gt h4=some r:=hz;unfold Gt at hz;refine Bo (Bb (Ah (ck hz λgH gI=>C5 (rs:=[rP b1 0]) (Hin:=[.bld 177 5 b1 hD h4]) (Hr:=[.blk hf [rv (.map (some hb))] 156,.map hb (Bj (mP hb) v.fSecrets),.poolm hb hi 162 (Az A1 hd) none]) Tryz.call120 Aa (Aet _) (Rk b1 hD h4  gH) Aa ?_)));rintro _ _ ⟨rfl,rfl⟩;refine wa Aa (Ap (Ar ?_));obtain rfl:=Av gI;exact As (BH Tryz.results265 (AQ Aa)) (sC (sC (sC sN))) ⟨Aa,Aa⟩
end Go.Proofs.YtmjlemhondjfhaaGreatDoor.Q
namespace Go.Proofs.YtmjlemhondjfhaaGreatDoor
open Go
set_option linter.unusedVariables false
structure AE where
 fKind:Int
 fKey:Ae
 fValue:(List Ab)
 fDelay:Int
 deriving DecidableEq,Inhabited
structure B9 where
 fErr:Int
 fValue:(List Ab)
 deriving DecidableEq,Inhabited
def Iu (v:(List Ab)):Option (Ae×Bool):=
 Bk (Ck 0 (v.length:Int))<|some ((An v 0).fStr,decide (((An v 0).fKind)=4))
def Zk (v:(List Ab)):Option (Bool):=
 Bs (Iu v) λr1=>some (r1.2&&(LV r1.1))
def TA (v:(List Ab)):Option (Bool):=
 Bs (Iu v) λr1=>some (r1.2&&(CK r1.1))
def G4 (n:Int):Option (Bool):=
 some ((decide (0≤n))&&(decide (n≤1073741824)))
def PK (v:(List Ab)):Option (Bool):=
 Bk (Ck 0 (v.length:Int))<|Bk (imp (decide (((An v 0).fKind)=3)) ((G4 ((An v 0).fInt)).isSome))<|some ((decide (((An v 0).fKind)=3))&&(ov (G4 ((An v 0).fInt))))
def Im (v:(List Ab)):Option (Bool):=
 Bk (imp (decide (1<(v.length:Int))) (Ck 0 (v.length:Int)))<|Bk (imp (decide (1<(v.length:Int))) (imp (decide (((An v 0).fKind)=5)) (Ck 1 (v.length:Int))))<|some ((decide (1<(v.length:Int)))&&((decide (((An v 0).fKind)=5))&&(decide (((An v 1).fKind)=4))))
def EJ (F:Nat)(v:(List Ab)):Option (Int×Int×Bool):=
 Bs (Iu v) λr1=>Bs (Yu r1.1) λr4=>Bs (Je F r4.1) λr7=>Bk (D2 1 r4.2.1.length)<|some (r7.1,C7 r4.2.1,(r1.2&&(r4.2.2&&((decide (r7.2=0))&&((decide ((Ep r4.2.1)=0))&&((decide (1≤(C7 r4.2.1)))&&(decide ((C7 r4.2.1)≤65535))))))))
def Il (F:Nat)(v:(List Ab)):Option (Bool):=
 Bs (EJ F v) λr1=>some r1.2.2
def TD (F:Nat)(k:Nat)(a0:(List Ab)):Option (Bool):=
 BB (decide (k=88)) (Zk a0) (BB (decide (k=89)) (TA a0) (BB (decide (k=90)) (PK a0) (BB (decide (k=91)) (Im a0) (BB (decide (k=92)) (Il F a0) (none)))))
def GM (s:(List Nat)):Option (Int):=
 some (s.length:Int)
def GL (F:Nat)(s:(List Nat))(l:(List (List Ab)))(hb:Int):Option (Stp (Int) (Out (Bool) (Unit))):=
 BB (decide (hb<(s.length:Int))) (Bk (Ck hb (s.length:Int))<|Bk (imp (!decide ((An s hb)=0)) (Ck hb (l.length:Int)))<|Bk (imp (!decide ((An s hb)=0)) ((TD F (An s hb) (An l hb)).isSome))<|BB (((!decide ((An s hb)=0))&&(!(ov (TD F (An s hb) (An l hb)))))) (some (.out (.ret false))) (Bk (Cb .i64 (hb+1))<|some (.next (hb+1)))) (some (.out (.go ())))
def Jl :Option (Bool):=
 some true
def Kw (F:Nat)(s:(List Nat))(l:(List (List Ab))):Option (Bool):=
 Bs (Cl (λσ=>GL F s l σ) F 0) (Co λν=>Jl )
def Jk (op:Ae):Option ((Option (List Nat))×Bool):=
 BB (decide (op=([103,101,116]:Ae))) (some (some ([88]:List Nat),true)) (BB (decide (op=([100,101,108,101,116,101]:Ae))) (some (some ([88]:List Nat),true)) (BB (decide (op=([112,117,116]:Ae))) (some (some ([88,0]:List Nat),true)) (BB (decide (op=([115,101,110,100]:Ae))) (some (some ([89,0]:List Nat),true)) (BB (decide (op=([116,105,109,101,114]:Ae))) (some (some ([89,90,0]:List Nat),true)) (BB (decide (op=([115,105,103,110,97,108]:Ae))) (some (some ([88,91]:List Nat),true)) (BB (decide (op=([115,101,99,114,101,116]:Ae))) (some (some ([89]:List Nat),true)) (BB (decide (op=([102,101,116,99,104]:Ae))) (some (some ([92,0]:List Nat),true)) (BB (decide (op=([110,111,119]:Ae))) (some (some ([]:List Nat),false)) (BB (decide (op=([108,111,103]:Ae))) (some (some ([0]:List Nat),false)) (some (none,false)))))))))))
def GN (a:AR)(hb:Int):Option (Stp (Int) (Out (Int) (Unit))):=
 BB (decide (hb<(a.fNet.length:Int))) (Bk (Ck hb (a.fNet.length:Int))<|Bs (D8 (An a.fNet hb)) λhd=>BB (!decide (hd=0)) (some (.out (.ret hd))) (Bk (Cb .i64 (hb+1))<|some (.next (hb+1)))) (some (.out (.go ())))
def Gi (a:AR):Option (Int):=
 Bs (G4 a.fNow) λhb=>BB (!hb) (some 2) (some 0)
def GO (F:Nat)(a:AR)(hb:Int):Option (Stp (Int) (Out (Int) (Unit))):=
 BB (decide (hb<(a.fPolicy.length:Int))) (Bk (Ck hb (a.fPolicy.length:Int))<|Bs (EY F (An a.fPolicy hb)) λhd=>BB (!decide (hd=0)) (some (.out (.ret hd))) (Bk (Cb .i64 (hb+1))<|some (.next (hb+1)))) (some (.out (.go ())))
def Gj (F:Nat)(a:AR):Option (Int):=
 Bs (Cl (λσ=>GN a σ) F 0) (Co λν=>Gi a )
def GP (a:AR)(hb:Int):Option (Stp (Int) (Out (Int) (Unit))):=
 BB (decide (hb<(a.fOps.length:Int))) (Bk (imp (decide (0<hb)) (Ck hb (a.fOps.length:Int)))<|Bk (imp (decide (0<hb)) (Cb .i64 (hb-1)))<|Bk (imp (decide (0<hb)) (Ck (hb-1) (a.fOps.length:Int)))<|BB (((decide (0<hb))&&(Cz (An a.fOps hb) (An a.fOps (hb-1))||decide ((An a.fOps hb)=(An a.fOps (hb-1)))))) (some (.out (.ret 11))) (Bk (Cb .i64 (hb+1))<|some (.next (hb+1)))) (some (.out (.go ())))
def Gk (F:Nat)(a:AR):Option (Int):=
 BB (((decide (32<(a.fPolicy.length:Int)))||(decide (32<(a.fNet.length:Int))))) (some 3) (Bs (Cl (λσ=>GO F a σ) F 0) (Co λν=>Gj F a ))
def GQ (a:AR)(hb:Int):Option (Stp (Int) (Out (Int) (Unit))):=
 BB (decide (hb<(a.fOps.length:Int))) (Bk (Ck hb (a.fOps.length:Int))<|Bs (Jk (An a.fOps hb)) λhd=>BB (Option.isNone hd.1) (some (.out (.ret 4))) (Bk (Cb .i64 (hb+1))<|some (.next (hb+1)))) (some (.out (.go ())))
def Gl (F:Nat)(a:AR):Option (Int):=
 Bs (Cl (λσ=>GP a σ) F 0) (Co λν=>Gk F a )
def J9 (F:Nat)(a:AR):Option (Int):=
 BB (((!(CK a.fTenant))||(!(CK a.fFunction)))) (some 4) (Bs (Cl (λσ=>GQ a σ) F 0) (Co λν=>Gl F a ))
def HK (tenant:Ae)(op:Ae)(name:Ae):Option (Ae):=
 Bk (Cb .i64 ((tenant.length:Int)+(([47]:Ae).length:Int)))<|Bk (Cb .i64 (((tenant++([47]:Ae)).length:Int)+(op.length:Int)))<|Bk (Cb .i64 ((((tenant++([47]:Ae))++op).length:Int)+(([47]:Ae).length:Int)))<|Bk (Cb .i64 (((((tenant++([47]:Ae))++op)++([47]:Ae)).length:Int)+(name.length:Int)))<|some ((((tenant++([47]:Ae))++op)++([47]:Ae))++name)
def KT (F:Nat)(v:(List Ab)):Option (Bool):=
 Bs (Jv F v) λr1=>some (!decide (r1=0))
def Ii (F:Nat)(ys:(List (List Ab)))(hb:Int):Option (Stp (Int) (Out (Int) (Unit))):=
 BB (decide (hb<(ys.length:Int))) (Bk (Ck hb (ys.length:Int))<|Bs (KT F (An ys hb)) λhd=>BB (hd) (some (.out (.ret hb))) (Bk (Cb .i64 (hb+1))<|some (.next (hb+1)))) (some (.out (.go ())))
def Ks :Option (Int):=
 some (-1)
def VR (F:Nat)(ys:(List (List Ab))):Option (Int):=
 Bs (Cl (λσ=>Ii F ys σ) F 0) (Co λν=>Ks )
def Hn (F:Nat)(ys:(List (List Ab))):Option (Bool):=
 Bs (VR F ys) λr1=>some (decide (0≤r1))
def E4 (ys:(List Ae))(x:Ae)(hb:Int):Option (Stp (Int) (Out (Int) (Unit))):=
 BB (decide (hb<(ys.length:Int))) (Bk (Ck hb (ys.length:Int))<|BB (decide (x=(An ys hb))) (some (.out (.ret hb))) (Bk (Cb .i64 (hb+1))<|some (.next (hb+1)))) (some (.out (.go ())))
def Hh :Option (Int):=
 some (-1)
def Mq (F:Nat)(ys:(List Ae))(x:Ae):Option (Int):=
 Bs (Cl (λσ=>E4 ys x σ) F 0) (Co λν=>Hh )
def Mr (F:Nat)(ys:(List Ae))(x:Ae):Option (Bool):=
 Bs (Mq F ys x) λr1=>some (decide (0≤r1))
def Ch (F:Nat)(a:AR)(q:A7):Option (Int):=
 Bs (J9 F a) λr3=>BB (!decide (r3=0)) (some r3) (Bs (Jk q.fOp) λr9=>BB (Option.isNone r9.1) (some 4) (Bs (Mr F a.fOps q.fOp) λhe=>BB (!he) (some 12) (Bk (Option.isSome r9.1)<|Bk ((GM (Option.getD r9.1 ([]:(List Nat)))).isSome)<|Bk (imp (!(!decide ((q.fArgs.length:Int)=(ov (GM (Option.getD r9.1 ([]:(List Nat)))))))) ((Hn F q.fArgs).isSome))<|Bk (imp (!(!decide ((q.fArgs.length:Int)=(ov (GM (Option.getD r9.1 ([]:(List Nat)))))))) (imp (!(ov (Hn F q.fArgs))) ((Kw F (Option.getD r9.1 ([]:(List Nat))) q.fArgs).isSome)))<|BB (((!decide ((q.fArgs.length:Int)=(ov (GM (Option.getD r9.1 ([]:(List Nat)))))))||((ov (Hn F q.fArgs))||(!(ov (Kw F (Option.getD r9.1 ([]:(List Nat))) q.fArgs)))))) (some 7) (BB (r9.2) (Bk (Ck 0 (q.fArgs.length:Int))<|Bs (Iu (An q.fArgs 0)) λhf=>Bs (HK a.fTenant q.fOp hf.1) λhg=>Bs (Kc F a.fPolicy q.fOp hg) λhh=>BB (!hh.fAllowed) (some 12) (BB (decide (q.fOp=([102,101,116,99,104]:Ae))) (Bs (EJ F (An q.fArgs 0)) λhb=>Bs (Hj F a.fNet hb.1 hb.2.1) λhi=>BB (!hi.fAllowed) (some 12) (some 0)) (some 0))) (BB (decide (q.fOp=([102,101,116,99,104]:Ae))) (Bk (Ck 0 (q.fArgs.length:Int))<|Bs (EJ F (An q.fArgs 0)) λhd=>Bs (Hj F a.fNet hd.1 hd.2.1) λhj=>BB (!hj.fAllowed) (some 12) (some 0)) (some 0))))))
def J8 (q:A7):Option (AE×Bool):=
 BB (decide (q.fOp=([112,117,116]:Ae))) (Bk (Ck 1 (q.fArgs.length:Int))<|Bk (Ck 0 (q.fArgs.length:Int))<|Bs (Iu (An q.fArgs 0)) λhb=>Bs (Es (An q.fArgs 1)) λhd=>some ((AE.mk 1 hb.1 hd 0),true)) (BB (decide (q.fOp=([100,101,108,101,116,101]:Ae))) (Bk (Ck 0 (q.fArgs.length:Int))<|Bs (Iu (An q.fArgs 0)) λhe=>Bs (Es ([]:List Ab)) λhf=>some ((AE.mk 2 he.1 hf 0),true)) (BB (decide (q.fOp=([115,101,110,100]:Ae))) (Bk (Ck 1 (q.fArgs.length:Int))<|Bk (Ck 0 (q.fArgs.length:Int))<|Bs (Iu (An q.fArgs 0)) λhg=>Bs (Es (An q.fArgs 1)) λhh=>some ((AE.mk 3 hg.1 hh 0),true)) (BB (decide (q.fOp=([116,105,109,101,114]:Ae))) (Bk (Ck 2 (q.fArgs.length:Int))<|Bk (Ck 1 (q.fArgs.length:Int))<|Bk (Ck 0 ((An q.fArgs 1).length:Int))<|Bk (Ck 0 (q.fArgs.length:Int))<|Bs (Iu (An q.fArgs 0)) λhi=>Bs (Es (An q.fArgs 2)) λhj=>some ((AE.mk 4 hi.1 hj ((An (An q.fArgs 1) 0).fInt)),true)) (BB (decide (q.fOp=([115,105,103,110,97,108]:Ae))) (Bk (Ck 1 (q.fArgs.length:Int))<|Bk (Ck 0 (q.fArgs.length:Int))<|Bs (Iu (An q.fArgs 0)) λhk=>Bs (Es (An q.fArgs 1)) λhl=>some ((AE.mk 5 hk.1 hl 0),true)) (some ((AE.mk 0 ([]:Ae) ([]:List Ab) 0),false))))))
def BT (v:(List Ab))(e:Int):Option (B9):=
 BB (!decide (e=0)) (some (B9.mk e ([]:List Ab))) (some (B9.mk 0 v))
def HL (F:Nat)(l:(List Bt))(hb:Int):Option (Stp (Int) (Out (Int) (Unit))):=
 BB (decide (hb<(l.length:Int))) (Bk (Ck hb (l.length:Int))<|BB (!(LV ((An l hb).fKey))) (some (.out (.ret 4))) (Bs (Jv F ((An l hb).fValue)) λhd=>BB (!decide (hd=0)) (some (.out (.ret hd))) (BB (decide (((An l hb).fVersion)<1)) (some (.out (.ret 2))) (Bk (imp (decide (0<hb)) (Cb .i64 (hb-1)))<|Bk (imp (decide (0<hb)) (Ck (hb-1) (l.length:Int)))<|BB (((decide (0<hb))&&(Cz ((An l hb).fKey) ((An l (hb-1)).fKey)||decide (((An l hb).fKey)=((An l (hb-1)).fKey))))) (some (.out (.ret 11))) (Bk (Cb .i64 (hb+1))<|some (.next (hb+1))))))) (some (.out (.go ())))
def Jn :Option (Int):=
 some 0
def N0 (F:Nat)(l:(List Bt)):Option (Int):=
 BB (decide (256<(l.length:Int))) (some 3) (Bs (Cl (λσ=>HL F l σ) F 0) (Co λν=>Jn ))
end Go.Proofs.YtmjlemhondjfhaaGreatDoor
