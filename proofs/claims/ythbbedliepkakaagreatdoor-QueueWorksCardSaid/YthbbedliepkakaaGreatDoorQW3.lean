/-
  Texts of the proof, put together: QU, QT, QN, QM, QI, QW, QV, PH, QJ, QX, QL, Q6, WUa, PUb, Q8, SpC, SpT, SpL, SpQ, WUb.
-/
import Derived.Test.YthbbedliepkakaaGreatDoorQW2
import Derived.Laws.Cover3
import Derived.MapKept
import Derived.Maps.RangeRun
import GoSem.Op.IntBits
import GoSem.Op.Shift
import Derived.ScopeJumps
import Derived.Laws.CopyRow
import Derived.Laws.IdiomCopy
import Derived.Laws.OwnMore
import Derived.Shelf.SlSortCmp.NoneTotal
import Derived.Test.YthbbedliepkakaaGreatDoorProg
import Derived.Tactics
import Derived.Lib.Small
import Derived.Lib.Walk
import Derived.Sort.Grow
import Derived.Deep.QuietTactic
import Derived.BigQuiet
import Derived.LoopN
import Derived.StillTailTactics
namespace Go.Proofs.YthbbedliepkakaaGreatDoor.Q
open Go Go.RowKit
set_option linter.unusedVariables false
set_option linter.unusedSimpArgs false
def Nm (ops:List Oper)(N:Nat):Bool:=
 let cl:=Kf ops []
 (List.range ops.length).all (λi=>(DR (ops.getD i default)).all (·<i))&&
 (List.range ops.length).all (λi=>i<N||(List.range i).all (λj=>(cl.getD i 0).testBit j))
section
variable {P : Program} {Q : Exit → Act → World → Prop}
theorem Qt {listed:Array Bool}{len m:Nat}(hs:listed.size=len)(hm:m≤len)(h:∀j,j<len→(listed.getD j true=true↔j<m)):listed.toList.count false=len-m:=by
 have:listed.toList=List.replicate m true++List.replicate (len-m) false:=by
  apply List.ext_getElem
  ·simp[hs];omega
  ·intro j h1 h2;have hj:j<len:=by simpa[hs] using h1
   have:=h j hj;rw[Array.getD_eq_getD_getElem?,Array.getElem?_eq_getElem (by omega)] at this;simp only[ZB] at this;rw[Array.getElem_toList,List.getElem_append]
   split
   ·rename_i h3
    simp at h3;simp[this.2 h3]
   ·rename_i h3
    simp at h3;simp only[List.getElem_replicate]
    cases hb:listed[j] with
    | false=>rfl
    | true=>have:=this.1 hb;omega
 rw[this];simp[List.count_append,List.count_replicate]
theorem RZ {listed:Array Bool}{j:Nat}(h:j<listed.size)(d d':Bool):listed.getD j d=listed.getD j d':=by
 simp[Array.getD_eq_getD_getElem?,Array.getElem?_eq_getElem h]
theorem No {ops:List Oper}{listed:Array Bool}{i:Nat}{o:Oper}(ho:ops[i]? =some o)(hb:∀e∈DR o,listed.getD e true=true)
  (hcl:∀j o,ops[j]? =some o→listed.getD j true=true→∀e∈DR o,listed.getD e true=true) (j:Nat) (h:((Kf ops []).getD i 0).testBit j=true):j=i∨listed.getD j true=true:=
 Gu ops (λk=>k=i∨listed.getD k true=true) ops [] (λt o' ht e he hF=>by
  rcases hF with hF | hF
  ·simp at hF;subst hF;rw[ho] at ht;simp at ht;subst ht;exact .inr (hb e he)
  ·exact .inr (hcl t o' ht (by simpa using hF) e he)) (λj i hb=>by simp at hb) i j h (.inl rfl)
theorem JS {ops:List Oper}{listed:Array Bool}{i:Nat}(hsz:listed.size=ops.length)(hlt:∀i,i<ops.length→∀e∈DR (ops.getD i default),e<i)(h:i∈Region.ready .any ops.toArray listed) :
  listed.getD i true=false∧i<ops.length∧∃o,ops[i]? =some o∧∀e∈DR o,listed.getD e true=true:=by
 obtain⟨h1,o,ho,h2⟩:=mem_ready.1 h;have ho':ops[i]? =some o:=by simpa using ho
 have hil:=(List.getElem?_eq_some_iff.1 ho').1;refine⟨h1,hil,o,ho',λe he=>?_⟩;have hei:=hlt i hil e (by rw[Zf,ho'];exact he);simp only[DR,List.mem_map,List.mem_filter] at he;obtain⟨x,⟨hx1,hx2⟩,rfl⟩:=he;have h3:=h2 x (by simpa using hx1) hx2;rw[RZ (by omega) true false];exact h3
theorem JF {ops:List Oper}{listed:Array Bool}(hsz:listed.size=ops.length)(hlt:∀i,i<ops.length→∀e∈DR (ops.getD i default),e<i)(h:Region.ready .any ops.toArray listed=[]) :
  ∀j,j<ops.length→listed.getD j true=true:=by
 intro j
 induction j using Nat.strongRecOn with
 | ind j ih=>
  intro hj
  cases hb:listed.getD j true with
  | true=>rfl
  | false=>
   have:j∈Region.ready .any ops.toArray listed:=mem_ready.2 ⟨hb,ops[j],by simp[hj],λe he hbn=>by
    have hel:e.on<j:=hlt j hj e.on (by
     rw[Zf,Zg hj];simp only[DR,ZB,List.mem_map,List.mem_filter];exact⟨e,⟨by simpa using he,hbn⟩,rfl⟩)
    rw[RZ (by omega) false true];exact ih e.on hel (by omega)⟩
   rw[h] at this;cases this
theorem Mg {listed:Array Bool}{i j:Nat}(hi:i<listed.size):(listed.setIfInBounds i true).getD j true=true↔(j=i∨listed.getD j true=true):=by
 by_cases hj:i=j
 ·subst hj;simp[hi]
 ·rw[getD_set_ne true hj];exact⟨.inr,λh=>h.elim (λh=>absurd h.symm hj) id⟩
theorem SL {listed:Array Bool}{i fuel:Nat}(hi:i<listed.size)(hun:listed.getD i true=false)(hc:listed.toList.count false=fuel+1):(listed.setIfInBounds i true).toList.count false=fuel:=by
 have hfi:listed.toList[i]? =some false:=by
  rw[Array.getD_eq_getD_getElem?,Array.getElem?_eq_getElem hi] at hun;simp at hun;simp[hi,hun]
 rw[Array.toList_setIfInBounds];have h1:=List.count_set (a:=true) (b:=false) (l:=listed.toList) (i:=i) (by simpa using hi);have h2:listed.toList[i]'(by simpa using hi)=false:=by
  have:=List.getElem?_eq_some_iff.1 hfi;exact this.2
 rw[h1,h2,hc];rfl
theorem LC {ops:List Oper}{N:Nat}(hlt:∀i,i<ops.length→∀e∈DR (ops.getD i default),e<i)
  (hch:∀i,N≤i→i<ops.length→∀j,j<i→((Kf ops []).getD i 0).testBit j=true):∀(k m:Nat) (listed:Array Bool) (a:Act) (w:World),m+k=ops.length→N≤m→listed.size=ops.length→
   (∀j,j<ops.length→(listed.getD j true=true↔j<m))→(∀j o,ops[j]? =some o→listed.getD j true=true→∀e∈DR o,listed.getD e true=true)→wpList P ops.toArray Q (ops.drop m) a w→wpAny P .any ops.toArray Q k listed a w
 | 0,m,listed,a,w,hk,hN,hsz,hl,hcl,h=>by
  refine⟨?_,?_⟩
  ·cases hr:Region.ready .any ops.toArray listed with
   | nil=>rfl
   | cons i r=>
    obtain⟨h1,h2,_⟩:=JS hsz hlt (i:=i) (by rw[hr];simp);rw[(hl i h2).2 (by omega)] at h1;cases h1
  ·rw[List.drop_of_length_le (by omega)] at h;exact h
 | k+1,m,listed,a,w,hk,hN,hsz,hl,hcl,h=>by
  refine⟨λhr=>?_,λi hi=>?_⟩
  ·have:=(hl m (by omega)).1 (JF hsz hlt hr m (by omega));omega
  ·obtain⟨h1,h2,o,ho,hb⟩:=JS hsz hlt hi;have him:i=m:=by
    have hmi : ¬ i<m:=λh'=>by rw[(hl i h2).2 h'] at h1;cases h1
    by_cases e:i=m
    ·exact e
    ·rcases No ho hb hcl m (hch i (by omega) h2 m (by omega)) with h3 | h3
     ·exact h3.symm
     ·have:=(hl m (by omega)).1 h3;omega
   subst him;have hd:ops.drop i=o::ops.drop (i+1):=by
    rw[List.drop_eq_getElem_cons h2]
    congr 1
    exact(List.getElem?_eq_some_iff.1 ho).2
   rw[hd] at h;have ih:∀a' w',wpList P ops.toArray Q (ops.drop (i+1)) a' w'→wpAny P .any ops.toArray Q k (listed.setIfInBounds i true) a' w':=λa' w' h'=>by
    refine LC hlt hch k (i+1) _ a' w' (by omega) (by omega) (by simpa using hsz) (λj hj=>?_) (λj o' hj hlj e he=>?_) h'
    ·rw[Mg (by omega),hl j hj];omega
    ·rw[Mg (by omega)] at hlj ⊢;rcases hlj with rfl | hlj
     ·rw[ho] at hj;simp at hj;subst hj;exact .inr (hb e he)
     ·exact .inr (hcl j o' hj hlj e he)
   unfold wpOp;have hoA:ops.toArray[i]? =some o:=by simpa using ho
   simp only[hoA];simp only[wpList] at h
   split
   ·rename_i hw'
    rw[Z4 hw'] at h;exact h.imp (λh=>Oper.wp_mono ih h) (λh=>h)
   ·rename_i hw'
    rw[Zu hw'] at h;exact ih _ _ h
theorem Q4 {id:Nat}{ops:List Oper}{N:Nat}(hm:P.follows .mixedOrders=true)(hB:Nm ops N=true)(hN:N≤ops.length)(I:(Nat→Bool)→Act→World→Prop)
  (hext:∀S S' a w,(∀j,j<N→S j=S' j)→I S a w→I S' a w) {a:Act} {w:World} (h0:I (λ_=>false) a { w with drawn:=w.drawn+1 })
  (step:∀S i o a w,i<N→S i=false→ops[i]? =some o→(∀e∈DR o,e<i∧S e=true)→I S a w→∀K:Act→World→Prop,(∀a' w',I (λj=>j ==i||S j) a' w'→K a' w')→
   (Region.wanted o (yielded ops.toArray a.tmps)=true→o.wp P a w K Q)∧(Region.wanted o (yielded ops.toArray a.tmps)=false→K (a.put o.dst undef) w))
  (fin:∀a w,I (λ_=>true) a w→wpList P ops.toArray Q (ops.drop N) a w):(Code.region id ops.toArray true).wp P Q a w:=by
 simp only[Nm,Zd,ZD,List.mem_range,Za,Zz] at hB;obtain⟨hlt,hch0⟩:=hB;have hch:∀i,N≤i→i<ops.length→∀j,j<i→((Kf ops []).getD i 0).testBit j=true:=λi h1 h2 j hj=>by
  rcases hch0 i h2 with h3 | h3
  ·omega
  ·exact h3 j hj
 refine wp_region_any hm ?_;have main:∀(fuel:Nat) (listed:Array Bool) (a:Act) (w:World),listed.size=ops.length→listed.toList.count false=fuel→I (λj=>listed.getD j true) a w→
   (∀j o,ops[j]? =some o→listed.getD j true=true→∀e∈DR o,listed.getD e true=true)→(∀j,N≤j→j<ops.length→listed.getD j true=false)→wpAny P .any ops.toArray Q fuel listed a w:=by
  intro fuel;have allin:∀(fuel:Nat) (listed:Array Bool) (a:Act) (w:World),listed.size=ops.length→listed.toList.count false=fuel→I (λj=>listed.getD j true) a w→
   (∀j o,ops[j]? =some o→listed.getD j true=true→∀e∈DR o,listed.getD e true=true)→(∀j,N≤j→j<ops.length→listed.getD j true=false)→(∀j,j<N→listed.getD j true=true)→wpAny P .any ops.toArray Q fuel listed a w:=by
   intro fuel listed a w hsz hc hI hcl hlast hall;have hl:∀j,j<ops.length→(listed.getD j true=true↔j<N):=λj hj=>by
    constructor
    ·intro h
     by_cases hjN:j<N
     ·exact hjN
     ·rw[hlast j (by omega) hj] at h;cases h
    ·exact hall j
   have:=Qt hsz hN hl;refine LC hlt hch fuel N listed a w (by omega) (Z6 _) hsz hl hcl (fin a w (hext _ _ a w (λj hj=>hall j hj) hI))
  induction fuel with
  | zero=>
   intro listed a w hsz hc hI hcl hlast;refine allin 0 listed a w hsz hc hI hcl hlast (λj hj=>?_)
   cases hb:listed.getD j true with
   | true=>rfl
   | false=>
    have:false∈listed.toList:=by
     rw[Array.getD_eq_getD_getElem?,Array.getElem?_eq_getElem (by omega)] at hb;simp at hb;rw[← hb];simp
    have:=List.count_pos_iff.2 this;omega
  | succ fuel ih=>
   intro listed a w hsz hc hI hcl hlast
   by_cases hall:∀j,j<N→listed.getD j true=true
   ·exact allin (fuel+1) listed a w hsz hc hI hcl hlast hall
   ·refine⟨λhr=>absurd (λj hj=>JF hsz hlt hr j (by omega)) hall,λi hi=>?_⟩;obtain⟨h1,h2,o,ho,hb⟩:=JS hsz hlt hi;have hiN:i<N:=by
     by_cases h:i<N
     ·exact h
     ·refine absurd (λj hj=>?_) hall;rcases No ho hb hcl j (hch i (by omega) h2 j (by omega)) with h3 | h3
      ·omega
      ·exact h3
    have K':∀a' w',I (λj=>j ==i||listed.getD j true) a' w'→wpAny P .any ops.toArray Q fuel (listed.setIfInBounds i true) a' w':=λa' w' hI'=>by
     refine ih _ a' w' (by simpa using hsz) (SL (by omega) h1 hc) (hext _ _ a' w' (λj hj=>?_) hI') (λj o' hj hlj e he=>?_) (λj h3 h4=>?_)
     ·have:=Mg (listed:=listed) (i:=i) (j:=j) (by omega)
      cases hq:(listed.setIfInBounds i true).getD j true with
      | true=>
       rw[hq] at this;rcases this.1 rfl with h | h
       ·simp[h]
       ·simp[h]
      | false=>
       rw[hq] at this;have h5 : ¬ (j=i∨listed.getD j true=true):=λh=>by have:=this.2 h;cases this
       cases hz:listed.getD j true with
       | true=>exact absurd (.inr hz) h5
       | false=>
        have:j≠i:=λh=>h5 (.inl h);simp[this]
     ·rw[Mg (by omega)] at hlj ⊢;rcases hlj with rfl | hlj
      ·rw[ho] at hj;simp at hj;subst hj;exact .inr (hb e he)
      ·exact .inr (hcl j o' hj hlj e he)
     ·rw[getD_set_ne true (by omega)];exact hlast j h3 h4
    obtain⟨k1,k2⟩:=step _ i o a w hiN h1 ho (λe he=>⟨hlt i h2 e (by rw[Zf,ho];exact he),hb e he⟩) hI _ K';unfold wpOp;have hoA:ops.toArray[i]? =some o:=by simpa using ho
    simp only[hoA]
    split
    ·rename_i hw';exact .inl (k1 hw')
    ·rename_i hw';exact k2 (by simpa using hw')
 have e0:∀j,j<ops.length→(Array.replicate ops.length false).getD j true=false:=λj hj=>by simp[hj]
 have hsz0:ops.toArray.size=ops.length:=by simp
 rw[hsz0];refine main ops.length (Array.replicate ops.length false) a _ (by simp) (by simp) (hext _ _ _ _ (λj hj=>(e0 j (by omega)).symm) h0) (λj o hj hl=>?_) (λj _ h2=>e0 j h2);rw[e0 j (List.getElem?_eq_some_iff.1 hj).1] at hl;cases hl
end
structure Sa where
 deps:List Nat
 r:Rp
 al:Option (List Rp×TypeId):=none
 late:Option (Nat×List Rp):=none
 sto:Option Nat:=none
def GC (sp:List Sa)(i:Nat):Sa:=sp.getD i { deps:=[],r:=rv undef }
def Ud (sp:List Sa):List Sp:=sp.map λs=>⟨s.deps,s.r,0⟩
def Lm (β:Nat→Nat)(s:Sa)(i:Nat):Rp:=match s.al with
 | none=>s.r
 | some _=>rv (.pointer (some ⟨β i,0,none⟩))
def L5 (S:Nat→Bool)(late:Option (Nat×List Rp))(cs:List Rp):List Rp:=match late with
 | none=>cs
 | some q=>if S q.1 then q.2 else cs
def GR (S:Nat→Bool)(β:Nat→Nat):List Sa→Nat→List Ent
 | [],_=>[]
 | s::r,t=>match s.al with
  | some p=>if S t then .blk (β t) (L5 S s.late p.1) p.2::GR S β r (t+1) else GR S β r (t+1)
  | none=>GR S β r (t+1)
def T3 (β:Nat→Nat):List Sa→Nat→List Ent
 | [],_=>[]
 | s::r,t=>match s.al with
  | some p=>.blk (β t) (match s.late with | none=>p.1 | some q=>q.2) p.2::T3 β r (t+1)
  | none=>T3 β r (t+1)
def Kl (β:Nat→Nat):List Oper→List Sa→Nat→Fr→Fr
 | o::os,s::sp,i,l=>match o.dst with
  | some d=>(d,Lm β s i)::Kl β os sp (i+1) l
  | none=>Kl β os sp (i+1) l
 | _,_,_,l=>l
theorem Ke {S S':Nat→Bool}{late:Option (Nat×List Rp)}{cs:List Rp}(h:∀q,late=some q→S q.1=S' q.1):L5 S late cs=L5 S' late cs:=by
 unfold L5
 cases late with
 | none=>rfl
 | some q=>simp only[];rw[h q rfl]
theorem EN (S:Nat→Bool)(β:Nat→Nat)(s:Sa)(r:List Sa)(t:Nat):GR S β (s::r) t=match s.al with
  | some p=>if S t then .blk (β t) (L5 S s.late p.1) p.2::GR S β r (t+1) else GR S β r (t+1)
  | none=>GR S β r (t+1):=rfl
theorem Hq {S S':Nat→Bool}{β β':Nat→Nat}:∀(r:List Sa) (t0:Nat),(∀(t:Nat) (s:Sa),r[t]? =some s→s.al≠none→S (t0+t)=S' (t0+t)∧(S (t0+t)=true→β (t0+t)=β' (t0+t)∧∀q,s.late=some q→S q.1=S' q.1))→GR S β r t0=GR S' β' r t0
 | [],_,_=>rfl
 | s::r,t0,h=>by
  have ih:=Hq r (t0+1) (λt s hs hn=>by
   have:=h (t+1) s (by simpa using hs) hn;rw[show t0+1+t=t0+(t+1) from by omega];exact this)
  unfold GR;rw[ih]
  cases ha:s.al with
  | none=>rfl
  | some p=>
   obtain⟨h1,h2⟩:=h 0 s rfl (by rw[ha];exact nofun);simp only[Nat.add_zero] at h1 h2;simp only[];rw[← h1]
   split
   ·rename_i hS;rw[(h2 hS).1,Ke (h2 hS).2]
   ·rfl
theorem Qp (β:Nat→Nat):∀(r:List Sa) (t0:Nat),GR (λ_=>true) β r t0=T3 β r t0
 | [],_=>rfl
 | s::r,t0=>by
  unfold GR T3;rw[Qp β r (t0+1)]
  cases s.al with
  | none=>rfl
  | some p=>cases hl:s.late<;>simp[L5,hl]
theorem NV (β:Nat→Nat):∀(r:List Sa) (t0:Nat),GR (λ_=>false) β r t0=[]
 | [],_=>rfl
 | s::r,t0=>by
  unfold GR;rw[NV β r (t0+1)]
  cases s.al<;>simp
theorem Qn {S:Nat→Bool}{β:Nat→Nat}{i b:Nat}{p:List Rp×TypeId}:∀(r:List Sa) (t0 k:Nat) (s:Sa),i=t0+k→r[k]? =some s→s.al=some p→S i=false→(∀(t:Nat) (s:Sa) (q:Nat×List Rp),r[t]? =some s→s.al≠none→s.late=some q→q.1≠i)→(∀q,s.late=some q→S q.1=false∧q.1≠i)→
  (GR (λj=>j ==i||S j) (λj=>if j=i then b else β j) r t0).Perm (.blk b p.1 p.2::GR S β r t0)
 | [],_,_,_,_,h,_,_,_,_=>by simp at h
 | s'::r,t0,0,s,hi,h,ha,hS,hne,hl=>by
  simp at h hi;subst h;subst hi;have e:=Hq (S:=λj=>j ==i||S j) (S':=S) (β:=λj=>if j=i then b else β j) (β':=β) r (i+1) (λt s hs hn=>by
   have:i+1+t≠i:=by omega
   refine⟨by simp[this],λ_=>⟨by simp[this],λq hq=>?_⟩⟩;have:=hne (t+1) s q (by simpa using hs) hn hq;simp[this])
  have ec:L5 (λj=>j ==i||S j) s'.late p.1=p.1:=by
   unfold L5
   cases hq:s'.late with
   | none=>rfl
   | some q=>
    obtain⟨h1,h2⟩:=hl q hq;simp[h1,h2]
  unfold GR;rw[e,ha];simp only[hS,BEq.rfl,Z1,ZG,ec];simp
 | s'::r,t0,k+1,s,hi,h,ha,hS,hne,hl=>by
  have ih:=Qn (S:=S) (β:=β) (i:=i) (b:=b) (p:=p) r (t0+1) k s (by omega) (by simpa using h) ha hS (λt s q hs=>hne (t+1) s q (by simpa using hs)) hl;have hne0:t0≠i:=by omega
  have hne':(t0 ==i)=false:=by simpa using hne0
  unfold GR
  cases ha':s'.al with
  | none=>exact ih
  | some q=>
   simp only[hne',Zn,Zu hne0];rw[Ke (S:=λj=>j ==i||S j) (S':=S) (λq hq=>by
    have:=hne 0 s' q rfl (by rw[ha'];exact nofun) hq;simp[this])]
   cases hS':S t0 with
   | true=>simpa using(YY _ ih).trans (List.Perm.swap _ _ _)
   | false=>simpa using ih
theorem Qm {S:Nat→Bool}{β:Nat→Nat}{i j:Nat}{p:List Rp×TypeId}{ncs:List Rp}:∀(r:List Sa) (t0 k:Nat) (s:Sa),j=t0+k→r[k]? =some s→s.al=some p→s.late=some (i,ncs)→S j=true→S i=false→(∀(t:Nat) (s:Sa) (q:Nat×List Rp),r[t]? =some s→s.al≠none→s.late=some q→t0+t≠j→q.1≠i)→(∀(t:Nat) (s:Sa),r[t]? =some s→s.al≠none→t0+t≠i)→
  ∃H',(GR S β r t0).Perm (.blk (β j) p.1 p.2::H')∧(GR (λj=>j ==i||S j) β r t0).Perm (.blk (β j) ncs p.2::H')
 | [],_,_,_,_,h,_,_,_,_,_,_=>by simp at h
 | s'::r,t0,0,s,hj,h,ha,hl,hSj,hSi,hne,hni=>by
  simp at h hj;subst h;subst hj;have e:=Hq (S:=λx=>x ==i||S x) (S':=S) (β:=β) (β':=β) r (j+1) (λt s hs hn=>by
   have h1:=hni (t+1) s (by simpa using hs) hn;have h1':j+1+t≠i:=by omega
   refine⟨by simp[h1'],λ_=>⟨rfl,λq hq=>?_⟩⟩;have:=hne (t+1) s q (by simpa using hs) hn hq (by omega);simp[this])
  refine⟨GR S β r (j+1),?_,?_⟩
  ·rw[EN];rw[ha];simp[hSj,L5,hl,hSi]
  ·rw[EN];rw[ha,e];simp[hSj,L5,hl]
 | s'::r,t0,k+1,s,hj,h,ha,hl,hSj,hSi,hne,hni=>by
  obtain⟨H',h1,h2⟩:=Qm (S:=S) (β:=β) (i:=i) (j:=j) (p:=p) (ncs:=ncs) r (t0+1) k s (by omega) (by simpa using h) ha hl hSj hSi (λt s q hs hn hq hx=>hne (t+1) s q (by simpa using hs) hn hq (by omega)) (λt s hs hn=>by
   have:=hni (t+1) s (by simpa using hs) hn;omega)
  cases ha':s'.al with
  | none=>exact⟨H',by rw[EN,ha'];exact h1,by rw[EN,ha'];exact h2⟩
  | some q=>
   have hi0:=hni 0 s' rfl (by rw[ha'];exact nofun);have hi0':(t0 ==i)=false:=by simpa using hi0
   have ec:L5 (λx=>x ==i||S x) s'.late q.1=L5 S s'.late q.1:=Ke (λq hq=>by
    have:=hne 0 s' q rfl (by rw[ha'];exact nofun) hq (by omega);simp[this])
   cases hS':S t0 with
   | true=>
    refine⟨.blk (β t0) (L5 S s'.late q.1) q.2::H',?_,?_⟩
    ·rw[EN];rw[ha'];simpa[hS'] using(YY _ h1).trans (List.Perm.swap _ _ _)
    ·rw[EN];rw[ha'];simp only[hi0',Zn,hS',ZG,ec];exact(YY _ h2).trans (List.Perm.swap _ _ _)
   | false=>
    refine⟨H',?_,?_⟩
    ·rw[EN];rw[ha'];simpa[hS'] using h1
    ·rw[EN];rw[ha'];simp only[hi0',Zn,hS'];simpa using h2
def YF (n:Nat)(ops:List Oper)(N:Nat)(keys:List Nat)(deps:List (List Nat))(als:List Bool)(lates stos:List (Option Nat)):Bool:=
 Nm ops N&&decide (N≤ops.length)&&
 (List.range N).all (λi=>match Cg ops i with
  | some d=>decide (d<n)&&!keys.contains d&&(List.range N).all (λj=>j ==i||Cg ops j !=some d)
  | none=>true)&&
 (List.range N).all (λi=>(deps.getD i []).all (λj=>decide (j<N)&&(DR (ops.getD i default)).contains j&&!als.getD j true))&&
 (List.range N).all (λi=>match stos.getD i none with
  | some j=>decide (j<N)&&(DR (ops.getD i default)).contains j&&als.getD j false&&!als.getD i true
  | none=>true)&&
 (List.range N).all (λj=>match lates.getD j none with
  | some k=>decide (k<N)&&als.getD j false&&stos.getD k none ==some j
  | none=>true)
def XO (P:Program)(n:Nat)(c:Cx)(opsA:Array Oper)(Q:Exit→Act→World→Prop)(l:Fr)(o:Oper)(p:List Rp×TypeId):Prop:=
 ∀H a w Z (K:Act→World→Prop),CP n l a Z→St c H Z w→(∀b w',St c (.blk b p.1 p.2::H) Z w'→K (a.put o.dst (.pointer (some ⟨b,0,none⟩))) w')→
  Region.wanted o (yielded opsA a.tmps)=true∧o.wp P a w K Q
def XM (P:Program)(n:Nat)(c:Cx)(opsA:Array Oper)(Q:Exit→Act→World→Prop)(ops:List Oper)(sp:List Sa)(l0:Fr)(H:List Ent)(i:Nat)(o:Oper):Prop:=
 match (GC sp i).sto with
 | some j=>o.dst=none∧∃d p ncs,Cg ops j=some d∧(GC sp j).al=some p∧(GC sp j).late=some (i,ncs)∧
   ∀b H,DN P n c opsA Q ((d,rv (.pointer (some ⟨b,0,none⟩)))::BI ops (Ud sp) (GC sp i).deps l0) (.blk b p.1 p.2::H) o (rv undef) (.blk b ncs p.2::H)
 | none=>match (GC sp i).al with
  | none=>∀E,DN P n c opsA Q (BI ops (Ud sp) (GC sp i).deps l0) (H++E) o (GC sp i).r (H++E)
  | some p=>XO P n c opsA Q (BI ops (Ud sp) (GC sp i).deps l0) o p
def Kk (P:Program)(n:Nat)(c:Cx)(opsA:Array Oper)(Q:Exit→Act→World→Prop)(ops:List Oper)(sp:List Sa)(l0:Fr)(H:List Ent):Nat→List Oper→Prop
 | i,o::rest=>XM P n c opsA Q ops sp l0 H i o∧Kk P n c opsA Q ops sp l0 H (i+1) rest
 | _,[]=>True
section
variable {P : Program} {n : Nat} {c : Cx} {opsA : Array Oper} {Q : Exit → Act → World → Prop} {l l0 : Fr} {H : List Ent} {sp : List Sa}
theorem Kk.at {ops:List Oper}:∀{k:Nat} {rest:List Oper},Kk P n c opsA Q ops sp l0 H k rest→∀(t:Nat) o,rest[t]? =some o→XM P n c opsA Q ops sp l0 H (k+t) o
 | k,o::rest,⟨h1,h2⟩,t,o',ht=>by
  cases t with
  | zero=>simp at ht;subst ht;exact h1
  | succ t=>
   have:=Kk.at h2 t o' (by simpa using ht);rw[show k+(t+1)=k+1+t from by omega];exact this
 | _,[],_,t,o,h=>by simp at h
theorem My {β:Nat→Nat}{a:Act}{Z:Fz}(h0:CP n l0 a Z):∀(os:List Oper) (ss:List Sa) (k:Nat),(∀(t:Nat) o s d,os[t]? =some o→ss[t]? =some s→o.dst=some d→∃v,a.tmps[d]? =some v∧(Lm β s (k+t)).p Z v)→CP n (Kl β os ss k l0) a Z
 | [],_,_,_=>by unfold Kl;exact h0
 | _::_,[],_,_=>by unfold Kl;exact h0
 | o::os,s::ss,k,h=>by
  have ih:=My h0 os ss (k+1) (λt o' s' d h1 h2 h3=>by
   have:=h (t+1) o' s' d (by simpa using h1) (by simpa using h2) h3;rw[show k+1+t=k+(t+1) from by omega];exact this)
  unfold Kl
  cases hd:o.dst with
  | none=>exact ih
  | some d=>
   refine⟨ih.size,ih.defers,λi r hi=>?_⟩;rw[Ct] at hi
   split at hi
   ·rename_i e;subst e;simp at hi;subst hi;exact h 0 o s d rfl rfl hd
   ·exact ih.tm i r hi
theorem Xe {id:Nat}{ops:List Oper}(N:Nat)(sp:List Sa)(hm:P.follows .mixedOrders=true)(hB:YF n ops N (Ek l0) (sp.map (·.deps)) (sp.map (·.al.isSome)) (sp.map (·.late.map (·.1))) (sp.map (·.sto))=true)(hl0:Qy l0 l)(hsp:sp.length=N)
  (hob:Kk P n c ops.toArray Q ops sp l0 H 0 (ops.take N)) (h:∀β,WL P n c ops.toArray Q (ops.drop N) (Kl β (ops.take N) sp 0 l0) (H++T3 β sp 0)):WC P n c (.region id ops.toArray true) Q l H:=by
 intro a w Z ha hw;simp only[YF,Zd,ZD,List.mem_range,Za] at hB;obtain⟨⟨⟨⟨⟨b1,bN⟩,b2⟩,b3⟩,b4⟩,b5⟩:=hB;have hget:∀i,i<N→(ops.take N)[i]? =ops[i]?:=λi hi=>by rw[ZJ,Z4 hi]
 have hsa:∀i,i<N→sp[i]? =some (GC sp i):=λi hi=>by
  simp[GC,Zf,Zg (show i<sp.length by omega)]
 have hspq:∀i,i<N→(DC (Ud sp) i)=⟨(GC sp i).deps,(GC sp i).r,0⟩:=λi hi=>by
  simp[DC,Ud,Zf,Z9,hsa i hi]
 have hals:∀j b,j<N→(sp.map (·.al.isSome)).getD j b=(GC sp j).al.isSome:=λj b hj=>by simp[Zf,Z9,hsa j hj]
 have hstos:∀j,j<N→(sp.map (·.sto)).getD j none=(GC sp j).sto:=λj hj=>by simp[Zf,Z9,hsa j hj]
 have hlates:∀j,j<N→(sp.map (·.late.map (·.1))).getD j none=(GC sp j).late.map (·.1):=λj hj=>by simp[Zf,Z9,hsa j hj]
 have S1:∀i o j,i<N→ops[i]? =some o→(GC sp i).sto=some j→j<N∧j∈DR o∧(GC sp j).al≠none∧(GC sp i).al=none:=λi o j hi ho hs=>by
  have h1:=b4 i hi;rw[hstos i hi,hs] at h1;simp only[Zd,Zq,Za] at h1;obtain⟨⟨⟨h2,h3⟩,h4⟩,h5⟩:=h1;rw[hals j _ h2] at h4;rw[hals i _ hi] at h5;rw[Zf,ho,ZB,List.contains_iff_mem] at h3;exact⟨h2,h3,λe=>(by rw[e] at h4;cases h4),(by simpa using h5)⟩
 have L1:∀t q,t<N→(GC sp t).late=some q→q.1<N∧(GC sp q.1).sto=some t:=λt q ht hq=>by
  have h1:=b5 t ht;rw[hlates t ht,hq] at h1;simp only[Option.map_some,Zd,Za,beq_iff_eq] at h1;obtain⟨⟨h2,h3⟩,h4⟩:=h1;rw[hstos _ h2] at h4;exact⟨h2,h4⟩
 have hops:∀j,j<N→∃o,ops[j]? =some o:=λj hj=>⟨ops[j]'(by omega),Zg (by omega)⟩
 have lt_of:∀(t:Nat) (s:Sa),sp[t]? =some s→t<N∧s=GC sp t:=λt s hs=>by
  have h1:t<N:=by have:=(List.getElem?_eq_some_iff.1 hs).1;omega
  refine⟨h1,?_⟩;rw[hsa t h1] at hs;simpa using hs.symm
 have hdst:∀i o d,i<N→ops[i]? =some o→o.dst=some d→(d<n∧d ∉ Ek l0)∧∀j,j<N→j≠i→Cg ops j≠some d:=λi o d hi ho hd=>by
  have h3:=b2 i hi;have:Cg ops i=some d:=by simp[Cg,ho,hd]
  rw[this] at h3;simp only[Zd,Zq,ZD,List.mem_range,Za] at h3;refine⟨⟨h3.1.1,λhmem=>by rw[← List.contains_iff_mem] at hmem;rw[hmem] at h3;cases h3.1.2⟩,λj hj hne he=>?_⟩;have:=h3.2 j hj;simp[hne,he] at this
 refine Q4 (N:=N) hm b1 bN (λS a w=>∃ (β:Nat→Nat) (Z:Fz),St c (H++GR S β sp 0) Z w∧CP n l0 a Z∧(∀j o d,j<N→S j=true→ops[j]? =some o→o.dst=some d→∃v,a.tmps[d]? =some v∧(Lm β (GC sp j) j).p Z v)∧
   ∀k j,k<N→(GC sp k).sto=some j→S k=true→S j=true)
  (λS S' a w hS hI=>?_) ⟨λ_=>0,Z,?_,ha.subL hl0,λj o d _ hS=>(by cases hS),λk j _ _ hS=>(by cases hS)⟩ (λS i o a w hi hun ho hb hI K hK=>?_) (λa w hI=>?_)
 ·obtain⟨β,Z,h1,h2,h3,h4⟩:=hI;refine⟨β,Z,?_,h2,λj o d hj hS'=>h3 j o d hj (by rw[hS j hj];exact hS'),λk j hk hs hSk=>?_⟩
  ·rw[← Hq (S:=S) (β:=β) (β':=β) sp 0 (λt s hs _=>by
    obtain⟨ht,rfl⟩:=lt_of t s hs;exact⟨hS _ (by omega),λ_=>⟨rfl,λq hq=>hS _ (L1 t q ht hq).1⟩⟩)]
   exact h1
  ·obtain⟨o,ho⟩:=hops k hk;rw[← hS j (S1 k o j hk ho hs).1];exact h4 k j hk hs (by rw[hS k hk];exact hSk)
 ·rw[NV,ZT];exact hw.drawn _
 ·obtain⟨β,Z,h1,h2,h3,hx⟩:=hI;have hput:∀k u v,a.tmps[k]? =some u→o.dst≠some k→(a.put o.dst v).tmps[k]? =some u:=λk u v hk hne=>by
   cases hd:o.dst with
   | none=>simpa[Act.put] using hk
   | some d=>
    simp only[Act.put,Array.getElem?_setIfInBounds];rw[Zu (λe=>hne (by rw[hd,e]))];exact hk
  have hagr:∀v Z',Fz.le Z Z'→CP n l0 (a.put o.dst v) Z':=λv Z' hz=>by
   refine⟨?_,?_,λk r hk=>?_⟩
   ·cases o.dst<;>simp[Act.put,h2.size]
   ·cases o.dst<;>simp[Act.put,h2.defers]
   ·obtain⟨u,hu,hpu⟩:=h2.tm k r hk;exact⟨u,hput k u v hu (λe=>((hdst i o k hi ho e).1).2 (IZ hk)),r.mono hz hpu⟩
  have hvals:∀(v:Value) (Z':Fz) (β':Nat→Nat),Fz.le Z Z'→(∀j,j≠i→β' j=β j)→(o.dst≠none→(Lm β' (GC sp i) i).p Z' v)→∀j o' d,j<N→(j ==i||S j)=true→ops[j]? =some o'→o'.dst=some d→∃u,(a.put o.dst v).tmps[d]? =some u∧(Lm β' (GC sp j) j).p Z' u:=by
   intro v Z' β' hz hβ hp j o' d hj hS' ho' hd
   by_cases hji:j=i
   ·subst hji;rw[ho] at ho';simp at ho';subst ho';refine⟨v,?_,hp (by simp[hd])⟩;have hdn:d<a.tmps.size:=by rw[h2.size];exact(hdst j o d hi ho hd).1.1
    simp[Act.put,hd,hdn]
   ·have hSj:S j=true:=by simpa[hji] using hS'
    obtain⟨u,hu,hpu⟩:=h3 j o' d hj hSj ho' hd;refine⟨u,hput d u v hu (λe=>(hdst i o d hi ho e).2 j hj hji (by simp[Cg,ho',hd])),?_⟩;have:Lm β' (GC sp j) j=Lm β (GC sp j) j:=by unfold Lm;rw[hβ j hji]
    rw[this];exact(Lm β (GC sp j) j).mono hz hpu
  have hx':∀k j,k<N→(GC sp k).sto=some j→(k ==i||S k)=true→(j ==i||S j)=true:=λk j hk hs hSk=>by
   by_cases hki:k=i
   ·subst hki;have:=(hb j (S1 k o j hk ho hs).2.1).2;simp[this]
   ·have:S j=true:=hx k j hk hs (by simpa[hki] using hSk);simp[this]
  have hat:=hob.at i o (by rw[hget i hi];exact ho);rw[ZH] at hat;unfold XM at hat;have hag':CP n (BI ops (Ud sp) (GC sp i).deps l0) a Z:=J2 h2 (λj hj d hd=>by
    have h4:=b3 i hi j (by simpa[Zf,Z9,hsa i hi] using hj);simp only[Zd,Zq,Za] at h4;obtain⟨⟨h5,h6⟩,h7⟩:=h4;rw[Zf,ho,ZB,List.contains_iff_mem] at h6;have hjal:(GC sp j).al=none:=by
     rw[hals j _ h5] at h7;simpa using h7
    obtain⟨o2,ho2⟩:=hops j h5;obtain⟨v,hv1,hv2⟩:=h3 j o2 d h5 (hb j h6).2 ho2 (by simpa[Cg,ho2] using hd);refine⟨v,hv1,?_⟩;rw[hspq j h5];simpa[Lm,hjal] using hv2)
  cases hst:(GC sp i).sto with
  | some j=>
   rw[hst] at hat;obtain⟨hod,d,p,ncs,hd,hal,hlate,hok⟩:=hat;obtain⟨hjN,hjb,_,hial⟩:=S1 i o j hi ho hst;have hSj:=(hb j hjb).2;obtain⟨H',p1,p2⟩:=Qm (S:=S) (β:=β) (i:=i) (j:=j) (p:=p) (ncs:=ncs) sp 0 j (GC sp j) (by omega) (hsa j hjN) hal hlate hSj hun (λt s q hs _ hq hne he=>by
     obtain⟨ht,rfl⟩:=lt_of t s hs;have:=(L1 t q ht hq).2;rw[he,hst] at this;simp at this;omega) (λt s hs hn he=>by
     obtain⟨ht,rfl⟩:=lt_of t s hs;rw[ZH] at he;subst he;exact hn hial)
   obtain⟨o2,ho2⟩:=hops j hjN;obtain⟨v,hv1,hv2⟩:=h3 j o2 d hjN hSj ho2 (by simpa[Cg,ho2] using hd);have hag2:CP n ((d,rv (.pointer (some ⟨β j,0,none⟩)))::BI ops (Ud sp) (GC sp i).deps l0) a Z:=⟨hag'.size,hag'.defers,λk r hk=>by
    rw[Ct] at hk
    split at hk
    ·rename_i e;subst e;simp at hk;subst hk
     exact⟨v,hv1,by simpa[Lm,hal] using hv2⟩
    ·exact hag'.tm k r hk⟩
   refine hok (β j) (H++H') a w Z K hag2 (h1.perm ((List.Perm.append_left H p1).trans List.perm_middle)) (λv w' Z' hz _ hs'=>hK _ _ ⟨β,Z',?_,hagr v Z' hz,hvals v Z' β hz (λ_ _=>rfl) (λhne=>absurd hod hne),hx'⟩);exact hs'.perm (List.perm_middle.symm.trans (List.Perm.append_left H p2.symm))
  | none=>
   rw[hst] at hat;have latene:∀t q,t<N→(GC sp t).late=some q→q.1≠i:=λt q ht hq he=>by
    have:=(L1 t q ht hq).2;rw[he,hst] at this;cases this
   cases hal:(GC sp i).al with
   | none=>
    rw[hal] at hat;refine hat _ a w Z K hag' h1 (λv w' Z' hz hp hst'=>hK _ _ ⟨β,Z',?_,hagr v Z' hz,hvals v Z' β hz (λ_ _=>rfl) (λ_=>by unfold Lm;rw[hal];exact hp),hx'⟩);rw[Hq (S':=S) (β':=β) sp 0 (λt s hs hn=>by
     obtain⟨ht,rfl⟩:=lt_of t s hs;have:t≠i:=λe=>by subst e;exact hn hal
     refine⟨by simp[this],λ_=>⟨rfl,λq hq=>?_⟩⟩;have:=latene t q ht hq;simp[this])]
    exact hst'
   | some p=>
    rw[hal] at hat;have key:=λK' hK'=>hat (H++GR S β sp 0) a w Z K' hag' h1 hK';have h5:∀b w',St c (.blk b p.1 p.2::(H++GR S β sp 0)) Z w'→K (a.put o.dst (.pointer (some ⟨b,0,none⟩))) w':=λb w' hst'=>by
     refine hK _ _ ⟨λj=>if j=i then b else β j,Z,?_,hagr _ Z (Fz.le.refl _),hvals _ Z _ (Fz.le.refl _) (λj hj=>by simp[hj]) (λ_=>by simp[Lm,hal,rv]),hx'⟩;have hp:=Qn (S:=S) (β:=β) (i:=i) (b:=b) (p:=p) sp 0 i (GC sp i) (by omega) (hsa i hi) hal hun (λt s q hs _ hq=>by
      obtain⟨ht,rfl⟩:=lt_of t s hs;exact latene t q ht hq) (λq hq=>by
       refine⟨?_,latene i q hi hq⟩
       cases hS:S q.1 with
       | false=>rfl
       | true=>
        obtain⟨h6,h7⟩:=L1 i q hi hq;have:=hx q.1 i h6 h7 hS;rw[this] at hun;cases hun)
     exact hst'.perm ((List.perm_middle.symm).trans (List.Perm.append_left H hp.symm))
    refine⟨λ_=>(key K h5).2,λhw'=>?_⟩;rw[(key K h5).1] at hw';cases hw'
 ·obtain⟨β,Z,h1,h2,h3,_⟩:=hI;refine h β a w Z (My h2 _ _ 0 (λt o s d ht hs hd=>?_)) (by rw[← Qp];exact h1);obtain⟨htN,rfl⟩:=lt_of t s hs;rw[ZH];exact h3 t o d htN rfl (by rw[← hget t htN];exact ht) hd
end
theorem XI {l:Fr}{P:Program}{n:Nat}{c:Cx}{opsA:Array Oper}{Q:Exit→Act→World→Prop}{d:Nat}{e:TypeId}{x:Operand}{ty:TypeId}{pos:String}{af:Array Edge}{cs:List Rp}(hx:ev l x=some (By cs)) :
  XO P n c opsA Q l { dst:=some d,op:=.box e x,type:=ty,pos:=pos,after:=af,guard:=none } (cs,e):=λH a w Z K ha hw hK=>by
 refine⟨by simp[Region.wanted],?_⟩;obtain⟨us,e1,hu⟩:=ha.ev hx;unfold Oper.wp;rw[show(execOp a.eval { dst:=some d,op:=.box e x,type:=ty,pos:=pos,after:=af,guard:=none }).run P w = .ok (.value (.pointer (some ⟨w.heap.size,0,none⟩))) (w.alloc (.cells us.toArray e)) from by simp[execOp,e1,Instr.box,newVar,newRow,newObj,Sem.run,Value.cells]];exact hK _ _ (hw.alloc _ (e:=.blk w.heap.size cs e) ⟨us,by simpa using heap_alloc_new w _,hu⟩ rfl)
section
variable {P : Program} {n : Nat} {c : Cx} {opsA : Array Oper} {Q : Exit → Act → World → Prop} {l l0 : Fr} {H : List Ent} {sp : List Sa}
theorem Ks {id:Nat}{ops:List Oper}(N:Nat)(ks0:List Nat)(sp:List Sa)(hob:Kk P n c ops.toArray Q ops sp l0 H 0 (ops.take N))(h:∀β,WL P n c ops.toArray Q (ops.drop N) (Kl β (ops.take N) sp 0 l0) (H++T3 β sp 0))
  (h0:Kp ks0 l l0:=by repeat (first | exact LZ | (apply JZ;rfl) | (apply KR;rfl))) (hm:P.follows .mixedOrders=true:=by kernel_rfl) (hB:YF n ops N (Ek l0) (sp.map (·.deps)) (sp.map (·.al.isSome)) (sp.map (·.late.map (·.1))) (sp.map (·.sto))=true:=by kernel_rfl)
  (hsp:sp.length=N:=by rfl):WC P n c (.region id ops.toArray true) Q l H:=Xe N sp hm hB h0.one hsp hob h
theorem Iv {all rest:List Oper}{d:Nat}{op:Op}{ty:TypeId}{pos:String}{af:Array Edge}{i:Nat}
  (hr:∀{H},Br P n c (BI all (Ud sp) (GC sp i).deps l0) H { dst:=some d,op:=op,type:=ty,pos:=pos,after:=af,guard:=none } (GC sp i).r) (h:Kk P n c opsA Q all sp l0 H (i+1) rest) (ha:(GC sp i).al=none:=by rfl) (hs:(GC sp i).sto=none:=by rfl) :
  Kk P n c opsA Q all sp l0 H i ({ dst:=some d,op:=op,type:=ty,pos:=pos,after:=af,guard:=none }::rest):=by
 refine⟨?_,h⟩;unfold XM;rw[hs,ha];exact λ_=>Bp hr
theorem TI {all rest:List Oper}{d:Nat}{op:Op}{ty:TypeId}{pos:String}{af:Array Edge}{i:Nat}
  (hr:∀{E},Br P n c (BI all (Ud sp) (GC sp i).deps l0) (H++E) { dst:=some d,op:=op,type:=ty,pos:=pos,after:=af,guard:=none } (GC sp i).r) (h:Kk P n c opsA Q all sp l0 H (i+1) rest) (ha:(GC sp i).al=none:=by rfl) (hs:(GC sp i).sto=none:=by rfl) :
  Kk P n c opsA Q all sp l0 H i ({ dst:=some d,op:=op,type:=ty,pos:=pos,after:=af,guard:=none }::rest):=by
 refine⟨?_,h⟩;unfold XM;rw[hs,ha];exact λ_=>Bp hr
theorem YV {all rest:List Oper}{o:Oper}{p:List Rp×TypeId}{i:Nat}(hr:XO P n c opsA Q (BI all (Ud sp) (GC sp i).deps l0) o p)(h:Kk P n c opsA Q all sp l0 H (i+1) rest)(ha:(GC sp i).al=some p:=by rfl)(hs:(GC sp i).sto=none:=by rfl):Kk P n c opsA Q all sp l0 H i (o::rest):=by
 refine⟨?_,h⟩;unfold XM;rw[hs,ha];exact hr
theorem Ye {all:List Oper}{i:Nat}:Kk P n c opsA Q all sp l0 H i []:=trivial
end
structure V8 (ks:List Nat) (β:Nat→Nat) (os:List Oper) (sp:List Sa) (i:Nat) (l0 l1:Fr):Prop where
 go:Kp ks (Kl β os sp i l0) l1
section
variable {ks : List Nat} {β : Nat → Nat} {os : List Oper} {sp : List Sa} {i d : Nat} {l0 l1 : Fr} {ds : List Nat} {r : Rp} {p : List Rp × TypeId} {lt : Option (Nat × List Rp)} {so : Option Nat} {op : Op} {ty : TypeId} {pos : String} {af : Array Edge} {g : Option (Nat × Bool)}
theorem Yi (h:ks.contains d=true)(t:V8 ks β os sp (i+1) l0 l1):V8 ks β ({ dst:=some d,op:=op,type:=ty,pos:=pos,after:=af,guard:=g }::os) ({ deps:=ds,r:=r,sto:=so }::sp) i l0 ((d,r)::l1):=⟨JZ h t.go⟩
theorem Yl (h:ks.contains d=true)(t:V8 ks β os sp (i+1) l0 l1):V8 ks β ({ dst:=some d,op:=op,type:=ty,pos:=pos,after:=af,guard:=g }::os) ({ deps:=ds,r:=r,al:=some p,late:=lt,sto:=so }::sp) i l0 ((d,rv (.pointer (some ⟨β i,0,none⟩)))::l1):=⟨JZ h t.go⟩
theorem Yk {s:Sa}(h:ks.contains d=false)(t:V8 ks β os sp (i+1) l0 l1):V8 ks β ({ dst:=some d,op:=op,type:=ty,pos:=pos,after:=af,guard:=g }::os) (s::sp) i l0 l1:=⟨KR h t.go⟩
theorem Yj {s:Sa}(t:V8 ks β os sp (i+1) l0 l1):V8 ks β ({ dst:=none,op:=op,type:=ty,pos:=pos,after:=af,guard:=g }::os) (s::sp) i l0 l1:=⟨t.go⟩
theorem Ym (t:Kp ks l0 l1):V8 ks β [] [] i l0 l1:=⟨t⟩
theorem E9 {P:Program}{n:Nat}{c:Cx}{opsA:Array Oper}{Q:Exit→Act→World→Prop}{rest:List Oper}{H H1:List Ent}(ks:List Nat)(h:WL P n c opsA Q rest l1 H1)
  (hz:V8 ks β os sp i l0 l1:=by repeat (first | (apply Yi;rfl) | (apply Yl;rfl) | (apply Yk;rfl) | apply Yj | apply Ym | exact LZ | (apply JZ;rfl) | (apply KR;rfl))) (hH:H=H1:=by rfl) :
  WL P n c opsA Q rest (Kl β os sp i l0) H:=λa w Z ha hw=>h a w Z (ha.subL hz.go.one) (hH▸hw)
end
section
variable {P : Program} {n : Nat} {c : Cx} {opsA : Array Oper} {Q : Exit → Act → World → Prop} {l l0 : Fr} {H : List Ent} {sp : List Sa}
theorem Yf {all rest:List Oper}{o:Oper}{i:Nat}(hr:∀{E},DN P n c opsA Q (BI all (Ud sp) (GC sp i).deps l0) (H++E) o (GC sp i).r (H++E))(h:Kk P n c opsA Q all sp l0 H (i+1) rest)(ha:(GC sp i).al=none:=by rfl)(hs:(GC sp i).sto=none:=by rfl):Kk P n c opsA Q all sp l0 H i (o::rest):=by
 refine⟨?_,h⟩;unfold XM;rw[hs,ha];exact λ_=>hr
end
def YR (p:Bool→Prop):Rp:=⟨λ_ v=>∃b,v = .bool b∧p b,λ_ h=>h,true,λ_ Z v ⟨b,e,_⟩=>by rw[e];rfl⟩
section
variable {P : Program} {n : Nat} {c : Cx} {ops : Array Oper} {Q : Exit → Act → World → Prop} {rest : List Oper} {l : Fr} {H : List Ent} {d : Option Nat} {ty rty t e : TypeId} {pos : String} {af : Array Edge} {g : Option (Nat × Bool)} {r : Rp} {x : Operand} {cx cy : Code} {sz : Nat} {xs : List (List Rp)}
theorem TP {o:Operand}{p:Bool→Prop}(ho:ev l o=some (YR p))(h1:p true→WC P n c cx Q l H)(h2:p false→WC P n c cy Q l H):WC P n c (.cond o cx cy) Q l H:=λa w Z ha hw=>by
 obtain⟨b,e,hp⟩:=ha.ev ho;exact wp_cond_split e (λe=>h1 (e▸hp) a w Z ha hw) (λe=>h2 (e▸hp) a w Z ha hw)
theorem Ti (ht:P.underlying t=some (.slice e))(h:ev l x=some (Bo sz xs)):Br P n c l H { dst:=d,op:=.binOp .eql t x (.const (.slice none 0 0)) rty,type:=ty,pos:=pos,after:=af,guard:=g } (YR (λb=>b=true→xs=[])):=λa w Z ha hw=>by
 obtain⟨A,cap,e1,h1,h2,h3,h4⟩:=ha.ev h;refine⟨.bool A.isNone,⟨_,rfl,λhb=>?_⟩,?_⟩
 ·cases A with
  | some a=>cases hb
  | none=>
   have:=h3 rfl;exact List.length_eq_zero_iff.1 (by omega)
 ·have:=run_equal_slice_nil (P:=P) w t e A xs.length cap ht;have e2:a.eval (.const (.slice none 0 0)) = .slice none 0 0:=rfl;simp[execOp,e1,e2,binOp,this,eqGuard]
end
section
variable {P : Program} {n : Nat} {c : Cx} {l : Fr} {H : List Ent} {d : Option Nat} {ty rty t e : TypeId} {pos : String} {af : Array Edge} {g : Option (Nat × Bool)} {x : Operand} {sz : Nat}
end
theorem EM (s:ByteArray):MapKept.IsKey .string (.string s):=by simp[MapKept.IsKey]
theorem JK.keys {Z:Fz}:∀{f:List (List UInt8×Rp)} {es:List MapEntry},JK Z f es→∀x∈es,MapKept.IsKey .string x.key
 | [],[],_,x,hx=>by cases hx
 | p::f,e::es,⟨⟨h1,h2⟩,h3⟩,x,hx=>by
  rcases List.mem_cons.1 hx with rfl | hx
  ·rw[h1];exact EM _
  ·exact JK.keys h3 x hx
theorem JK.at {Z:Fz}:∀{f:List (List UInt8×Rp)} {es:List MapEntry},JK Z f es→f.length=es.length∧∀(j:Nat) (e:MapEntry),es[j]? =some e→∃k r,f[j]? =some (k,r)∧e.key = .string (B k)∧r.p Z e.val
 | [],[],_=>⟨rfl,λj e h=>by simp at h⟩
 | p::f,e::es,⟨⟨h1,h2⟩,h3⟩=>by
  obtain⟨hl,ha⟩:=JK.at h3;refine⟨by simp[hl],λj e' hj=>?_⟩
  cases j with
  | zero=>simp at hj;subst hj;exact⟨p.1,p.2,rfl,h1,h2⟩
  | succ j=>simp at hj;simpa using ha j e' hj
theorem JK.of {Z:Fz}:∀{f:List (List UInt8×Rp)} {es:List MapEntry},f.length=es.length→(∀(j:Nat) (e:MapEntry),es[j]? =some e→∃k r,f[j]? =some (k,r)∧e.key = .string (B k)∧r.p Z e.val)→JK Z f es
 | [],[],_,_=>trivial
 | p::f,e::es,hl,h=>by
  obtain⟨k,r,h1,h2,h3⟩:=h 0 e rfl;simp at h1;subst h1;exact⟨⟨h2,h3⟩,JK.of (by simpa using hl) λj e' hj=>by simpa using h (j+1) e' (by simpa using hj)⟩
 | [],_::_,hl,_=>by simp at hl
 | _::_,[],hl,_=>by simp at hl
theorem JK.snoc {Z:Fz}{k:List UInt8}{r:Rp}{e:MapEntry}(h1:e.key = .string (B k))(h2:r.p Z e.val):∀{f:List (List UInt8×Rp)} {es:List MapEntry},JK Z f es→JK Z (f++[(k,r)]) (es++[e])
 | [],[],_=>⟨⟨h1,h2⟩,trivial⟩
 | p::f,e'::es,⟨h,h3⟩=>⟨h,JK.snoc h1 h2 h3⟩
theorem JK.filter {Z:Fz}(q:MapEntry→Bool):∀{f:List (List UInt8×Rp)} {es:List MapEntry},JK Z f es→∃g,JK Z g (es.filter q)∧g.Sublist f
 | [],[],_=>⟨[],trivial,List.Sublist.refl _⟩
 | p::f,e::es,⟨h,h3⟩=>by
  obtain⟨g,hg,hs⟩:=JK.filter q h3
  cases hq:q e with
  | true=>exact⟨p::g,by rw[List.filter_cons_of_pos hq];exact⟨h,hg⟩,hs.cons_cons p⟩
  | false=>exact⟨g,by rw[List.filter_cons_of_neg (by simp[hq])];exact hg,hs.cons p⟩
theorem IW {T:Type}:∀{m:List (AE×T)} {k:AE} {r:T},(m.map (·.1)).Nodup→(k,r)∈m→mget m k=some r
 | p::m,k,r,hn,h=>by
  rw[ZK,List.nodup_cons] at hn;rw[mget];rcases List.mem_cons.1 h with h | h
  ·subst h;rw[Zc rfl];rfl
  ·have hne : ¬ p.1=k:=λe=>hn.1 (by rw[e];exact List.mem_map.2 ⟨(k,r),h,rfl⟩);rw[Ze hne];exact IW hn.2 h
theorem NJ {T:Type}:∀{m:List (AE×T)} {k:AE},(∀p∈m,p.1≠k)→mget m k=none
 | [],_,_=>rfl
 | p::m,k,h=>by
  rw[mget,Ze (h p (by simp))];exact NJ λq hq=>h q (by simp[hq])
theorem Yw {a b:List UInt8}(h:B a=B b):a=b:=by
 have:=congrArg ByteArray.toList h
 rwa [Gi,Gi] at this
theorem MF {a b:List UInt8}(h:Value.string (B a) = .string (B b)):a=b:=Yw (by cases h;rfl)
theorem OO {Z:Fz}{m:List (List UInt8×Rp)}{es:List MapEntry}{ck:Nat}(h:Gl Z m es ck)(k:List UInt8) :
  (Instr.findNow .string (.string (B k)) es 0=some none∧mget m k=none∧∀p∈m,p.1≠k)∨∃j e r,Instr.findNow .string (.string (B k)) es 0=some (some (j,e.val))∧es[j]? =some e∧e.key = .string (B k)∧mget m k=some r∧r.p Z e.val:=by
 obtain⟨h1,h2,h3,f,h4,h5⟩:=h;obtain⟨hl,ha⟩:=h5.at;rcases MapKept.findNow_spec (EM (B k)) es 0 h5.keys with⟨q1,q2⟩ | ⟨j,e,q1,q2,q3⟩
 ·have hne:∀p∈m,p.1≠k:=λp hp e=>by
   obtain⟨j,hj⟩:=List.mem_iff_getElem?.1 (h4.symm.subset hp);have hjl:j<es.length:=by rw[← hl];exact(List.getElem?_eq_some_iff.1 hj).1
   obtain⟨k',r',e1,e2,_⟩:=ha j es[j] (Zg hjl);rw[hj] at e1;cases e1;exact q2 es[j] (List.getElem_mem hjl) (by rw[e2,← e])
  exact .inl ⟨q1,NJ hne,hne⟩
 ·obtain⟨k',r,e1,e2,e3⟩:=ha j e q2;rw[q3] at e2;obtain rfl:=MF e2;exact .inr ⟨j,e,r,by simpa using q1,q2,q3,IW h1 (h4.subset (Zk e1)),e3⟩
section
variable {P : Program} {n : Nat} {c : Cx} {ops : Array Oper} {Q : Exit → Act → World → Prop} {rest : List Oper} {l : Fr} {H : List Ent} {d : Nat} {d' : Option Nat} {ty t kt et rty : TypeId} {pos : String} {af : Array Edge} {g : Option (Nat × Bool)} {x y u : Operand} {K : Act → World → Prop} {cx : Code}
variable {T : Type} {enc : T → Rp} {xs : List (AE × T)} {z : T} {k : AE} {zv : Value} {i b : Nat}
theorem Ny {Z:Fz}{w:World}{m:List (List UInt8×Rp)}{rz:Rp}(ht:P.underlying t=some (.map kt et))(hk:P.underlying kt=some .string)(hz:∀w,(zeroValue et).run P w = .ok zv w)(hzr:rz.p Z zv)(hm:(Ent.map b m).holds Z w)(ok:Bool) :
  ∃v,((mget m k).getD rz).p Z v∧(Instr.lookup t (.map (some b)) (.string (B k)) ok).run P w = .ok (if ok then .tuple #[v,.bool (mget m k).isSome] else v) w:=by
 obtain⟨es,ck,h1,h2⟩:=hm;rcases OO h2 k with⟨q1,q2,_⟩ | ⟨j,e,r,q1,_,_,q2,q3⟩
 ·exact⟨zv,by rw[q2];exact hzr,by simp[Instr.lookup,run_underlying ht,MapKept.run_getObj_map h1,MapKept.run_checkKey hk (EM _),MapKept.run_findKey hk q1,hz,q2]⟩
 ·exact⟨e.val,by rw[q2];exact q3,by simp[Instr.lookup,run_underlying ht,MapKept.run_getObj_map h1,MapKept.run_checkKey hk (EM _),MapKept.run_findKey hk q1,q2]⟩
theorem UX (enc:T→Rp)(xs:List (AE×T))(k:AE)(z:T):(mget (AR enc xs) k).getD (enc z)=enc (Dl xs k z):=by
 rw[KO];unfold Dl;cases mget xs k<;>rfl
theorem Rm (enc:T→Rp)(xs:List (AE×T))(k:AE):(mget (AR enc xs) k).isSome=Dh xs k:=by
 rw[KO];unfold Dh;cases mget xs k<;>rfl
theorem RN (ht:P.underlying t=some (.map kt et))(hk:P.underlying kt=some .string)(hz:∀w,(zeroValue et).run P w = .ok zv w)(hzr:∀Z,(enc z).p Z zv)(hx:ev l x=some (rv (.map (some b))))(hi:H[i]? =some (.map b (AR enc xs)))(hy:ev l y=some (rS k)) :
  Br P n c l H { dst:=d',op:=.lookup t x y true,type:=ty,pos:=pos,after:=af,guard:=g } (DY [enc (Dl xs k z),rB (Dh xs k)]):=λa w Z ha hw=>by
 obtain⟨v,h1,h2⟩:=Ny (k:=k) ht hk hz (hzr Z) (hw.ent hi) true;rw[UX] at h1;refine⟨.tuple #[v,.bool (Dh xs k)],⟨[v,.bool (Dh xs k)],rfl,h1,rfl,trivial⟩,?_⟩;rw[Rm] at h2;simp[execOp,ha.eval hx,ha.eval hy,h2]
theorem Gl.length {Z:Fz}{m:List (List UInt8×Rp)}{es:List MapEntry}{ck:Nat}(h:Gl Z m es ck):es.length=m.length:=by
 obtain⟨_,_,_,f,h4,h5⟩:=h;rw[← h5.at.1,h4.length_eq]
theorem UF {m:List (List UInt8×Rp)}{N:Nat}(ht:P.underlying t=some (.map kt et))(hx:ev l x=some (rv (.map (some b))))(hi:H[i]? =some (.map b m))(hN:m.length=N) :
  Br P n c l H { dst:=d',op:=.call { callee:=.builtin .len,args:=#[x],argTypes:=#[t] },type:=ty,pos:=pos,after:=af,guard:=g } (rI .i64 N):=λa w Z ha hw=>D7<|by
 obtain⟨es,ck,h1,h2⟩:=hw.ent hi;have hl:es.size=N:=by rw[← hN,← h2.length];simp
 simp[execOp,resolve,invoke,builtin,ha.eval hx,Builtin.len_,run_underlying ht,goInt,MapKept.run_getObj_map h1,hl]
theorem Tj {v:Option Nat}(ht:P.underlying t=some (.map kt et))(hx:ev l x=some (rv (.map v))):Br P n c l H { dst:=d',op:=.binOp .neq t x (.const (.map none)) rty,type:=ty,pos:=pos,after:=af,guard:=g } (rB (!v.isNone)):=λa w Z ha hw=>D7<|by
 have e2:a.eval (.const (.map none)) = .map none:=rfl;have h:=run_equal_map_nil (P:=P) w t kt et v ht;simp[execOp,ha.eval hx,e2,eqGuard,binOp,h]
theorem U3 {m f:List (AE×Rp)}(h:f.Perm m)(k:AE)(r:Rp):(mput f k r).Perm (mput m k r):=h.map _
theorem RP {T:Type}:∀{f:List (AE×T)} {j:Nat} {k:AE} {r0:T} (r:T),(f.map (·.1)).Nodup→f[j]? =some (k,r0)→mput f k r=f.set j (k,r)
 | p::f,0,k,r0,r,hn,h=>by
  simp at h;subst h;rw[ZK,List.nodup_cons] at hn;have:mput f k r=f:=by
   unfold mput;rw[List.map_congr_left (g:=id) (λq hq=>?_),List.map_id];have hne : ¬ q.1=k:=λe=>hn.1 (by rw[← e];exact List.mem_map.2 ⟨q,hq,rfl⟩);rw[Ze hne];rfl
  show(bif decide (k=k) then(k,r) else(k,r0))::mput f k r=_;rw[Zc rfl,this];rfl
 | p::f,j+1,k,r0,r,hn,h=>by
  rw[ZK,List.nodup_cons] at hn;simp at h;have hne : ¬ p.1=k:=λe=>hn.1 (by rw[e];exact List.mem_map.2 ⟨(k,r0),Zk h,rfl⟩);show(bif decide (p.1=k) then(k,r) else p)::mput f k r=_;rw[Ze hne,RP r hn.2 h];rfl
theorem RQ {T:Type}:∀{f:List (AE×T)} {j:Nat} {k:AE} {r0:T},(f.map (·.1)).Nodup→f[j]? =some (k,r0)→mdel f k=f.eraseIdx j
 | p::f,0,k,r0,hn,h=>by
  simp at h;subst h;rw[ZK,List.nodup_cons] at hn;have:f.filter (λq=>!decide (q.1=k))=f:=List.filter_eq_self.2 λq hq=>by
   have hne : ¬ q.1=k:=λe=>hn.1 (by rw[← e];exact List.mem_map.2 ⟨q,hq,rfl⟩);simp[hne]
  unfold mdel;rw[List.filter_cons_of_neg (by simp),this];rfl
 | p::f,j+1,k,r0,hn,h=>by
  rw[ZK,List.nodup_cons] at hn;simp at h;have hne : ¬ p.1=k:=λe=>hn.1 (by rw[e];exact List.mem_map.2 ⟨(k,r0),Zk h,rfl⟩);unfold mdel;rw[List.filter_cons_of_pos (by simp[hne])];show p::mdel f k=_;rw[RQ hn.2 h];rfl
theorem Tn {T:Type}(m:List (AE×T))(k:AE)(r:T):(mput m k r).map (·.1)=m.map (·.1):=by
 unfold mput;rw[ZY];refine List.map_congr_left λp _=>?_;simp only[Function.comp]
 by_cases h:p.1=k
 ·rw[Zc h];exact h.symm
 ·rw[Ze h];rfl
theorem To {T:Type}{m:List (AE×T)}{k:AE}{r:T}(h:mget m k=some r):Dh m k=true:=by unfold Dh;rw[h];rfl
theorem Tp {T:Type}{m:List (AE×T)}{k:AE}(h:mget m k=none):Dh m k=false:=by unfold Dh;rw[h];rfl
theorem Gl.put {Z:Fz}{m:List (AE×Rp)}{es:List MapEntry}{ck j:Nat}{e:MapEntry}{k:AE}{r0 r:Rp}{v:Value}(h:Gl Z m es ck)(he:es[j]? =some e)(hk:e.key = .string (B k))(hm:mget m k=some r0)(hr:r.p Z v) :
  Gl Z (mset m k r) (es.set j { e with key:=.string (B k),val:=v }) ck:=by
 obtain⟨h1,h2,h3,f,h4,h5⟩:=h;obtain⟨hl,ha⟩:=h5.at;have hjl:=(List.getElem?_eq_some_iff.1 he).1;unfold mset;rw[To hm,Zl];obtain⟨k',r',e1,e2,_⟩:=ha j e he;rw[hk] at e2;obtain rfl:=MF e2;have hfn:(f.map (·.1)).Nodup:=(h4.map (·.1)).nodup_iff.2 h1;refine⟨by rw[Tn];exact h1,?_,?_,f.set j (k,r),?_,JK.of (by simp[hl]) λi x hx=>?_⟩
 ·rw[List.map_set];have:(es.map (·.born)).set j e.born=es.map (·.born):=by
   apply List.ext_getElem?;intro i;rw[List.getElem?_set]
   split
   ·rename_i hij;subst hij
    simp[hjl,List.getElem?_eq_some_iff.1 he |>.2]
   ·rfl
  show((es.map (·.born)).set j e.born).Nodup;rw[this];exact h2
 ·intro x hx;rcases List.mem_or_eq_of_mem_set hx with hx | rfl
  ·exact h3 x hx
  ·exact h3 e (Zk he)
 ·have:=U3 h4 k r
  rwa [RP r hfn e1] at this
 ·rw[List.getElem?_set] at hx ⊢
  split at hx
  ·rename_i hij;subst hij
   cases hx
   exact⟨k,r,by rw[Z4 rfl,Z4 (by rw[hl];exact hjl)],rfl,hr⟩
  ·rename_i hij
   rw[Zu hij];exact ha i x hx
theorem Gl.ins {Z:Fz}{m:List (AE×Rp)}{es:List MapEntry}{ck:Nat}{k:AE}{r:Rp}{v:Value}(h:Gl Z m es ck)(hm:mget m k=none)(hk:∀p∈m,p.1≠k)(hr:r.p Z v) :
  Gl Z (mset m k r) (es++[{ key:=.string (B k),val:=v,born:=ck }]) (ck+1):=by
 obtain⟨h1,h2,h3,f,h4,h5⟩:=h;unfold mset;rw[Tp hm,Zh];have hp:=Ly k r m;refine⟨?_,?_,?_,f++[(k,r)],?_,JK.snoc rfl hr h5⟩
 ·rw[(hp.map (·.1)).nodup_iff,ZK,List.nodup_cons];exact⟨λhx=>by obtain⟨p,hp,e⟩:=List.mem_map.1 hx;exact hk p hp e,h1⟩
 ·rw[ZO,List.nodup_append];refine⟨h2,by simp,λa ha b hb e=>?_⟩;simp at hb;subst hb;obtain⟨x,hx,e'⟩:=List.mem_map.1 ha;have:=h3 x hx;omega
 ·intro x hx;rcases List.mem_append.1 hx with hx | hx
  ·have:=h3 x hx;omega
  ·simp at hx;subst hx;exact Zo _
 ·exact(List.perm_append_comm (l₁:=f) (l₂:=[(k,r)])).trans ((h4.cons (k,r)).trans hp.symm)
theorem Gl.del {Z:Fz}{m:List (AE×Rp)}{es:List MapEntry}{ck j:Nat}{e:MapEntry}{k:AE}(h:Gl Z m es ck)(he:es[j]? =some e)(hk:e.key = .string (B k)):Gl Z (mdel m k) (es.eraseIdx j) ck:=by
 obtain⟨h1,h2,h3,f,h4,h5⟩:=h;obtain⟨hl,ha⟩:=h5.at;obtain⟨k',r',e1,e2,_⟩:=ha j e he;rw[hk] at e2;obtain rfl:=MF e2;have hfn:(f.map (·.1)).Nodup:=(h4.map (·.1)).nodup_iff.2 h1;have hs:=List.eraseIdx_sublist es j;refine⟨h1.sublist ((List.filter_sublist ..).map _),h2.sublist (hs.map _),λx hx=>h3 x (hs.subset hx),f.eraseIdx j,?_,JK.of (by rw[List.length_eraseIdx,List.length_eraseIdx,hl]) λi x hx=>?_⟩
 ·rw[← RQ hfn e1];exact h4.filter _
 ·rw[List.getElem?_eraseIdx] at hx ⊢
  split at hx
  ·rename_i hij;rw[Z4 hij];exact ha i x hx
  ·rename_i hij;rw[Zu hij];exact ha (i+1) x hx
theorem Tq {m:List (AE×Rp)}{k:AE}(hk:∀p∈m,p.1≠k):mdel m k=m:=List.filter_eq_self.2 λp hp=>by simp[hk p hp]
theorem St.mapset {Z:Fz}{w:World}(h:St c H Z w){m m':List (AE×Rp)}(hi:H[i]? =some (.map b m)){es es':Array MapEntry}{ck ck':Nat}(h1:w.heap[b]? =some (.map es ck))(h2:Gl Z m' es'.toList ck') :
  St c (H.set i (.map b m')) Z { w with heap:=w.heap.setIfInBounds b (.map es' ck') }:=by
 obtain⟨q1,q2⟩:=MapKept.heap_set (o':=.map es' ck') h1;exact h.set hi rfl rfl rfl (by simp) (λk _ hk=>q2 k (by simpa[Ent.foot] using hk)) ⟨es',ck',q1,h2⟩ (by simp[Ent.foot])
theorem Oz (s:ByteArray):Instr.sameBits 10000 (.string s) (.string s)=true:=by
 show(s ==s)=true;exact(MapKept.bytes_beq s s).2 rfl |> λh=>by simpa using h
theorem Xf {r:Rp}{m:List (AE×Rp)}(ht:P.underlying t=some (.map kt et))(hk:P.underlying kt=some .string)(hx:ev l x=some (rv (.map (some b))))(hi:H[i]? =some (.map b m))(hy:ev l y=some (rS k))(hu:ev l u=some r){H':List Ent}(hH:H.set i (.map b (mset m k r))=H')(h:WL P n c ops Q rest l H') :
  WL P n c ops Q ({ dst:=none,op:=.mapUpdate t x y u,type:=ty,pos:=pos,after:=af,guard:=none }::rest) l H:=
 Nw λa w Z ha hw=>by
  obtain⟨es,ck,h1,h2⟩:=hw.ent hi;have hv:=ha.ev hu;subst hH;rcases OO h2 k with⟨q1,q2,q3⟩ | ⟨j,e,r0,q1,q2,q3,q4,_⟩
  ·refine⟨_,_,?_,hw.mapset hi h1 (es':=es.push { key:=.string (B k),val:=a.eval u,born:=ck }) (by simpa using h2.ins q2 q3 hv),h⟩;simp[execOp,ha.eval hx,ha.eval hy,Instr.mapUpdate,run_underlying ht,MapKept.run_getObj_map h1,MapKept.run_checkKey hk (EM _),MapKept.run_findKey hk q1,MapKept.run_setObj_map _ h1]
  ·have hje:es[j]? =some e:=by simpa using q2
   refine⟨_,_,?_,hw.mapset hi h1 (es':=es.modify j λe=>{ e with key:=.string (B k),val:=a.eval u }) (ck':=ck) (by
    have:=h2.put q2 q3 q4 hv;have e1:(es.modify j λe=>{ e with key:=.string (B k),val:=a.eval u }).toList=es.toList.set j { e with key:=.string (B k),val:=a.eval u }:=by
     rw[Array.toList_modify];rw[List.modify_eq_set,q2];rfl
    rw[e1];exact this),h⟩
   have hkey:((es[j]?).map (·.key)).getD (.string (B k)) = .string (B k):=by rw[hje];exact q3
   simp[execOp,ha.eval hx,ha.eval hy,Instr.mapUpdate,run_underlying ht,MapKept.run_getObj_map h1,MapKept.run_checkKey hk (EM _),MapKept.run_findKey hk q1,MapKept.run_setObj_map _ h1,hkey,Instr.keyThatStays,Oz]
theorem XT {op:Op}{ty:TypeId}{pos:String}{af:Array Edge}
  (hr:∀a w Z,CP n l a Z→St c H Z w→∃v w' H',(execOp a.eval { dst:=none,op:=op,type:=ty,pos:=pos,after:=af,guard:=none }).run P w = .ok (.value v) w'∧St c H' Z w'∧WL P n c ops Q rest l H') :
  WL P n c ops Q ({ dst:=none,op:=op,type:=ty,pos:=pos,after:=af,guard:=none }::rest) l H:=λa w Z ha hw=>
 wpList_plain rfl λK hK=>by
  obtain⟨v,w',H',h1,h2,h3⟩:=hr a w Z ha hw;unfold Oper.wp;rw[h1];exact hK _ _ (h3 _ w' Z (ha.put_none _) h2)
theorem Xg {m:List (AE×Rp)}(ht:P.underlying t=some (.map kt et))(hk:P.underlying kt=some .string){kt':TypeId}(hx:ev l x=some (rv (.map (some b))))(hi:H[i]? =some (.map b m))(hy:ev l y=some (rS k)){H':List Ent}(hH:H.set i (.map b (mdel m k))=H')(h:WL P n c ops Q rest l H') :
  WL P n c ops Q ({ dst:=none,op:=.call { callee:=.builtin .delete,args:=#[x,y],argTypes:=#[t,kt'] },type:=ty,pos:=pos,after:=af,guard:=none }::rest) l H:=
 XT (λa w Z ha hw=>by
  obtain⟨es,ck,h1,h2⟩:=hw.ent hi;subst hH;rcases OO h2 k with⟨q1,q2,q3⟩ | ⟨j,e,r0,q1,q2,q3,q4,_⟩
  ·refine⟨.tuple #[],_,_,?_,hw.mapset hi h1 (es':=es) (ck':=ck) (by rw[Tq q3];exact h2),h⟩;simp[execOp,resolve,invoke,builtin,ha.eval hx,ha.eval hy,Builtin.delete_,run_underlying ht,MapKept.run_getObj_map h1,MapKept.run_checkKey hk (EM _),MapKept.run_findKey hk q1,MapKept.run_setObj_map _ h1]
  ·refine⟨.tuple #[],_,_,?_,hw.mapset hi h1 (es':=es.eraseIdxIfInBounds j) (ck':=ck) (by
    have e1:(es.eraseIdxIfInBounds j).toList=es.toList.eraseIdx j:=by simp
    rw[e1];exact h2.del q2 q3),h⟩
   simp[execOp,resolve,invoke,builtin,ha.eval hx,ha.eval hy,Builtin.delete_,run_underlying ht,MapKept.run_getObj_map h1,MapKept.run_checkKey hk (EM _),MapKept.run_findKey hk q1,MapKept.run_setObj_map _ h1])
theorem VK {v:T}(ht:P.underlying t=some (.map kt et))(hk:P.underlying kt=some .string)(hx:ev l x=some (rv (.map (some b))))(hi:H[i]? =some (.map b (AR enc xs)))(hy:ev l y=some (rS k))(hu:ev l u=some (enc v)){H':List Ent}(hH:H.set i (.map b (AR enc (mset xs k v)))=H')(h:WL P n c ops Q rest l H') :
  WL P n c ops Q ({ dst:=none,op:=.mapUpdate t x y u,type:=ty,pos:=pos,after:=af,guard:=none }::rest) l H:=Xf ht hk hx hi hy hu (by rw[← UJ];exact hH) h
theorem Rz (ht:P.underlying t=some (.map kt et))(hk:P.underlying kt=some .string){kt':TypeId}(hx:ev l x=some (rv (.map (some b))))(hi:H[i]? =some (.map b (AR enc xs)))(hy:ev l y=some (rS k)){H':List Ent}(hH:H.set i (.map b (AR enc (mdel xs k)))=H')(h:WL P n c ops Q rest l H') :
  WL P n c ops Q ({ dst:=none,op:=.call { callee:=.builtin .delete,args:=#[x,y],argTypes:=#[t,kt'] },type:=ty,pos:=pos,after:=af,guard:=none }::rest) l H:=Xg ht hk hx hi hy (by rw[← UL];exact hH) h
end
theorem KV {q:MapEntry→Bool}:∀{l:List MapEntry} {j:Nat} {e:MapEntry},(l.map (·.born)).Nodup→l[j]? =some e→l.filter (λx=>!(x.born ==e.born))=l.eraseIdx j
 | x::l,0,e,hn,h=>by
  simp at h;subst h;rw[ZK,List.nodup_cons] at hn;rw[List.filter_cons_of_neg (by simp),List.filter_eq_self.2 λy hy=>?_];rfl;have:y.born≠x.born:=λe=>hn.1 (by rw[← e];exact List.mem_map.2 ⟨y,hy,rfl⟩);simp[this]
 | x::l,j+1,e,hn,h=>by
  rw[ZK,List.nodup_cons] at hn;simp at h;have hne:x.born≠e.born:=λe'=>hn.1 (by rw[e'];exact List.mem_map.2 ⟨e,Zk h,rfl⟩);rw[List.filter_cons_of_pos (by simp[hne]),KV (q:=q) hn.2 h];rfl
theorem JK.erase {Z:Fz}:∀{f:List (List UInt8×Rp)} {es:List MapEntry} (j:Nat),JK Z f es→JK Z (f.eraseIdx j) (es.eraseIdx j)
 | [],[],j,_=>by simp[JK]
 | p::f,e::es,0,⟨_,h⟩=>h
 | p::f,e::es,j+1,⟨h,h3⟩=>⟨h,JK.erase j h3⟩
theorem RL {α:Type}:∀{l:List α} {j:Nat} {a:α},l[j]? =some a→l.Perm (a::l.eraseIdx j)
 | x::l,0,a,h=>by simp at h;subst h;exact Zb _
 | x::l,j+1,a,h=>by
  simp at h;exact((RL h).cons x).trans (List.Perm.swap a x _)
theorem U4 {T:Type}{enc:T→Rp}{ys:List (AE×T)}{f:List (AE×Rp)}{j:Nat}{k:AE}{r:Rp}(h:f.Perm (AR enc ys))(hj:f[j]? =some (k,r)):∃ (p:AE×T) (ys':List (AE×T)),ys.Perm (p::ys')∧p.1=k∧enc p.2=r∧(f.eraseIdx j).Perm (AR enc ys'):=by
 have hm:(k,r)∈AR enc ys:=h.subset (Zk hj);obtain⟨p,hp,e⟩:=List.mem_map.1 hm;simp only[Prod.mk.injEq] at e;obtain⟨a,b,rfl⟩:=List.append_of_mem hp;refine⟨p,a++b,List.perm_middle,e.1,e.2,?_⟩;have h1:f.Perm ((k,r)::f.eraseIdx j):=by
  exact RL hj
 have h2:(AR enc (a++p::b)).Perm ((k,r)::AR enc (a++b)):=by
  have:(AR enc (a++p::b)).Perm (AR enc (p::(a++b))):=List.perm_middle.map _;refine this.trans ?_;show((p.1,enc p.2)::AR enc (a++b)).Perm _;rw[e.1,e.2]
 exact((h1.symm.trans h).trans h2).cons_inv
section
variable {P : Program} {n : Nat} {c : Cx} {ops : Array Oper} {Q : Exit → Act → World → Prop} {rest : List Oper} {l : Fr} {H : List Ent} {d : Nat} {ty t kt et rty : TypeId} {pos : String} {af : Array Edge} {x y u : Operand} {K : Act → World → Prop} {cx : Code}
variable {T : Type} {enc : T → Rp} {xs ys : List (AE × T)} {i b it : Nat} {m lf : List (List UInt8 × Rp)} {cur : Option (List UInt8 × Rp)} {k : AE} {r : Rp}
theorem Md (ht:P.underlying t=some (.map kt et))(hx:ev l x=some (rv (.map (some b))))(hi:H[i]? =some (.map b m))(hn:Nat.blt d n=true)(h:∀it,WL P n c ops Q rest ((d,rv (.pointer (some ⟨it,0,none⟩)))::l) (H.set i (.mit b it m m none))) :
  WL P n c ops Q ({ dst:=some d,op:=.range t x,type:=ty,pos:=pos,after:=af,guard:=none }::rest) l H:=
 JN (λa w Z ha hw=>by
  obtain⟨es,ck,h1,h2⟩:=hw.ent hi;have hb:b<w.heap.size:=(Array.getElem?_eq_some_iff.1 h1).1;have hf:es.toList.filter (λe=>!(#[]:Array Nat).contains e.born)=es.toList:=List.filter_eq_self.2 λ_ _=>by simp
  obtain⟨f,h4,h5⟩:=h2.2.2.2;refine⟨.pointer (some ⟨w.heap.size,0,none⟩),w.alloc (.mapIter (some b) ck #[] ck),_,_,Z,?_,Fz.le.refl _,rfl,hw.set hi rfl rfl rfl (by simp) (λk hk _=>Below.heap_alloc w _ k hk) ?_ ?_,h w.heap.size⟩
  ·simp[execOp,ha.eval hx,run_range_map w t kt et b es ck ht h1]
  ·exact⟨es,ck,#[],ck,ck,(Below.heap_alloc w _ b hb).trans h1,by simpa using heap_alloc_new w _,h2,h2.2.2.1,Z6 _,Z6 _,Nat.ne_of_lt hb,⟨f,h4,by rw[hf];exact h5⟩,trivial⟩
  ·intro k hk;simp only[Ent.foot,ZU,List.not_mem_nil,or_false] at hk;rcases hk with rfl | rfl
   ·exact .inl (by simp[Ent.foot])
   ·exact .inr (Z6 _)) hn
theorem Om (hx:ev l x=some (rv (.pointer (some ⟨it,0,none⟩))))(hi:H[i]? =some (.mit b it m (AR enc ys) cur))(hn:Nat.blt d n=true)
  (h0:ys=[]→WL P n c ops Q rest ((d,DY [rB false])::l) H)
  (h1:∀p ys',ys.Perm (p::ys')→WL P n c ops Q rest ((d,DY [rB true,rS p.1,enc p.2])::l) (H.set i (.mit b it m (AR enc ys') (some (p.1,enc p.2))))) :
  WL P n c ops Q ({ dst:=some d,op:=.next x false,type:=ty,pos:=pos,after:=af,guard:=none }::rest) l H:=
 JN (λa w Z ha hw=>by
  obtain⟨es,ck,seen,since,c0,q1,q2,q3,q4,q5,q6,q7,⟨f,q8,q9⟩,_⟩:=hw.ent hi;have hlf:(leftOf es seen).toList=es.toList.filter λe=>!seen.contains e.born:=by simp[leftOf]
  rcases run_next_at (P:=P) w ty it b since c0 seen es ck q2 q1 q4 q5 with⟨r1,r2⟩ | ⟨e,r1,w1,r2,r3⟩
  ·have he:es.toList.filter (λe=>!seen.contains e.born)=[]:=by rw[← hlf];exact ZA (by simpa using r1)
   rw[he] at q9;have hf:f=[]:=by cases f with
    | nil=>rfl
    | cons _ _=>exact absurd q9 id
   subst hf;have hy:ys=[]:=by
    have:=q8.length_eq;rw[IX] at this;exact ZA this.symm
   exact⟨.tuple #[.bool false],w,DY [rB false],H,Z,by simp[execOp,ha.eval hx,r2],Fz.le.refl _,⟨[.bool false],rfl,rfl,trivial⟩,hw,h0 hy⟩
  ·rw[hlf] at r1;obtain⟨j,hj⟩:=List.mem_iff_getElem?.1 r1;obtain⟨k,r,e1,e2,e3⟩:=q9.at.2 j e hj;obtain⟨p,ys',s1,s2,s3,s4⟩:=U4 q8 e1;have hnl:((es.toList.filter λe=>!seen.contains e.born).map (·.born)).Nodup:=q3.2.1.sublist ((List.filter_sublist ..).map _);have hleft:es.toList.filter (λx=>!(seen.push e.born).contains x.born)=(es.toList.filter λe=>!seen.contains e.born).eraseIdx j:=by
    rw[← KV (q:=λ_=>true) hnl hj,List.filter_filter];refine List.filter_congr λx _=>?_;simp only[Array.contains_push,Bool.not_or];rw[Bool.and_comm]
   have hd:St c H Z w1:=by
    rcases r2 with rfl | rfl
    ·exact hw
    ·exact hw.drawn _
   have q2':w1.heap[it]? =some (.mapIter (some b) since seen c0):=by rcases r2 with rfl | rfl<;>exact q2
   have q1':w1.heap[b]? =some (.map es ck):=by rcases r2 with rfl | rfl<;>exact q1
   obtain⟨t1,t2⟩:=MapKept.heap_set (o':=.mapIter (some b) since (seen.push e.born) ck) q2';refine⟨.tuple #[.bool true,e.key,e.val],ChangeMaps.setBlock w1 it (.mapIter (some b) since (seen.push e.born) ck),DY [rB true,rS p.1,enc p.2],H.set i (.mit b it m (AR enc ys') (some (p.1,enc p.2))),Z,by simp[execOp,ha.eval hx,r3],Fz.le.refl _,⟨[.bool true,e.key,e.val],rfl,rfl,?_,?_,trivial⟩,hd.set hi rfl rfl rfl (by simp[ChangeMaps.setBlock]) (λk' _ hk'=>t2 k' (λe'=>hk' (by simp[Ent.foot,e']))) ?_ (λk' hk'=>.inl (by simpa[Ent.foot] using hk')),h1 p ys' s1⟩
   ·show e.key = .string (B p.1);rw[s2];exact e2
   ·rw[s3];exact e3
   ·exact⟨es,ck,seen.push e.born,since,ck,(t2 b q7).trans q1',t1,q3,q4,Nat.le_trans q5 q6,Z6 _,q7,⟨f.eraseIdx j,s4,by rw[hleft];exact q9.erase j⟩,rfl,seen,e,rfl,(List.mem_filter.1 r1).1,by rw[s2];exact e2,by rw[s3];exact e3⟩) hn
theorem St.unmit {Z:Fz}{w:World}(h:St c H Z w)(hi:H[i]? =some (.mit b it m lf cur)):St c (H.set i (.map b m)) Z w:=by
 obtain⟨es,ck,seen,since,c0,q1,q2,q3,_⟩:=h.ent hi;exact h.set hi rfl rfl rfl (Z6 _) (λ_ _ _=>rfl) ⟨es,ck,q1,q3⟩ (by simp[Ent.foot])
theorem WK.unmit (hi:H[i]? =some (.mit b it m lf cur))(h:WK n c K l (H.set i (.map b m))):WK n c K l H:=λa w Z ha hw=>h a w Z ha (hw.unmit hi)
theorem WC.unmit (hi:H[i]? =some (.mit b it m lf cur))(h:WC P n c cx Q l (H.set i (.map b m))):WC P n c cx Q l H:=λa w Z ha hw=>h a w Z ha (hw.unmit hi)
theorem WL.unmit (hi:H[i]? =some (.mit b it m lf cur))(h:WL P n c ops Q rest l (H.set i (.map b m))):WL P n c ops Q rest l H:=λa w Z ha hw=>h a w Z ha (hw.unmit hi)
theorem St.uncur {Z:Fz}{w:World}(h:St c H Z w)(hi:H[i]? =some (.mit b it m lf cur)):St c (H.set i (.mit b it m lf none)) Z w:=by
 obtain⟨es,ck,seen,since,c0,q1,q2,q3,q4,q5,q6,q7,q8,_⟩:=h.ent hi;exact h.set hi rfl rfl rfl (Z6 _) (λ_ _ _=>rfl) ⟨es,ck,seen,since,c0,q1,q2,q3,q4,q5,q6,q7,q8,trivial⟩ (λk hk=>.inl (by simpa[Ent.foot] using hk))
theorem WK.uncur (hi:H[i]? =some (.mit b it m lf cur))(h:WK n c K l (H.set i (.mit b it m lf none))):WK n c K l H:=λa w Z ha hw=>h a w Z ha (hw.uncur hi)
theorem Mn {dd:Option Nat}{g:Option (Nat×Bool)}(hx:ev l x=some (rv (.pointer (some ⟨it,0,none⟩))))(hi:H[i]? =some (.mit b it m lf (some (k,r)))) :
  Br P n c l H { dst:=dd,op:=.entry x,type:=ty,pos:=pos,after:=af,guard:=g } (DY [rS k,r]):=λa w Z ha hw=>by
 obtain⟨es,ck,seen,since,c0,q1,q2,q3,q4,q5,q6,q7,q8,rfl,s0,e,rfl,h1,h2,h3⟩:=hw.ent hi;exact⟨.tuple #[e.key,e.val],⟨[e.key,e.val],rfl,h2,h3,trivial⟩,by simp[execOp,ha.eval hx,run_entry_at w it b since s0 es c0 e q2 q1 h1 q3.2.1]⟩
end
section
variable {P : Program} {n : Nat} {c : Cx} {opsA : Array Oper} {Q : Exit → Act → World → Prop} {l : Fr} {H : List Ent} {d : Nat} {ty : TypeId} {pos : String} {af : Array Edge}
theorem U8 {f:FuncId}{args:List Operand}{ats:Array TypeId}{rs:List Rp}{r:Rp}{Hin Hout Hr:List Ent}(hcall:∀(as1:Array Value) (w:World),(callFunc f as1).run P w = .ok (.enter f as1) w)(hv:LO l args=some rs)
  (hp:H.Perm (Hin++Hr)) (hc:Fn P c.E f rs Hin (λr' H'=>r'=r∧H'=Hout)) {H':List Ent} (hH:Hout++Hr=H'):DN P n c opsA Q l H { dst:=some d,op:=.call { callee:=.value (.func f),args:=args.toArray,argTypes:=ats },type:=ty,pos:=pos,after:=af,guard:=none } r H':=λa w Z K ha hw hK=>
 ⟨λ_=>by
  subst hH;unfold Oper.wp;rw[EC rfl hcall w];refine(hc w Z _ (GQ ha hv) (hw.perm hp).enter).mono ?_;rintro e w' ⟨r2,v,Ho,Z',rfl,⟨rfl,rfl⟩,hr2,hs⟩;exact hK v w' Z' hs.le hr2 ((hw.perm hp).call hs),λh=>by simp[Region.wanted] at h⟩
theorem HW {f:FuncId}{args:List Operand}{ats:Array TypeId}{rs:List Rp}{r:Rp}{Hin Hr:List Ent}(hcall:∀(as1:Array Value) (w:World),(callFunc f as1).run P w = .ok (.enter f as1) w)(hv:LO l args=some rs)
  (hp:H.Perm (Hin++Hr)) (hc:Fn P c.E f rs Hin (λr' H'=>r'=r∧H'=Hin)):DN P n c opsA Q l H { dst:=some d,op:=.call { callee:=.value (.func f),args:=args.toArray,argTypes:=ats },type:=ty,pos:=pos,after:=af,guard:=none } r H:=λa w Z K ha hw hK=>
 U8 (Hout:=Hin) hcall hv hp hc rfl a w Z K ha hw (λv w' Z' hz hr hs=>hK v w' Z' hz hr (hs.perm hp.symm))
theorem Tg {f:FuncId}{args:List Operand}{ats:Array TypeId}{rs:List Rp}{r:Rp}{Hin Hr E:List Ent}(hcall:∀(as1:Array Value) (w:World),(callFunc f as1).run P w = .ok (.enter f as1) w)(hv:LO l args=some rs)
  (hp:H.Perm (Hin++Hr)) (hc:Fn P c.E f rs Hin (λr' H'=>r'=r∧H'=Hin)):DN P n c opsA Q l (H++E) { dst:=some d,op:=.call { callee:=.value (.func f),args:=args.toArray,argTypes:=ats },type:=ty,pos:=pos,after:=af,guard:=none } r (H++E):=
 HW (Hin:=Hin) (Hr:=Hr++E) hcall hv (by rw[← Z5];exact hp.append_right E) hc
end
section
variable {P : Program} {n : Nat} {c : Cx} {ops : Array Oper} {Q : Exit → Act → World → Prop} {rest : List Oper} {l : Fr} {H H' : List Ent} {d : Nat} {d' : Option Nat} {x y z3 : Operand} {ty t t' e : TypeId} {pos : String} {af : Array Edge} {g : Option (Nat × Bool)} {v u : Value} {r : Rp} {sz : Nat}
theorem Ri {α:Type}{ys:List α}{enc:α→List Rp}{k':IntKind}{j:Int}(ht:P.underlying t=some (.slice e))(hz:∀w,(sizeOf e).run P w = .ok sz w)(h:ev l x=some (Bo sz (ys.map enc)))(hj:ev l z3=some (rI k' j))(hg2:Nf j (ys.length:Int)=true) :
  Br P n c l H { dst:=d',op:=.slice t x none (some z3) none,type:=ty,pos:=pos,after:=af,guard:=g } (Bo sz ((ys.take j.toNat).map enc)):=λa w Z ha hw=>by
 obtain⟨A,cap,e1,hc1,hc2,hA,hc⟩:=ha.ev h;have h2:=(Ex hg2).2;have hj0:0≤j:=(Ex hg2).1;simp only[Zt] at e1 hc1;have h3:j≤(cap:Int):=by omega
 refine⟨.slice (if cap=0 then A else A.map (·.add (0*sz))) j.toNat cap,⟨if cap=0 then A else A.map (·.add (0*sz)),cap,?_,?_,by omega,?_,λq cl hq=>?_⟩,by simp[execOp,e1,ha.eval hj,Instr.sliceAt,Instr.slice,run_underlying ht,Instr.sliceBounds,BY (m:=cap) _ _ hj0 h3,hz]⟩
 ·congr 1
  simp;omega
 ·simp;omega
 ·intro hn
  split at hn
  ·have:=hA hn;omega
  ·have:=hA (by simpa using hn);omega
 ·rw[Z9] at hq
  cases hq':(List.take j.toNat ys)[q]? with
  | none=>rw[hq'] at hq;cases hq
  | some yy=>
   rw[hq'] at hq;simp only[Option.map_some,Option.some.injEq] at hq;subst hq;rw[ZJ] at hq'
   split at hq'
   ·rename_i hlt
    obtain⟨hl,ad,rfl,hs,hcs⟩:=hc q (enc yy) (by simp[hq']);obtain⟨b,off,spot⟩:=ad;simp only at hs;subst hs;have hne : ¬ cap=0:=by omega
    refine⟨hl,⟨b,off+0*sz,none⟩,by simp[hne,IC],rfl,λq' r' hr'=>?_⟩;obtain⟨u,hu,hp⟩:=hcs q' r' hr';refine⟨u,?_,hp⟩;have:off+0*sz+(q*sz+q')=off+(q*sz+q'):=by omega
    simp only;rw[this];exact hu
   ·cases hq'
end
theorem Bg.d1 {Z:Fz}{r0:Rp}{us:List Value}(h:Bg Z [r0] us):∃y0,us=[y0]∧Bg Z [r0] [y0]:=by
 match us,h.length with
 | [y0],_=>exact⟨_,rfl,h⟩
theorem Bg.d2 {Z:Fz}{r0 r1:Rp}{us:List Value}(h:Bg Z [r0,r1] us):∃y0 y1,us=[y0,y1]∧Bg Z [r0,r1] [y0,y1]:=by
 match us,h.length with
 | [y0,y1],_=>exact⟨_,_,rfl,h⟩
theorem Bg.d7 {Z:Fz}{r0 r1 r2 r3 r4 r5 r6:Rp}{us:List Value}(h:Bg Z [r0,r1,r2,r3,r4,r5,r6] us):∃y0 y1 y2 y3 y4 y5 y6,us=[y0,y1,y2,y3,y4,y5,y6]∧Bg Z [r0,r1,r2,r3,r4,r5,r6] [y0,y1,y2,y3,y4,y5,y6]:=by
 match us,h.length with
 | [y0,y1,y2,y3,y4,y5,y6],_=>exact⟨_,_,_,_,_,_,_,rfl,h⟩
theorem Qj {α:Type}{sz:Nat}:∀{xs:List (List α)} (hs:∀c∈xs,c.length=sz) {k:Nat} {cl:List α},xs[k]? =some cl→∀(off m:Nat),off+m≤sz→((xs.flatten).drop (k*sz+off)).take m=(cl.drop off).take m
 | [],_,k,cl,h,_,_,_=>by simp at h
 | x::r,hs,0,cl,h,off,m,hm=>by
  simp at h;subst h;have hx:=hs x (by simp);simp only[List.flatten_cons,Nat.zero_mul,ZH];rw[List.drop_append_of_le_length (by omega),List.take_append_of_le_length (by simp;omega)]
 | x::r,hs,k+1,cl,h,off,m,hm=>by
  have hx:=hs x (by simp);simp only[List.flatten_cons];have e:(k+1)*sz+off=x.length+(k*sz+off):=by rw[hx,Nat.succ_mul];omega
  rw[e,List.drop_length_add_append];exact Qj (λc hc=>hs c (by simp[hc])) (by simpa using h) off m hm
theorem Qk {α:Type}{sz:Nat}:∀{xs:List (List α)} (hs:∀c∈xs,c.length=sz) {k:Nat} {cl rs:List α},xs[k]? =some cl→∀(off:Nat),off+rs.length≤sz→(xs.set k (cl.take off++rs++cl.drop (off+rs.length))).flatten=xs.flatten.take (k*sz+off)++rs++xs.flatten.drop (k*sz+off+rs.length)
 | [],_,k,cl,rs,h,_,_=>by simp at h
 | x::r,hs,0,cl,rs,h,off,hm=>by
  simp at h;subst h;have hx:=hs x (by simp);simp only[List.set_cons_zero,List.flatten_cons,Nat.zero_mul,ZH];rw[List.take_append_of_le_length (by omega),List.drop_append_of_le_length (by omega)];simp[Z5]
 | x::r,hs,k+1,cl,rs,h,off,hm=>by
  have hx:=hs x (by simp);simp only[List.set_cons_succ,List.flatten_cons];have e:(k+1)*sz+off=x.length+(k*sz+off):=by rw[hx,Nat.succ_mul];omega
  have e2:x.length+(k*sz+off)+rs.length=x.length+(k*sz+off+rs.length):=by omega
  rw[Qk (λc hc=>hs c (by simp[hc])) (by simpa using h) off hm,e,e2,List.take_length_add_append,List.drop_length_add_append];simp[Z5]
section
variable {P : Program} {n : Nat} {c : Cx} {ops : Array Oper} {Q : Exit → Act → World → Prop} {rest : List Oper} {l : Fr} {H H' : List Ent} {d : Nat} {d' : Option Nat} {ty t e rty : TypeId} {pos : String} {af : Array Edge} {g : Option (Nat × Bool)} {x y u : Operand} {v : Value} {sz m : Nat}
theorem Gc {α:Type}[Inhabited α]{ys:List α}{enc:α→List Rp}{i off:Nat}{j:Int}{rs:List Rp}(hag:∀w,(isAgg t).run P w = .ok true w)(hsz:∀w,(sizeOf t).run P w = .ok m w)(hx:ev l x=some (rv (DA sz v j.toNat off)))(hi:H[i]? =some (.row v e sz (ys.map enc)))(hg:C6 j (ys.length:Int)=true)
  (hle:Nat.ble (off+m) sz=true) (hr:((enc (Ac ys j)).drop off).take m=rs) :
  Br P n c l H { dst:=d',op:=.load t x,type:=ty,pos:=pos,after:=af,guard:=g } (By rs):=λa w Z ha hw=>by
 obtain⟨hs,us,⟨h1,h2⟩,h3⟩:=hw.ent hi;have h0:=(BD hg).1;have hlt:j.toNat<ys.length:=by have:=(BD hg).2;omega
 have eat:Ac ys j=ys[j.toNat]:=by simp[Ac,hlt]
 have hle':off+m≤sz:=by simpa using hle
 have hcl:(ys.map enc)[j.toNat]? =some (enc ys[j.toNat]):=by simp[hlt]
 have hcz:(enc ys[j.toNat]).length=sz:=hs _ (Zk hcl);have hseg:=Qj hs hcl off m hle';rw[← eat,hr] at hseg;have h4:=(h3.drop (j.toNat*sz+off)).take m;rw[hseg] at h4;have hrl:rs.length=m:=by rw[← hr,eat];simp;omega
 rcases h2 with⟨rfl,hz⟩ | ⟨b,cap,cur,rfl,_,hg',hcap,hm,hcs,htk⟩
 ·simp at hz;subst hz;simp at hlt
 ·have h5:=run_loadCells_list (P:=P) w ⟨b,j.toNat*sz+off,none⟩ ((us.drop (j.toNat*sz+off)).take m) (λq w' hq=>by
   rw[IC,cell_of_row w b _ cur e (0,0) hg'];rw[ZJ] at hq
   split at hq
   ·rw[List.getElem?_drop,← htk,ZJ] at hq
    split at hq
    ·simpa using hq
    ·cases hq
   ·cases hq)
  rw[h4.length,hrl] at h5;exact⟨.agg ((us.drop (j.toNat*sz+off)).take m).toArray,⟨_,rfl,h4⟩,by simp[execOp,ha.eval hx,DA,Instr.loadAt,Instr.sureAddr,loadVar,hag,hsz,h5]⟩
theorem VJ {α:Type}[Inhabited α]{ys:List α}{enc:α→List Rp}{i off:Nat}{j:Int}{rs:List Rp}{y':α}(hsz:∀w,(sizeOf t).run P w = .ok m w)(hx:ev l x=some (rv (DA sz v j.toNat off)))(hy:ev l y=some (By rs))(hv:C0 H rs)(hi:H[i]? =some (.row v e sz (ys.map enc)))(hg:C6 j (ys.length:Int)=true)
  (hl:rs.length=m) (hy':(enc (Ac ys j)).take off++rs++(enc (Ac ys j)).drop (off+m)=enc y') (hle:Nat.ble (off+m) sz=true) (hH:H.set i (.row v e sz ((ys.set j.toNat y').map enc))=H') (h:WL P n c ops Q rest l H') :
  WL P n c ops Q ({ dst:=none,op:=.store t x y,type:=ty,pos:=pos,after:=af,guard:=none }::rest) l H:=
 Nw λa w Z ha hw=>by
  obtain⟨hs,us,⟨h1,h2⟩,h3⟩:=hw.ent hi;have h0:=(BD hg).1;have hlj:j.toNat<ys.length:=by have:=(BD hg).2;omega
  have hle':off+m≤sz:=by simpa using hle
  have eat:Ac ys j=ys[j.toNat]:=by simp[Ac,hlj]
  obtain⟨vs,e1,h4⟩:=ha.ev hy;have hvl:=h4.length;have hone:∀v∈vs,v.oneCell'=true:=λv hv'=>hv.at hw h4 v hv';have hcl:(ys.map enc)[j.toNat]? =some (enc ys[j.toNat]):=by simp[hlj]
  have hcz:(enc ys[j.toNat]).length=sz:=hs _ (Zk hcl);rcases h2 with⟨rfl,hz⟩ | ⟨b,cap,cur,rfl,_,hg',hcap,hm,hcs,htk⟩
  ·simp at hz;subst hz;simp at hlj
  ·simp only[Zt] at h1 hcap htk;have hin:j.toNat*sz+off+m≤ys.length*sz:=by
    have:(j.toNat+1)*sz≤ys.length*sz:=Nat.mul_le_mul_right _ hlj;rw[Nat.succ_mul] at this;omega
   have hlc:j.toNat*sz+off+m≤cur.size:=by
    have:ys.length*sz≤cap*sz:=Nat.mul_le_mul_right _ hcap;omega
   have hvm:vs.length=m:=by omega
   have h5:=run_storeCells_at P b (j.toNat*sz+off) e vs 0 cur w hg' (by omega) hone;simp only[Nat.add_zero] at h5;have hset:((ys.set j.toNat y').map enc).flatten=(ys.map enc).flatten.take (j.toNat*sz+off)++rs++(ys.map enc).flatten.drop (j.toNat*sz+off+m):=by
    have:=Qk hs hcl (rs:=rs) off (by omega);rw[hl] at this;rw[← this,List.map_set,← hy',eat]
   refine⟨w.setRow b (cur.toList.take (j.toNat*sz+off)++vs++cur.toList.drop (j.toNat*sz+off+vs.length)).toArray,H',?_,?_,h⟩
   ·simp only[Z5] at h5 ⊢;rw[hvm] at h5 ⊢;simp[execOp,ha.eval hx,e1,DA,Instr.storeAt,Instr.sureAddr,storeVar,hsz,Value.cells,hvm,h5]
   ·subst hH;refine hw.set hi rfl rfl rfl (by simp[World.setRow]) (λk _ hk=>?_) ⟨?_,us.take (j.toNat*sz+off)++vs++us.drop (j.toNat*sz+off+m),⟨?_,.inr ⟨b,cap,_,by simp,ZN _,setRow_heap w b cur _ e (0,0) hg',by simpa using hcap,hm,?_,?_⟩⟩,?_⟩ (by simp[Ent.foot,Value.ownBlock])
    ·simp only[Ent.foot,Value.ownBlock,Option.mem_toList,Option.mem_def,Option.some.injEq] at hk;simp only[World.setRow,Array.getElem?_modify];rw[Zu hk]
    ·intro cl hcl';rw[List.map_set] at hcl';rcases List.mem_or_eq_of_mem_set hcl' with h' | rfl
     ·exact hs cl h'
     ·rw[← hy',eat];simp;omega
    ·simp;omega
    ·simp;omega
    ·have hu1:us.take (j.toNat*sz+off)=cur.toList.take (j.toNat*sz+off):=by rw[← htk,List.take_take,Nat.min_eq_left (by omega)]
     have hu2:us.drop (j.toNat*sz+off+m)=(cur.toList.drop (j.toNat*sz+off+m)).take (ys.length*sz-(j.toNat*sz+off+m)):=by rw[← htk,List.drop_take]
     rw[hu1,hu2,Zt,ZP,hvm];have e2:(List.take (j.toNat*sz+off) cur.toList++vs).length=j.toNat*sz+off+m:=by simp;omega
     have e3:ys.length*sz=(List.take (j.toNat*sz+off) cur.toList++vs).length+(ys.length*sz-(j.toNat*sz+off+m)):=by rw[e2];omega
     conv=>lhs;rw[show ys.length*sz=(List.take (j.toNat*sz+off) cur.toList++vs).length+(ys.length*sz-(j.toNat*sz+off+m)) from e3]
     rw[List.take_length_add_append]
    ·rw[hset];exact((h3.take _).append h4).append (h3.drop _)
end
end Go.Proofs.YthbbedliepkakaaGreatDoor.Q
namespace Go.Proofs.YthbbedliepkakaaGreatDoor
open Go
end Go.Proofs.YthbbedliepkakaaGreatDoor
namespace Go.Proofs.YthbbedliepkakaaGreatDoor.Q
open Go Go.RowKit
set_option linter.unusedVariables false
set_option linter.unusedSimpArgs false
section
variable {P : Program} {n : Nat} {c : Cx} {Q : Exit → Act → World → Prop} {l : Fr} {H : List Ent} {x rest' : Code} {K : Act → World → Prop}
end
section
variable {P : Program} {n : Nat} {c : Cx} {ops : Array Oper} {Q : Exit → Act → World → Prop} {rest : List Oper} {l : Fr} {H H' : List Ent} {d : Nat} {d' : Option Nat} {x y z3 z4 : Operand} {ty t t' e : TypeId} {pos : String} {af : Array Edge} {g : Option (Nat × Bool)} {v u : Value} {r : Rp} {sz : Nat}
end
structure Sx (U:Type) where
 deps:List Nat
 r:U→Rp
 dyn:Bool:=false
 old:List Nat:=[]
def GT {U:Type}(sp:List (Sx U))(i:Nat):Sx U:=sp.getD i { deps:=[],r:=λ_=>rv undef }
def TH {U:Type}(sp:List (Sx U))(u:U):List Sp:=sp.map λs=>⟨s.deps,s.r u,0⟩
def XY {U:Type}(sp:List (Sx U))(u:U):List Sa:=sp.map λs=>{ deps:=s.deps,r:=s.r u }
def Nq {U:Type}:List (Sx U)→Prop
 | []=>True
 | s::r=>(s.dyn=false→∀u u',s.r u=s.r u')∧Nq r
theorem Nq.at {U:Type}:∀{sp:List (Sx U)},Nq sp→∀{i:Nat} {s:Sx U},sp[i]? =some s→s.dyn=false→∀u u',s.r u=s.r u'
 | [],_,i,s,h=>by simp at h
 | x::sp,⟨h1,h2⟩,0,s,h=>by simp at h;subst h;exact h1
 | x::sp,⟨h1,h2⟩,i+1,s,h=>Nq.at h2 (by simpa using h)
theorem YA {U:Type}{ds os:List Nat}{r:Rp}{sp:List (Sx U)}(h:Nq sp):Nq ({ deps:=ds,r:=λ_=>r,old:=os }::sp):=⟨λ_ _ _=>rfl,h⟩
theorem Y9 {U:Type}{ds os:List Nat}{r:U→Rp}{sp:List (Sx U)}(h:Nq sp):Nq ({ deps:=ds,r:=r,dyn:=true,old:=os }::sp):=⟨λh'=>(by cases h'),h⟩
def Ey (lw:Fr):List Nat→Fr→Fr
 | [],l=>l
 | d::r,l=>match look lw d with
  | some q=>(d,q)::Ey lw r l
  | none=>Ey lw r l
theorem OZ {n:Nat}{lw l:Fr}{a:Act}{Z:Fz}(h0:CP n l a Z):∀{ds:List Nat},(∀d∈ds,∀q,look lw d=some q→∃v,a.tmps[d]? =some v∧q.p Z v)→CP n (Ey lw ds l) a Z
 | [],_=>h0
 | d::ds,h=>by
  have ih:=OZ h0 (ds:=ds) (λd' hd'=>h d' (by simp[hd']));unfold Ey
  cases hd:look lw d with
  | none=>exact ih
  | some q=>
   refine⟨ih.size,ih.defers,λi r hi=>?_⟩;rw[Ct] at hi
   split at hi
   ·rename_i e;subst e;simp at hi;subst hi;exact h d (by simp) q hd
   ·exact ih.tm i r hi
theorem Y8 {U:Type}:Nq ([]:List (Sx U)):=trivial
def YE (n:Nat)(ops:List Oper)(N i0:Nat)(keys:List Nat)(deps:List (List Nat))(dyns:List Bool)(olds:List (List Nat)):Bool:=
 Nm ops N&&decide (N≤ops.length)&&decide (i0<N)&&
 (List.range N).all (λi=>match Cg ops i with
  | some d=>decide (d<n)&&!keys.contains d&&(List.range N).all (λj=>j ==i||Cg ops j !=some d)
  | none=>true)&&
 (List.range N).all (λi=>(deps.getD i []).all (λj=>decide (j<N)&&(DR (ops.getD i default)).contains j))&&
 (List.range N).all (λi=>!dyns.getD i false||i ==i0||(DR (ops.getD i default)).any (λe=>decide (e<N)&&(e ==i0||dyns.getD e false)))&&
 (List.range N).all (λi=>(olds.getD i []).all (λd=>(List.range N).all (λw=>Cg ops w !=some d||(DR (ops.getD w default)).contains i)))
section
variable (P : Program) (n : Nat) (c : Cx) (opsA : Array Oper) (Q : Exit → Act → World → Prop)
def Y4 {U:Type}(l:Fr)(H:List Ent)(o:Oper)(r:U→Rp)(H1:U→List Ent):Prop:=
 ∀a w Z (K:Act→World→Prop),CP n l a Z→St c H Z w→(∀u v w' Z',Fz.le Z Z'→(r u).p Z' v→St c (H1 u) Z' w'→K (a.put o.dst v) w')→
  Region.wanted o (yielded opsA a.tmps)=true∧o.wp P a w K Q
def Kj {U:Type}(ops:List Oper)(sp:List (Sx U))(l0 lw:Fr)(i0:Nat)(H:List Ent)(H1:U→List Ent):Nat→List Oper→Prop
 | i,o::rest=>(if i=i0 then(∀u,Y4 P n c opsA Q (Ey lw (GT sp i).old (BI ops (TH sp u) (GT sp i).deps l0)) H o (GT sp i).r H1) else ∀u H',(H'=H∨H'=H1 u)→DN P n c opsA Q (Ey lw (GT sp i).old (BI ops (TH sp u) (GT sp i).deps l0)) H' o ((GT sp i).r u) H')∧Kj ops sp l0 lw i0 H H1 (i+1) rest
 | _,[]=>True
end
section
variable {P : Program} {n : Nat} {c : Cx} {opsA : Array Oper} {Q : Exit → Act → World → Prop} {l l0 lw : Fr} {U : Type} {H : List Ent} {H1 : U → List Ent} {sp : List (Sx U)} {i0 : Nat}
theorem Kj.at {ops:List Oper}:∀{k:Nat} {rest:List Oper},Kj P n c opsA Q ops sp l0 lw i0 H H1 k rest→∀(t:Nat) o,rest[t]? =some o→
  (if k+t=i0 then(∀u,Y4 P n c opsA Q (Ey lw (GT sp (k+t)).old (BI ops (TH sp u) (GT sp (k+t)).deps l0)) H o (GT sp (k+t)).r H1) else ∀u H',(H'=H∨H'=H1 u)→DN P n c opsA Q (Ey lw (GT sp (k+t)).old (BI ops (TH sp u) (GT sp (k+t)).deps l0)) H' o ((GT sp (k+t)).r u) H')
 | k,o::rest,⟨h1,h2⟩,t,o',ht=>by
  cases t with
  | zero=>simp at ht;subst ht;exact h1
  | succ t=>
   have:=Kj.at h2 t o' (by simpa using ht);rw[show k+(t+1)=k+1+t from by omega];exact this
 | _,[],_,t,o,h=>by simp at h
theorem VD {id:Nat}{ops:List Oper}[Inhabited U](N i0:Nat)(sp:List (Sx U))(hm:P.follows .mixedOrders=true)(hB:YE n ops N i0 (Ek l0) (sp.map (·.deps)) (sp.map (·.dyn)) (sp.map (·.old))=true)(hl0:Qy l0 l)(hlw:Qy lw l)(hsp:sp.length=N)(hst:Nq sp)
  (hob:Kj P n c ops.toArray Q ops sp l0 lw i0 H H1 0 (ops.take N)) (h:∀u,WL P n c ops.toArray Q (ops.drop N) (Kl (λ_=>0) (ops.take N) (XY sp u) 0 l0) (H1 u)):WC P n c (.region id ops.toArray true) Q l H:=by
 intro a w Z ha hw;simp only[YE,Zd,ZD,List.mem_range,Za] at hB;obtain⟨⟨⟨⟨⟨⟨b1,bN⟩,b0⟩,b2⟩,b3⟩,b4⟩,b5⟩:=hB;have hget:∀i,i<N→(ops.take N)[i]? =ops[i]?:=λi hi=>by rw[ZJ,Z4 hi]
 have hsa:∀i,i<N→sp[i]? =some (GT sp i):=λi hi=>by
  simp[GT,Zf,Zg (show i<sp.length by omega)]
 have hspq:∀u i,i<N→(DC (TH sp u) i)=⟨(GT sp i).deps,(GT sp i).r u,0⟩:=λu i hi=>by
  simp[DC,TH,Zf,Z9,hsa i hi]
 have hdyn:∀j,j<N→(sp.map (·.dyn)).getD j false=(GT sp j).dyn:=λj hj=>by simp[Zf,Z9,hsa j hj]
 have hdep:∀j,j<N→(sp.map (·.deps)).getD j []=(GT sp j).deps:=λj hj=>by simp[Zf,Z9,hsa j hj]
 have hops:∀j,j<N→∃o,ops[j]? =some o:=λj hj=>⟨ops[j]'(by omega),Zg (by omega)⟩
 have hdst:∀i o d,i<N→ops[i]? =some o→o.dst=some d→(d<n∧d ∉ Ek l0)∧∀j,j<N→j≠i→Cg ops j≠some d:=λi o d hi ho hd=>by
  have h3:=b2 i hi;have:Cg ops i=some d:=by simp[Cg,ho,hd]
  rw[this] at h3;simp only[Zd,Zq,ZD,List.mem_range,Za] at h3;refine⟨⟨h3.1.1,λhmem=>by rw[← List.contains_iff_mem] at hmem;rw[hmem] at h3;cases h3.1.2⟩,λj hj hne he=>?_⟩;have:=h3.2 j hj;simp[hne,he] at this
 refine Q4 (N:=N) hm b1 bN (λS a w=>∃ (u:U) (Z:Fz),St c (if S i0=true then H1 u else H) Z w∧CP n l0 a Z∧(∀j o d,j<N→S j=true→ops[j]? =some o→o.dst=some d→∃v,a.tmps[d]? =some v∧((GT sp j).r u).p Z v)∧
   (∀j,j<N→(GT sp j).dyn=true→S j=true→S i0=true)∧
   (∀d q,look lw d=some q→(∀wr,wr<N→Cg ops wr=some d→S wr=false)→∃v,a.tmps[d]? =some v∧q.p Z v)∧
   ∀wr i d,wr<N→i<N→Cg ops wr=some d→d∈(GT sp i).old→S wr=true→S i=true)
  (λS S' a w hS hI=>?_) ⟨default,Z,?_,ha.subL hl0,λj o d _ hS=>(by cases hS),λj _ _ hS=>(by cases hS),λd q hd _=>(ha.subL hlw).tm d q hd,λwr i d _ _ _ _ hS=>(by cases hS)⟩ (λS i o a w hi hun ho hb hI K hK=>?_) (λa w hI=>?_)
 ·obtain⟨u,Z,h1,h2,h3,h4,h5,h6⟩:=hI;refine⟨u,Z,?_,h2,λj o d hj hS'=>h3 j o d hj (by rw[hS j hj];exact hS'),λj hj hd hSj=>?_,λd q hd hw'=>h5 d q hd (λwr hwr hdw=>by rw[hS wr hwr];exact hw' wr hwr hdw),λwr i d hwr hi hdw hold hSw=>by rw[← hS i hi];exact h6 wr i d hwr hi hdw hold (by rw[hS wr hwr];exact hSw)⟩
  ·rw[← hS i0 b0];exact h1
  ·rw[← hS i0 b0];exact h4 j hj hd (by rw[hS j hj];exact hSj)
 ·exact hw.drawn _
 ·obtain⟨u,Z,h1,h2,h3,hx,ho5,ho6⟩:=hI;have hput:∀k u v,a.tmps[k]? =some u→o.dst≠some k→(a.put o.dst v).tmps[k]? =some u:=λk u v hk hne=>by
   cases hd:o.dst with
   | none=>simpa[Act.put] using hk
   | some d=>
    simp only[Act.put,Array.getElem?_setIfInBounds];rw[Zu (λe=>hne (by rw[hd,e]))];exact hk
  have hagr:∀v Z',Fz.le Z Z'→CP n l0 (a.put o.dst v) Z':=λv Z' hz=>by
   refine⟨?_,?_,λk r hk=>?_⟩
   ·cases o.dst<;>simp[Act.put,h2.size]
   ·cases o.dst<;>simp[Act.put,h2.defers]
   ·obtain⟨u,hu,hpu⟩:=h2.tm k r hk;exact⟨u,hput k u v hu (λe=>((hdst i o k hi ho e).1).2 (IZ hk)),r.mono hz hpu⟩
  have hvals:∀(v:Value) (Z':Fz) (u':U),Fz.le Z Z'→(∀j,j<N→j≠i→S j=true→(GT sp j).r u'=(GT sp j).r u)→(o.dst≠none→((GT sp i).r u').p Z' v)→∀j o' d,j<N→(j ==i||S j)=true→ops[j]? =some o'→o'.dst=some d→∃q,(a.put o.dst v).tmps[d]? =some q∧((GT sp j).r u').p Z' q:=by
   intro v Z' u' hz hβ hp j o' d hj hS' ho' hd
   by_cases hji:j=i
   ·subst hji;rw[ho] at ho';simp at ho';subst ho';refine⟨v,?_,hp (by simp[hd])⟩;have hdn:d<a.tmps.size:=by rw[h2.size];exact(hdst j o d hi ho hd).1.1
    simp[Act.put,hd,hdn]
   ·have hSj:S j=true:=by simpa[hji] using hS'
    obtain⟨q,hu,hpu⟩:=h3 j o' d hj hSj ho' hd;refine⟨q,hput d q v hu (λe=>(hdst i o d hi ho e).2 j hj hji (by simp[Cg,ho',hd])),?_⟩;rw[hβ j hj hji hSj];exact((GT sp j).r u).mono hz hpu
  have hat:=hob.at i o (by rw[hget i hi];exact ho);rw[ZH] at hat;have hold':∀Z',Fz.le Z Z'→∀v d q,look lw d=some q→(∀wr,wr<N→Cg ops wr=some d→(wr ==i||S wr)=false)→∃v',(a.put o.dst v).tmps[d]? =some v'∧q.p Z' v':=λZ' hz v d q hd hw'=>by
   obtain⟨v',e1,e2⟩:=ho5 d q hd (λwr hwr hdw=>by have:=hw' wr hwr hdw;simp only[Z3] at this;exact this.2);refine⟨v',hput d v' v e1 (λe=>?_),q.mono hz e2⟩;have:=hw' i hi (by simp[Cg,ho,e]);simp at this
  have hord:∀wr k d,wr<N→k<N→Cg ops wr=some d→d∈(GT sp k).old→(wr ==i||S wr)=true→(k ==i||S k)=true:=λwr k d hwr hk hdw hmem hSw=>by
   by_cases hwi:wr=i
   ·subst hwi;have h7:=b5 k hk d (by simpa[Zf,Z9,hsa k hk] using hmem) wr hwr;simp only[Zz,bne_iff_ne,ne_eq,hdw,not_true_eq_false,false_or] at h7;rw[Zf,ho,ZB,List.contains_iff_mem] at h7;simp[(hb k h7).2]
   ·have:S k=true:=ho6 wr k d hwr hk hdw hmem (by simpa[hwi] using hSw);simp[this]
  have hag':CP n (Ey lw (GT sp i).old (BI ops (TH sp u) (GT sp i).deps l0)) a Z:=OZ (J2 h2 (λj hj d hd=>by
    obtain⟨h5,h6⟩:=b3 i hi j (by rw[hdep i hi];exact hj);rw[Zf,ho,ZB,List.contains_iff_mem] at h6;obtain⟨o2,ho2⟩:=hops j h5;obtain⟨v,hv1,hv2⟩:=h3 j o2 d h5 (hb j h6).2 ho2 (by simpa[Cg,ho2] using hd);refine⟨v,hv1,?_⟩;rw[hspq u j h5];exact hv2)) (λd hd q hq=>ho5 d q hq (λwr hwr hdw=>by
     cases hS:S wr with
     | false=>rfl
     | true=>have:=ho6 wr i d hwr hi hdw hd hS;rw[this] at hun;cases hun))
  by_cases hi0:i=i0
  ·subst hi0;rw[Z4 rfl] at hat;rw[hun] at h1;have h1':St c H Z w:=by simpa using h1
   have key:=λK' hK'=>hat u a w Z K' hag' h1' hK';have h5:∀u' v w' Z',Fz.le Z Z'→((GT sp i).r u').p Z' v→St c (H1 u') Z' w'→K (a.put o.dst v) w':=λu' v w' Z' hz hpv hs'=>by
    refine hK _ _ ⟨u',Z',by simpa using hs',hagr v Z' hz,hvals v Z' u' hz (λj hj hji hSj=>?_) (λ_=>hpv),λj _ _ _=>by simp,hold' Z' hz v,hord⟩;refine hst.at (hsa j hj) ?_ u' u
    cases hd:(GT sp j).dyn with
    | false=>rfl
    | true=>have:=hx j hj hd hSj;rw[this] at hun;cases hun
   refine⟨λ_=>(key K h5).2,λhw'=>?_⟩;rw[(key K h5).1] at hw';cases hw'
  ·rw[Zu hi0] at hat;refine hat u _ (by split;exact .inr rfl;exact .inl rfl) a w Z K hag' h1 (λv w' Z' hz hp hst'=>hK _ _ ⟨u,Z',?_,hagr v Z' hz,hvals v Z' u hz (λ_ _ _ _=>rfl) (λ_=>hp),λj hj hd hSj=>?_,hold' Z' hz v,hord⟩)
   ·have hiS:(i0 ==i||S i0)=S i0:=by
     have:(i0 ==i)=false:=by simpa using λe=>hi0 e.symm
     rw[this];rfl
    show St c (if (i0 ==i||S i0)=true then H1 u else H) Z' w';rw[hiS];exact hst'
   ·have hii:(i0 ==i)=false:=by simpa using λe=>hi0 e.symm
    show(i0 ==i||S i0)=true;rw[hii,Zn]
    by_cases hji:j=i
    ·subst hji;have h7:=b4 j hj;rw[hdyn j hj,hd] at h7;simp only[Zi,Zn,Zz,beq_iff_eq,hi0,false_or,List.any_eq_true,Zd,Za] at h7;obtain⟨e,he,heN,h8⟩:=h7;rw[Zf,ho,ZB] at he;have hSe:=(hb e he).2;rcases h8 with h8 | h8
     ·subst h8;exact hSe
     ·rw[hdyn e heN] at h8;exact hx e heN h8 hSe
    ·exact hx j hj hd (by simpa[hji] using hSj)
 ·obtain⟨u,Z,h1,h2,h3,_,_,_⟩:=hI;have hsl:(XY sp u).length=N:=by simp[XY,hsp]
  refine h u a w Z (My h2 _ _ 0 (λt o s d ht hs hd=>?_)) (by simpa using h1);have htN:t<N:=by have:=(List.getElem?_eq_some_iff.1 hs).1;omega
  have hs':s = { deps:=(GT sp t).deps,r:=(GT sp t).r u }:=by
   simp only[XY,Z9,hsa t htN,Option.map_some,Option.some.injEq] at hs;exact hs.symm
  subst hs';rw[ZH];exact h3 t o d htN rfl (by rw[← hget t htN];exact ht) hd
theorem Ol [Inhabited U]{id:Nat}{ops:List Oper}(N i0:Nat)(ks0 ksw:List Nat)(sp:List (Sx U))(H1:U→List Ent)(hob:Kj P n c ops.toArray Q ops sp l0 lw i0 H H1 0 (ops.take N))(h:∀u,WL P n c ops.toArray Q (ops.drop N) (Kl (λ_=>0) (ops.take N) (XY sp u) 0 l0) (H1 u))
  (h0:Kp ks0 l l0:=by repeat (first | exact LZ | (apply JZ;rfl) | (apply KR;rfl))) (hw:Kp ksw l lw:=by repeat (first | exact LZ | (apply JZ;rfl) | (apply KR;rfl))) (hm:P.follows .mixedOrders=true:=by kernel_rfl) (hB:YE n ops N i0 (Ek l0) (sp.map (·.deps)) (sp.map (·.dyn)) (sp.map (·.old))=true:=by kernel_rfl)
  (hsp:sp.length=N:=by rfl) (hst:Nq sp:=by repeat (first | exact Y8 | apply YA | apply Y9)):WC P n c (.region id ops.toArray true) Q l H:=VD N i0 sp hm hB h0.one hw.one hsp hst hob h
theorem JW {all rest:List Oper}{d:Nat}{op:Op}{ty:TypeId}{pos:String}{af:Array Edge}{i:Nat}(hr:∀{u H},Br P n c (Ey lw (GT sp i).old (BI all (TH sp u) (GT sp i).deps l0)) H { dst:=some d,op:=op,type:=ty,pos:=pos,after:=af,guard:=none } ((GT sp i).r u))(h:Kj P n c opsA Q all sp l0 lw i0 H H1 (i+1) rest)(hne:Nat.beq i i0=false:=by rfl) :
  Kj P n c opsA Q all sp l0 lw i0 H H1 i ({ dst:=some d,op:=op,type:=ty,pos:=pos,after:=af,guard:=none }::rest):=by
 refine⟨?_,h⟩;rw[Zu (λe=>by subst e;simp at hne)];exact λu H _=>Bp hr
theorem Y2 {all rest:List Oper}{o:Oper}{i:Nat}(hr:∀{u H},DN P n c opsA Q (Ey lw (GT sp i).old (BI all (TH sp u) (GT sp i).deps l0)) H o ((GT sp i).r u) H)(h:Kj P n c opsA Q all sp l0 lw i0 H H1 (i+1) rest)(hne:Nat.beq i i0=false:=by rfl):Kj P n c opsA Q all sp l0 lw i0 H H1 i (o::rest):=by
 refine⟨?_,h⟩;rw[Zu (λe=>by subst e;simp at hne)];exact λu H _=>hr
theorem Rg {all rest:List Oper}{o:Oper}{i:Nat}(hr:∀{u},DN P n c opsA Q (Ey lw (GT sp i).old (BI all (TH sp u) (GT sp i).deps l0)) H o ((GT sp i).r u) H)(hr1:∀{u},DN P n c opsA Q (Ey lw (GT sp i).old (BI all (TH sp u) (GT sp i).deps l0)) (H1 u) o ((GT sp i).r u) (H1 u))(h:Kj P n c opsA Q all sp l0 lw i0 H H1 (i+1) rest)(hne:Nat.beq i i0=false:=by rfl):Kj P n c opsA Q all sp l0 lw i0 H H1 i (o::rest):=by
 refine⟨?_,h⟩;rw[Zu (λe=>by subst e;simp at hne)];intro u H' hH';rcases hH' with e | e
 ·subst e;exact hr
 ·subst e;exact hr1
theorem Y0 {all rest:List Oper}{o:Oper}(hr:∀{u},Y4 P n c opsA Q (Ey lw (GT sp i0).old (BI all (TH sp u) (GT sp i0).deps l0)) H o (GT sp i0).r H1)(h:Kj P n c opsA Q all sp l0 lw i0 H H1 (i0+1) rest):Kj P n c opsA Q all sp l0 lw i0 H H1 i0 (o::rest):=by
 refine⟨?_,h⟩;rw[Z4 rfl];exact λu=>hr
theorem Y1 {all:List Oper}{i:Nat}:Kj P n c opsA Q all sp l0 lw i0 H H1 i []:=trivial
end
section
variable {P : Program} {n : Nat} {c : Cx} {opsA : Array Oper} {Q : Exit → Act → World → Prop} {l : Fr} {H : List Ent} {d : Nat} {x y : Operand} {ty t e : TypeId} {pos : String} {af : Array Edge} {v : Value} {sz : Nat}
theorem Ko {α:Type}{xs ys:List α}{enc:α→List Rp}{i:Nat}{inf:TypeInfo}{z:Value}{bytes:Nat}(ht:P.underlying t=some (.slice e))(hinf:P.info? e=some inf)(hz:inf.zero=some z)(hsize:inf.size=sz)(hby:inf.bytes=bytes)(hzs:z.cells.size=sz)(hsz:Nat.blt 0 sz=true)(hbp:Nat.blt 0 bytes=true)
  (hx:ev l x=some (rv v)) (hi:H[i]? =some (.row v e sz (xs.map enc))) (hy:Mz P n c l H y sz ys.length (ys.map enc).flatten) (henc:∀z,(enc z).length=sz) (hone:∀z,(enc z).all (·.one)=true) (hg:IB bytes (xs.length+ys.length)=true) :
  Y4 P n c opsA Q l H { dst:=some d,op:=.call { callee:=.builtin .append,args:=#[x,y],argTypes:=#[t,t] },type:=ty,pos:=pos,after:=af,guard:=none } (λv'=>rv v') (λv'=>.row v' e sz ((xs++ys).map enc)::H.eraseIdx i):=λa w Z K ha hw hK=>by
  obtain⟨h0,us,h1,h2⟩:=hw.ent hi;obtain⟨ws,h3,h4⟩:=hy a w Z ha hw;have hsz':0<sz:=by simpa using hsz
  have hbp':0<bytes:=by simpa using hbp
  have hb:(xs.length+ys.length)*bytes≤140737488355328:=by simpa[IB] using hg
  have hle:xs.length+ys.length≤(xs.length+ys.length)*bytes:=Nat.le_mul_of_pos_right _ hbp';have hws:∀y∈ws,y.oneCell'=true:=Bg.one (rs:=(ys.map enc).flatten) (by
   rw[ZD];intro r hr;obtain⟨cl,hcl,hrc⟩:=List.mem_flatten.1 hr;obtain⟨z',_,rfl⟩:=List.mem_map.1 hcl;exact List.all_eq_true.1 (hone z') r hrc) h3
  have hxl:(xs.map enc).length=xs.length:=Zt ..;rw[hxl] at h1;obtain⟨v',w',e1,e2,e3,e4⟩:=HB (P:=P) ty ht hinf hz hsize hby hzs hsz' h1 h4 hws hb (by simp only[maxLen];omega);have hent:(Ent.row v' e sz ((xs++ys).map enc)).holds Z w':=⟨λcl hcl=>by obtain⟨z',_,rfl⟩:=List.mem_map.1 hcl;exact henc z',us++ws,by simpa using e2,by rw[ZO,List.flatten_append];exact h2.append h3⟩
  have hst:=hw.callF hi (St.one (e':=.row v' e sz ((xs++ys).map enc)) (M:=(Ent.row v e sz (xs.map enc)).foot) hw.frz hw.env hw.emono e3.os e3.tape e3.output e3.size (λk hk hne=>e3.block k hk (λe1=>hne (by simp[Ent.foot,← e1])))
   (hw.zdis _ (Zk hi)) hent (λk hk=>by
    simp only[Ent.foot,Option.mem_toList] at hk ⊢;rcases e4 with e4 | e4
    ·exact .inl (e4▸hk)
    ·exact .inr (e4 k hk)))
  refine⟨by simp[Region.wanted],?_⟩;unfold Oper.wp;rw[show(execOp a.eval { dst:=some d,op:=.call { callee:=.builtin .append,args:=#[x,y],argTypes:=#[t,t] },type:=ty,pos:=pos,after:=af,guard:=none }).run P w = .ok (.value v') w' from by simp[execOp,resolve,invoke,builtin,ha.eval hx,e1]];exact hK v' v' w' Z (Fz.le.refl _) rfl hst
end
abbrev Ux:=Nat→Nat→Value×Nat
def Ag (k:Nat)(u u':Ux):Prop:=∀j,j<k→u j=u' j
def ux (u:Ux)(k:Nat)(f:List (Value×Nat)):Ux:=λj=>bif Nat.beq j k then λq=>f.getD q (undef,0) else u j
theorem Ys {u:Ux}{k:Nat}{f:List (Value×Nat)}:Ag k u (ux u k f):=λj hj=>by
 unfold ux;have:Nat.beq j k=false:=by
  cases h:Nat.beq j k with
  | false=>rfl
  | true=>have:=Nat.eq_of_beq_eq_true h;omega
 rw[this];rfl
structure Sy where
 deps:List Nat
 r:Ux→Rp
 lv:Nat:=0
 fx:Bool:=false
 old:List Nat:=[]
def Gj (sp:List Sy)(i:Nat):Sy:=sp.getD i { deps:=[],r:=λ_=>rv undef }
def V4 (sp:List Sy)(u:Ux):List Sp:=sp.map λs=>⟨s.deps,s.r u,0⟩
def XX (sp:List Sy)(u:Ux):List Sa:=sp.map λs=>{ deps:=s.deps,r:=s.r u }
def Oh:List Sy→Prop
 | []=>True
 | s::r=>(∀u u',Ag s.lv u u'→s.r u=s.r u')∧Oh r
theorem Oh.at:∀{sp:List Sy},Oh sp→∀{i:Nat} {s:Sy},sp[i]? =some s→∀u u',Ag s.lv u u'→s.r u=s.r u'
 | [],_,i,s,h=>by simp at h
 | x::sp,⟨h1,h2⟩,0,s,h=>by simp at h;subst h;exact h1
 | x::sp,⟨h1,h2⟩,i+1,s,h=>Oh.at h2 (by simpa using h)
theorem BQ {r:Rp}{m:Nat}:∀u u':Ux,Ag m u u'→(λ_:Ux=>r) u=(λ_:Ux=>r) u':=λ_ _ _=>rfl
def YD (n:Nat)(ops:List Oper)(N:Nat)(is:List Nat)(keys:List Nat)(deps:List (List Nat))(lvs:List Nat)(fxs:List Bool)(olds:List (List Nat)):Bool:=
 let cl:=Kf ops []
 Nm ops N&&decide (N≤ops.length)&&is.all (λi=>decide (i<N))&&decide is.Nodup&&
 (List.range is.length).all (λk=>k ==0||(cl.getD (is.getD k 0) 0).testBit (is.getD (k-1) 0))&&
 (List.range N).all (λi=>match Cg ops i with
  | some d=>decide (d<n)&&!keys.contains d&&(List.range N).all (λj=>j ==i||Cg ops j !=some d)
  | none=>true)&&
 (List.range N).all (λi=>(deps.getD i []).all (λj=>decide (j<N)&&(DR (ops.getD i default)).contains j))&&
 (List.range N).all (λi=>decide (lvs.getD i 0≤is.length)&&(lvs.getD i 0 ==0||i ==is.getD (lvs.getD i 0-1) 0||(cl.getD i 0).testBit (is.getD (lvs.getD i 0-1) 0)))&&
 (List.range N).all (λi=>!fxs.getD i false||lvs.getD i 0 ==is.length||(cl.getD (is.getD (lvs.getD i 0) 0) 0).testBit i)&&
 (List.range N).all (λi=>(olds.getD i []).all (λd=>(List.range N).all (λw=>Cg ops w !=some d||(DR (ops.getD w default)).contains i)))
def cnt (S:Nat→Bool)(is:List Nat):Nat:=(is.filter S).length
theorem Nk {S:Nat→Bool}{is:List Nat}{k:Nat}(hk:k≤is.length)(h1:∀j (h:j<is.length),j<k→S is[j]=true)(h2:∀j (h:j<is.length),k≤j→S is[j]=false):cnt S is=k:=by
 unfold cnt;rw[← Aaa k is,List.filter_append,List.filter_eq_self.2 (λx hx=>?_),List.filter_eq_nil_iff.2 (λx hx=>?_)]
 ·simp;omega
 ·obtain⟨j,hj⟩:=List.mem_iff_getElem?.1 hx;rw[List.getElem?_drop] at hj;obtain⟨h3,h4⟩:=List.getElem?_eq_some_iff.1 hj;have:=h2 (k+j) h3 (by omega);rw[h4] at this;simp[this]
 ·obtain⟨j,hj⟩:=List.mem_iff_getElem?.1 hx;rw[ZJ] at hj
  split at hj
  ·rename_i hjk
   obtain⟨h3,h4⟩:=List.getElem?_eq_some_iff.1 hj;have:=h1 j h3 hjk;rw[h4] at this;exact this
  ·cases hj
theorem Ob {S S':Nat→Bool}{is:List Nat}(h:∀i∈is,S i=S' i):cnt S is=cnt S' is:=by
 unfold cnt;rw[List.filter_congr h]
section
variable (P : Program) (n : Nat) (c : Cx) (opsA : Array Oper) (Q : Exit → Act → World → Prop)
def YN (l:Fr)(H:List Ent)(o:Oper)(k:Nat)(u:Ux)(r:Ux→Rp)(H1:Ux→List Ent):Prop:=
 ∀a w Z (K:Act→World→Prop),CP n l a Z→St c H Z w→(∀u' v w' Z',Ag k u u'→Fz.le Z Z'→(r u').p Z' v→St c (H1 u') Z' w'→K (a.put o.dst v) w')→
  Region.wanted o (yielded opsA a.tmps)=true∧o.wp P a w K Q
def XL (ops:List Oper)(sp:List Sy)(l0 lw:Fr)(is:List Nat)(hs:List (Ux→List Ent))(i:Nat)(o:Oper):Prop:=
 match is.findIdx? (λx=>Nat.beq x i) with
 | some k=>∀u,YN P n c opsA Q (Ey lw (Gj sp i).old (BI ops (V4 sp u) (Gj sp i).deps l0)) (hs.getD k (λ_=>[]) u) o k u (Gj sp i).r (hs.getD (k+1) (λ_=>[]))
 | none=>if (Gj sp i).fx=true then ∀u,DN P n c opsA Q (Ey lw (Gj sp i).old (BI ops (V4 sp u) (Gj sp i).deps l0)) (hs.getD (Gj sp i).lv (λ_=>[]) u) o ((Gj sp i).r u) (hs.getD (Gj sp i).lv (λ_=>[]) u)
  else ∀u k,k≤is.length→DN P n c opsA Q (Ey lw (Gj sp i).old (BI ops (V4 sp u) (Gj sp i).deps l0)) (hs.getD k (λ_=>[]) u) o ((Gj sp i).r u) (hs.getD k (λ_=>[]) u)
def Ki (ops:List Oper)(sp:List Sy)(l0 lw:Fr)(is:List Nat)(hs:List (Ux→List Ent)):Nat→List Oper→Prop
 | i,o::rest=>XL P n c opsA Q ops sp l0 lw is hs i o∧Ki ops sp l0 lw is hs (i+1) rest
 | _,[]=>True
end
section
variable {P : Program} {n : Nat} {c : Cx} {opsA : Array Oper} {Q : Exit → Act → World → Prop} {l l0 lw : Fr} {H : List Ent} {hs : List (Ux → List Ent)} {sp : List Sy} {is : List Nat}
theorem Ki.at {ops:List Oper}:∀{k:Nat} {rest:List Oper},Ki P n c opsA Q ops sp l0 lw is hs k rest→∀(t:Nat) o,rest[t]? =some o→XL P n c opsA Q ops sp l0 lw is hs (k+t) o
 | k,o::rest,⟨h1,h2⟩,t,o',ht=>by
  cases t with
  | zero=>simp at ht;subst ht;exact h1
  | succ t=>
   have:=Ki.at h2 t o' (by simpa using ht);rw[show k+(t+1)=k+1+t from by omega];exact this
 | _,[],_,t,o,h=>by simp at h
theorem VC {id:Nat}{ops:List Oper}(N:Nat)(is:List Nat)(sp:List Sy)(hs:List (Ux→List Ent))(hm:P.follows .mixedOrders=true)(hB:YD n ops N is (Ek l0) (sp.map (·.deps)) (sp.map (·.lv)) (sp.map (·.fx)) (sp.map (·.old))=true)(hl0:Qy l0 l)(hlw:Qy lw l)(hsp:sp.length=N)(hst:Oh sp)
    (hH:∀u,hs.getD 0 (λ_=>[]) u=H) (hob:Ki P n c ops.toArray Q ops sp l0 lw is hs 0 (ops.take N)) (h:∀u,WL P n c ops.toArray Q (ops.drop N) (Kl (λ_=>0) (ops.take N) (XX sp u) 0 l0) (hs.getD is.length (λ_=>[]) u)):WC P n c (.region id ops.toArray true) Q l H:=by
  intro a w Z ha hw;simp only[YD,Zd,ZD,List.mem_range,Za] at hB;obtain⟨⟨⟨⟨⟨⟨⟨⟨⟨b1,bN⟩,bis⟩,Mw⟩,bch⟩,b2⟩,b3⟩,b4⟩,b6⟩,b5⟩:=hB;have hget:∀i,i<N→(ops.take N)[i]? =ops[i]?:=λi hi=>by rw[ZJ,Z4 hi]
  have hsa:∀i,i<N→sp[i]? =some (Gj sp i):=λi hi=>by
    simp[Gj,Zf,Zg (show i<sp.length by omega)]
  have hspq:∀u i,i<N→(DC (V4 sp u) i)=⟨(Gj sp i).deps,(Gj sp i).r u,0⟩:=λu i hi=>by
    simp[DC,V4,Zf,Z9,hsa i hi]
  have hlv:∀j,j<N→(sp.map (·.lv)).getD j 0=(Gj sp j).lv:=λj hj=>by simp[Zf,Z9,hsa j hj]
  have hfx:∀j,j<N→(sp.map (·.fx)).getD j false=(Gj sp j).fx:=λj hj=>by simp[Zf,Z9,hsa j hj]
  have hdep:∀j,j<N→(sp.map (·.deps)).getD j []=(Gj sp j).deps:=λj hj=>by simp[Zf,Z9,hsa j hj]
  have hops:∀j,j<N→∃o,ops[j]? =some o:=λj hj=>⟨ops[j]'(by omega),Zg (by omega)⟩
  have hisN:∀k (hk:k<is.length),is[k]<N:=λk hk=>bis _ (List.getElem_mem hk);have hisD:∀k (hk:k<is.length),is.getD k 0=is[k]:=λk hk=>by rw[Zf,Zg hk];rfl
  have hdst:∀i o d,i<N→ops[i]? =some o→o.dst=some d→(d<n∧d ∉ Ek l0)∧∀j,j<N→j≠i→Cg ops j≠some d:=λi o d hi ho hd=>by
    have h3:=b2 i hi;have:Cg ops i=some d:=by simp[Cg,ho,hd]
    rw[this] at h3;simp only[Zd,Zq,ZD,List.mem_range,Za] at h3;refine⟨⟨h3.1.1,λhmem=>by rw[← List.contains_iff_mem] at hmem;rw[hmem] at h3;cases h3.1.2⟩,λj hj hne he=>?_⟩;have:=h3.2 j hj;simp[hne,he] at this
  have clo:∀S:Nat→Bool,(∀t o,ops[t]? =some o→S t=true→∀e∈DR o,S e=true)→∀j i,((Kf ops []).getD j 0).testBit i=true→S j=true→S i=true:=λS hc j i hb hj=>
    Gu ops (λk=>S k=true) ops [] (λt o ht e he hF=>hc t o ht (by simpa using hF) e he) (λj i hb=>by simp at hb) j i hb hj
  have pre1:∀S:Nat→Bool,(∀t o,ops[t]? =some o→S t=true→∀e∈DR o,S e=true)→∀k (hk:k<is.length),S is[k]=true→∀j (hj:j<is.length),j≤k→S is[j]=true:=by
    intro S hc k
    induction k with
    | zero=>
              intro hk h0 j hj hle;have:j=0:=by omega
              subst this;exact h0
    | succ k ih=>
      intro hk h0 j hj hle
      by_cases e:j=k+1
      · subst e;exact h0
      · have h3:=bch (k+1) hk
        rw[hisD (k+1) hk] at h3;simp only[Zz,beq_iff_eq,Nat.succ_ne_zero,false_or,Nat.add_sub_cancel] at h3;rw[hisD k (by omega)] at h3;exact ih (by omega) (clo S hc _ _ h3 h0) j hj (by omega)
  refine Q4 (N:=N) hm b1 bN (λS a w=>∃ (u:Ux) (Z:Fz),St c (hs.getD (cnt S is) (λ_=>[]) u) Z w∧CP n l0 a Z∧(∀j o d,j<N→S j=true→ops[j]? =some o→o.dst=some d→∃v,a.tmps[d]? =some v∧((Gj sp j).r u).p Z v)∧
      (∀t o,t<N→ops[t]? =some o→S t=true→∀e∈DR o,e<t∧S e=true)∧
      (∀d q,look lw d=some q→(∀wr,wr<N→Cg ops wr=some d→S wr=false)→∃v,a.tmps[d]? =some v∧q.p Z v)∧
      ∀wr i d,wr<N→i<N→Cg ops wr=some d→d∈(Gj sp i).old→S wr=true→S i=true)
    (λS S' a w hS hI=>?_) ⟨default,Z,?_,ha.subL hl0,λj o d _ hS=>(by cases hS),λt o _ _ hS=>(by cases hS),λd q hd _=>(ha.subL hlw).tm d q hd,λwr i d _ _ _ _ hS=>(by cases hS)⟩ (λS i o a w hi hun ho hb hI K hK=>?_) (λa w hI=>?_)
  · obtain⟨u,Z,h1,h2,h3,h4,h5,h6⟩:=hI
    refine⟨u,Z,?_,h2,λj o d hj hS'=>h3 j o d hj (by rw[hS j hj];exact hS'),λt o ht hto hSt e he=>?_,λd q hd hw'=>h5 d q hd (λwr hwr hdw=>by rw[hS wr hwr];exact hw' wr hwr hdw),λwr i d hwr hi hdw hold hSw=>by rw[← hS i hi];exact h6 wr i d hwr hi hdw hold (by rw[hS wr hwr];exact hSw)⟩
    · rw[← Ob (S:=S) (S':=S') λi hi=>hS i (bis i hi)];exact h1
    · obtain⟨h7,h8⟩:=h4 t o ht hto (by rw[hS t ht];exact hSt) e he
      exact⟨h7,by rw[← hS e (by omega)];exact h8⟩
  · have:cnt (λ_=>false) is=0:=Nk (ZN _) (λj _ h=>absurd h (Nat.not_lt_zero _)) (λ_ _ _=>rfl)
    rw[this,hH];exact hw.drawn _
  · obtain⟨u,Z,h1,h2,h3,hc,ho5,ho6⟩:=hI
    have hcl:∀t o,ops[t]? =some o→(decide (t<N)&&S t)=true→∀e∈DR o,(decide (e<N)&&S e)=true:=λt o hto hSt e he=>by
      simp only[Zd,Za] at hSt ⊢;obtain⟨h7,h8⟩:=hc t o hSt.1 hto hSt.2 e he;exact⟨by omega,h8⟩
    have hcl2:∀k q,((Kf ops []).getD k 0).testBit q=true→(k=i∨(decide (k<N)&&S k)=true)→(q=i∨(decide (q<N)&&S q)=true):=
      Gu ops (λk=>k=i∨(decide (k<N)&&S k)=true) ops [] (λt o' ht e he hF=>by
        rcases hF with hF | hF
        · simp at hF;subst hF
          rw[ho] at ht;simp at ht;subst ht;obtain⟨h7,h8⟩:=hb e he;exact .inr (by simp only[Zd,Za];exact⟨by omega,h8⟩)
        · exact .inr (hcl t o' ht (by simpa using hF) e he)) (λj i hb=>by simp at hb)
    have hanc:∀q,((Kf ops []).getD i 0).testBit q=true→q≠i→S q=true:=λq hq hne=>by
      rcases hcl2 i q hq (.inl rfl) with h7 | h7
      · exact absurd h7 hne
      · simp only[Zd] at h7;exact h7.2
    have hSis:∀k (hk:k<is.length),(decide (is[k]<N)&&S is[k])=S is[k]:=λk hk=>by simp[hisN k hk]
    have hpre:∀k (hk:k<is.length),S is[k]=true→∀j (hj:j<is.length),j≤k→S is[j]=true:=λk hk hSk j hj hle=>by
      have:=pre1 (λk=>decide (k<N)&&S k) hcl k hk (by show(decide (is[k]<N)&&S is[k])=true;rw[hSis k hk];exact hSk) j hj hle
      rwa [show(decide (is[j]<N)&&S is[j])=S is[j] from hSis j hj] at this
    have hput:∀k u v,a.tmps[k]? =some u→o.dst≠some k→(a.put o.dst v).tmps[k]? =some u:=λk u v hk hne=>by
      cases hd:o.dst with
      | none=>simpa[Act.put] using hk
      | some d=>
        simp only[Act.put,Array.getElem?_setIfInBounds];rw[Zu (λe=>hne (by rw[hd,e]))];exact hk
    have hagr:∀v Z',Fz.le Z Z'→CP n l0 (a.put o.dst v) Z':=λv Z' hz=>by
      refine⟨?_,?_,λk r hk=>?_⟩
      · cases o.dst<;>simp[Act.put,h2.size]
      · cases o.dst<;>simp[Act.put,h2.defers]
      · obtain⟨u,hu,hpu⟩:=h2.tm k r hk
        exact⟨u,hput k u v hu (λe=>((hdst i o k hi ho e).1).2 (IZ hk)),r.mono hz hpu⟩
    have hvals:∀(v:Value) (Z':Fz) (u':Ux),Fz.le Z Z'→(∀j,j<N→j≠i→S j=true→(Gj sp j).r u'=(Gj sp j).r u)→(o.dst≠none→((Gj sp i).r u').p Z' v)→∀j o' d,j<N→(j ==i||S j)=true→ops[j]? =some o'→o'.dst=some d→∃q,(a.put o.dst v).tmps[d]? =some q∧((Gj sp j).r u').p Z' q:=by
      intro v Z' u' hz hβ hp j o' d hj hS' ho' hd
      by_cases hji:j=i
      · subst hji
        rw[ho] at ho';simp at ho';subst ho';refine⟨v,?_,hp (by simp[hd])⟩;have hdn:d<a.tmps.size:=by rw[h2.size];exact(hdst j o d hi ho hd).1.1
        simp[Act.put,hd,hdn]
      · have hSj:S j=true:=by simpa[hji] using hS'
        obtain⟨q,hu,hpu⟩:=h3 j o' d hj hSj ho' hd;refine⟨q,hput d q v hu (λe=>(hdst i o d hi ho e).2 j hj hji (by simp[Cg,ho',hd])),?_⟩;rw[hβ j hj hji hSj];exact((Gj sp j).r u).mono hz hpu
    have hat:=hob.at i o (by rw[hget i hi];exact ho);rw[ZH] at hat;have hold':∀Z',Fz.le Z Z'→∀v d q,look lw d=some q→(∀wr,wr<N→Cg ops wr=some d→(wr ==i||S wr)=false)→∃v',(a.put o.dst v).tmps[d]? =some v'∧q.p Z' v':=λZ' hz v d q hd hw'=>by
      obtain⟨v',e1,e2⟩:=ho5 d q hd (λwr hwr hdw=>by have:=hw' wr hwr hdw;simp only[Z3] at this;exact this.2);refine⟨v',hput d v' v e1 (λe=>?_),q.mono hz e2⟩;have:=hw' i hi (by simp[Cg,ho,e]);simp at this
    have hord:∀wr k d,wr<N→k<N→Cg ops wr=some d→d∈(Gj sp k).old→(wr ==i||S wr)=true→(k ==i||S k)=true:=λwr k d hwr hk hdw hmem hSw=>by
      by_cases hwi:wr=i
      · subst hwi
        have h7:=b5 k hk d (by simpa[Zf,Z9,hsa k hk] using hmem) wr hwr;simp only[Zz,bne_iff_ne,ne_eq,hdw,not_true_eq_false,false_or] at h7;rw[Zf,ho,ZB,List.contains_iff_mem] at h7;simp[(hb k h7).2]
      · have:S k=true:=ho6 wr k d hwr hk hdw hmem (by simpa[hwi] using hSw)
        simp[this]
    have hcl':∀t o',t<N→ops[t]? =some o'→(t ==i||S t)=true→∀e∈DR o',e<t∧(e ==i||S e)=true:=λt o' ht hto hSt e he=>by
      by_cases hti:t=i
      · subst hti
        rw[ho] at hto;simp at hto;subst hto;obtain⟨h7,h8⟩:=hb e he;exact⟨h7,by simp[h8]⟩
      · obtain⟨h7,h8⟩:=hc t o' ht hto (by simpa[hti] using hSt) e he
        exact⟨h7,by simp[h8]⟩
    have hag':CP n (Ey lw (Gj sp i).old (BI ops (V4 sp u) (Gj sp i).deps l0)) a Z:=OZ (J2 h2 (λj hj d hd=>by
        obtain⟨h5,h6⟩:=b3 i hi j (by rw[hdep i hi];exact hj);rw[Zf,ho,ZB,List.contains_iff_mem] at h6;obtain⟨o2,ho2⟩:=hops j h5;obtain⟨v,hv1,hv2⟩:=h3 j o2 d h5 (hb j h6).2 ho2 (by simpa[Cg,ho2] using hd);refine⟨v,hv1,?_⟩;rw[hspq u j h5];exact hv2)) (λd hd q hq=>ho5 d q hq (λwr hwr hdw=>by
          cases hS:S wr with
          | false=>rfl
          | true=>have:=ho6 wr i d hwr hi hdw hd hS;rw[this] at hun;cases hun))
    have hlev:∀j,j<N→S j=true→∀m (hm:m<is.length),m<(Gj sp j).lv→S is[m]=true:=λj hj hSj m hm hlt=>by
      have h7:=b4 j hj;rw[hlv j hj] at h7;have h8:=h7.1;have hm1:(Gj sp j).lv-1<is.length:=by omega
      rw[hisD _ hm1] at h7;have h9:S is[(Gj sp j).lv-1]=true:=by
        have hg:=h7.2;simp only[Zz,beq_iff_eq] at hg;rcases hg with(hg | hg) | hg
        · omega
        · rw[← hg];exact hSj
        · have:=clo (λk=>decide (k<N)&&S k) hcl j _ hg (by simp[hj,hSj])
          simp only[Zd] at this;exact this.2
      exact hpre _ hm1 h9 m hm (by omega)
    unfold XL at hat
    cases hf:is.findIdx? (λx=>Nat.beq x i) with
    | some k=>
      rw[hf] at hat;obtain⟨hk,hki,_⟩:=List.findIdx?_eq_some_iff_getElem.1 hf;have hik:is[k]=i:=Nat.eq_of_beq_eq_true hki;have hlow:∀j (hj:j<is.length),j<k→S is[j]=true:=λj hj hjk=>by
        obtain⟨k',rfl⟩:∃k',k=k'+1:=⟨k-1,by omega⟩
        have h7:=bch (k'+1) hk;rw[hisD _ hk] at h7;simp only[Zz,beq_iff_eq,Nat.succ_ne_zero,false_or,Nat.add_sub_cancel] at h7;have hk':k'<is.length:=by omega
        rw[hisD k' hk',hik] at h7;have hne:is[k']≠i:=λe=>by
          have:=(List.getElem_inj Mw).1 (e.trans hik.symm);omega
        exact hpre k' hk' (hanc _ h7 hne) j hj (by omega)
      have hhigh:∀j (hj:j<is.length),k≤j→S is[j]=false:=λj hj hle=>by
        cases hS:S is[j] with
        | false=>rfl
        | true=>have:=hpre j hj hS k hk hle;rw[hik,hun] at this;cases this
      have hcnt:cnt S is=k:=Nk (by omega) (λj hj h=>hlow j hj h) (λj hj h=>hhigh j hj h);have hcnt':cnt (λj=>j ==i||S j) is=k+1:=Nk (by omega) (λj hj h=>by
        by_cases e:j=k
        · subst e;simp[hik]
        · simp[hlow j hj (by omega)]) (λj hj h=>by
        have hne:is[j]≠i:=λe=>by have:=(List.getElem_inj Mw).1 (e.trans hik.symm);omega
        simp[hne,hhigh j hj (by omega)])
      rw[hcnt] at h1;have key:=λK' hK'=>hat u a w Z K' hag' h1 hK';have h5:∀u' v w' Z',Ag k u u'→Fz.le Z Z'→((Gj sp i).r u').p Z' v→St c (hs.getD (k+1) (λ_=>[]) u') Z' w'→K (a.put o.dst v) w':=λu' v w' Z' hag hz hpv hs'=>by
        refine hK _ _ ⟨u',Z',by rw[hcnt'];exact hs',hagr v Z' hz,hvals v Z' u' hz (λj hj hji hSj=>?_) (λ_=>hpv),hcl',hold' Z' hz v,hord⟩;refine(hst.at (hsa j hj) u u' (λm hm=>hag m ?_)).symm;have hlj:=(b4 j hj).1;rw[hlv j hj] at hlj;have hml:m<is.length:=by omega
        cases Nat.lt_or_ge m k with
        | inl h7=>exact h7
        | inr h7=>have:=hlev j hj hSj m hml hm;rw[hhigh m hml h7] at this;cases this
      refine⟨λ_=>(key K h5).2,λhw'=>?_⟩;rw[(key K h5).1] at hw';cases hw'
    | none=>
      rw[hf] at hat;have hni:∀x∈is,x≠i:=λx hx e=>by
        have:=List.findIdx?_eq_none_iff.1 hf x hx;subst e;simp at this
      have hcnt':cnt (λj=>j ==i||S j) is=cnt S is:=Ob λx hx=>by simp[hni x hx]
      by_cases hfi:(Gj sp i).fx=true
      · simp only[hfi,ZG] at hat
        have hli:=b4 i hi;rw[hlv i hi] at hli;have hcnt:cnt S is=(Gj sp i).lv:=Nk hli.1 (λj hj h=>?_) (λj hj h=>?_)
        · rw[hcnt] at h1
          refine hat u a w Z K hag' h1 (λv w' Z' hz hp hst'=>hK _ _ ⟨u,Z',?_,hagr v Z' hz,hvals v Z' u hz (λ_ _ _ _=>rfl) (λ_=>hp),hcl',hold' Z' hz v,hord⟩);rw[hcnt',hcnt];exact hst'
        · have h7:=hli.2
          have hm1:(Gj sp i).lv-1<is.length:=by omega
          rw[hisD _ hm1] at h7;simp only[Zz,beq_iff_eq] at h7;rcases h7 with(h7 | h7) | h7
          · omega
          · exact absurd h7.symm (hni _ (List.getElem_mem hm1))
          · exact hpre _ hm1 (hanc _ h7 (hni _ (List.getElem_mem hm1))) j hj (by omega)
        · have h7:=b6 i hi
          rw[hfx i hi,hfi,hlv i hi] at h7;simp only[Zi,Zn,Zz,beq_iff_eq] at h7;rcases h7 with h7 | h7
          · omega
          · have hm1:(Gj sp i).lv<is.length:=by omega
            rw[hisD _ hm1] at h7
            cases hS:S is[j] with
            | false=>rfl
            | true=>
              have h8:=hpre j hj hS _ hm1 h;have:=clo (λk=>decide (k<N)&&S k) hcl _ _ h7 (by show(decide (is[(Gj sp i).lv]<N)&&S is[(Gj sp i).lv])=true;rw[hSis _ hm1];exact h8);simp only[Zd,hun] at this;exact absurd this.2 (by simp)
      · simp only[hfi,Z8] at hat
        refine hat u (cnt S is) (List.length_filter_le _ _) a w Z K hag' h1 (λv w' Z' hz hp hst'=>hK _ _ ⟨u,Z',?_,hagr v Z' hz,hvals v Z' u hz (λ_ _ _ _=>rfl) (λ_=>hp),hcl',hold' Z' hz v,hord⟩);rw[hcnt'];exact hst'
  · obtain⟨u,Z,h1,h2,h3,_,_,_⟩:=hI
    have hsl:(XX sp u).length=N:=by simp[XX,hsp]
    have hcnt:cnt (λ_=>true) is=is.length:=Nk (Z6 _) (λ_ _ _=>rfl) (λj hj h=>by omega);rw[hcnt] at h1;refine h u a w Z (My h2 _ _ 0 (λt o s d ht hs hd=>?_)) h1;have htN:t<N:=by have:=(List.getElem?_eq_some_iff.1 hs).1;omega
    have hs':s = { deps:=(Gj sp t).deps,r:=(Gj sp t).r u }:=by
      simp only[XX,Z9,hsa t htN,Option.map_some,Option.some.injEq] at hs;exact hs.symm
    subst hs';rw[ZH];exact h3 t o d htN rfl (by rw[← hget t htN];exact ht) hd
theorem Lh {id:Nat}{ops:List Oper}(N:Nat)(is ks0 ksw:List Nat)(sp:List Sy)(hs:List (Ux→List Ent))(hst:Oh sp)(hob:Ki P n c ops.toArray Q ops sp l0 lw is hs 0 (ops.take N))(h:∀u,WL P n c ops.toArray Q (ops.drop N) (Kl (λ_=>0) (ops.take N) (XX sp u) 0 l0) (hs.getD is.length (λ_=>[]) u))
  (h0:Kp ks0 l l0:=by repeat (first | exact LZ | (apply JZ;rfl) | (apply KR;rfl))) (hw:Kp ksw l lw:=by repeat (first | exact LZ | (apply JZ;rfl) | (apply KR;rfl))) (hm:P.follows .mixedOrders=true:=by kernel_rfl) (hB:YD n ops N is (Ek l0) (sp.map (·.deps)) (sp.map (·.lv)) (sp.map (·.fx)) (sp.map (·.old))=true:=by kernel_rfl)
  (hsp:sp.length=N:=by rfl) (hH:∀u,hs.getD 0 (λ_=>[]) u=H:=by exact λ_=>rfl):WC P n c (.region id ops.toArray true) Q l H:=VC N is sp hs hm hB h0.one hw.one hsp hst hH hob h
theorem Cd {all rest:List Oper}{o:Oper}{i:Nat}(hr:∀{u H},DN P n c opsA Q (Ey lw (Gj sp i).old (BI all (V4 sp u) (Gj sp i).deps l0)) H o ((Gj sp i).r u) H)(h:Ki P n c opsA Q all sp l0 lw is hs (i+1) rest)(hne:is.findIdx? (λx=>Nat.beq x i)=none:=by rfl)(hf:(Gj sp i).fx=false:=by rfl):Ki P n c opsA Q all sp l0 lw is hs i (o::rest):=by
 refine⟨?_,h⟩;unfold XL;rw[hne];simp only[hf,Zm,Z8];exact λu _ _=>hr
def TD (p:List Ent→Prop)(u:Ux):List (Ux→List Ent)→Prop
 | []=>True
 | f::r=>p (f u)∧TD p u r
theorem TD.at {p:List Ent→Prop}{u:Ux}:∀{hs:List (Ux→List Ent)},TD p u hs→∀k,k<hs.length→p (hs.getD k (λ_=>[]) u)
 | [],_,k,h=>absurd h (Nat.not_lt_zero _)
 | f::r,⟨h1,h2⟩,0,_=>h1
 | f::r,⟨h1,h2⟩,k+1,h=>TD.at h2 k (by simpa using h)
theorem YS {all rest:List Oper}{o:Oper}{i:Nat}(hr:∀{u},TD (λH'=>DN P n c opsA Q (Ey lw (Gj sp i).old (BI all (V4 sp u) (Gj sp i).deps l0)) H' o ((Gj sp i).r u) H') u hs)(h:Ki P n c opsA Q all sp l0 lw is hs (i+1) rest)(hne:is.findIdx? (λx=>Nat.beq x i)=none:=by rfl)(hf:(Gj sp i).fx=false:=by rfl)(hl:hs.length=is.length+1:=by rfl):Ki P n c opsA Q all sp l0 lw is hs i (o::rest):=by
 refine⟨?_,h⟩;unfold XL;rw[hne];simp only[hf,Zm,Z8];exact λu k hk=>TD.at hr k (by omega)
theorem Wf {all rest:List Oper}{o:Oper}{i:Nat}(hr:∀{u},DN P n c opsA Q (Ey lw (Gj sp i).old (BI all (V4 sp u) (Gj sp i).deps l0)) (hs.getD (Gj sp i).lv (λ_=>[]) u) o ((Gj sp i).r u) (hs.getD (Gj sp i).lv (λ_=>[]) u))(h:Ki P n c opsA Q all sp l0 lw is hs (i+1) rest)(hne:is.findIdx? (λx=>Nat.beq x i)=none:=by rfl)(hf:(Gj sp i).fx=true:=by rfl):Ki P n c opsA Q all sp l0 lw is hs i (o::rest):=by
 refine⟨?_,h⟩;unfold XL;rw[hne];simp only[hf,ZG];exact λu=>hr
theorem YU {all rest:List Oper}{o:Oper}{i:Nat}(k:Nat)(hr:∀{u},YN P n c opsA Q (Ey lw (Gj sp i).old (BI all (V4 sp u) (Gj sp i).deps l0)) (hs.getD k (λ_=>[]) u) o k u (Gj sp i).r (hs.getD (k+1) (λ_=>[])))(h:Ki P n c opsA Q all sp l0 lw is hs (i+1) rest)(hne:is.findIdx? (λx=>Nat.beq x i)=some k:=by rfl):Ki P n c opsA Q all sp l0 lw is hs i (o::rest):=by
 refine⟨?_,h⟩;unfold XL;rw[hne];exact λu=>hr
theorem XQ {all:List Oper}{i:Nat}:Ki P n c opsA Q all sp l0 lw is hs i []:=trivial
end
section
variable {P : Program} {n : Nat} {c : Cx} {opsA : Array Oper} {Q : Exit → Act → World → Prop} {l : Fr} {H : List Ent} {d : Nat} {x y : Operand} {ty t e : TypeId} {pos : String} {af : Array Edge} {v : Value} {sz : Nat}
theorem Xd {k:Nat}{u:Ux}{f:FuncId}{args:List Operand}{ats:Array TypeId}{rs:List Rp}{r:Ux→Rp}{H1:Ux→List Ent}{Hin Hr:List Ent}{Φ:Rp→List Ent→Prop}(hcall:∀(as1:Array Value) (w:World),(callFunc f as1).run P w = .ok (.enter f as1) w)(hv:LO l args=some rs)
  (hp:H.Perm (Hin++Hr)) (hc:Fn P c.E f rs Hin Φ) (hΦ:∀r' H',Φ r' H'→∃u',Ag k u u'∧r'=r u'∧H'++Hr=H1 u'):YN P n c opsA Q l H { dst:=some d,op:=.call { callee:=.value (.func f),args:=args.toArray,argTypes:=ats },type:=ty,pos:=pos,after:=af,guard:=none } k u r H1:=λa w Z K ha hw hK=>by
 refine⟨by simp[Region.wanted],?_⟩;unfold Oper.wp;rw[EC rfl hcall w];refine(hc w Z _ (GQ ha hv) (hw.perm hp).enter).mono ?_;rintro e w' ⟨r',v,H',Z',rfl,hΦ',hr,hs⟩;obtain⟨u',h1,h2,h3⟩:=hΦ r' H' hΦ';subst h2;exact hK u' v w' Z' h1 hs.le hr (h3▸(hw.perm hp).call hs)
end
def Oi (k:Nat)(i:Int)(off:Nat)(Z:Fz)(v:Value):Prop:=if i<0 then v = .pointer none else ∃b,Z.nm k i.toNat=some b∧v = .pointer (some ⟨b,off,none⟩)
def Cw (k:Nat)(i:Int)(off:Nat):Rp:=⟨Oi k i off,fun {Z Z' v} h hp=>by
 unfold Oi at *
 split
 ·rename_i h0;rwa [Z4 h0] at hp
 ·rename_i h0;rw[Zu h0] at hp;obtain⟨b,h1,h2⟩:=hp;exact⟨b,h.nm k _ b h1,h2⟩,true,λ_ Z v hp=>by
 change Oi k i off Z v at hp
 unfold Oi at hp
 split at hp
 ·rw[hp];rfl
 ·obtain⟨b,_,h2⟩:=hp;rw[h2];rfl⟩
@[reducible] def eP (k:Nat) (i:Int):List Rp:=[Cw k i 0]
theorem Je (k:Nat)(i:Int):(eP k i).length=1:=rfl
theorem OP (k:Nat)(i:Int):(eP k i).all (·.one)=true:=rfl
@[reducible] def mP (k:Nat) (i:Int):Rp:=Cw k i 0
theorem Yh (k:Nat)(Z:Fz):(mP k (-1)).p Z (.pointer none):=rfl
theorem Ld.pnil (k:Nat):Ld (rv (.pointer none)) (Cw k (-1) 0):=λZ v h=>h
section
variable {P : Program} {n : Nat} {c : Cx} {ops : Array Oper} {Q : Exit → Act → World → Prop} {rest : List Oper} {l : Fr} {H H' : List Ent} {d : Nat} {d' : Option Nat} {x y : Operand} {ty t t' e : TypeId} {pos : String} {af : Array Edge} {g : Option (Nat × Bool)} {v u : Value} {r : Rp} {sz k : Nat} {pv : Value} {α : Type} [Inhabited α] {xs : List α} {enc : α → List Rp}
theorem Mm {Z:Fz}{w:World}{j off:Nat}{i:Int}(hw:St c H Z w)(hi:H[j]? =some (.pool k pv e (xs.map enc)))(hg:C6 i (xs.length:Int)=true)(hp:(Cw k i off).p Z v) :
  ∃b us,v = .pointer (some ⟨b,off,none⟩)∧(Dv pv)[i.toNat]? =some b∧w.heap[b]? =some (.cells us.toArray e (0,0))∧Bg Z (enc (Ac xs i)) us:=by
 obtain⟨h0,hl,h⟩:=hw.ent hi;have hi0:=(BD hg).1;have hi1:i.toNat<xs.length:=by have:=(BD hg).2;omega
 have hb:i.toNat<(Dv pv).length:=by rw[hl,Zt];exact hi1
 obtain⟨h1,us,h2,h3⟩:=h i.toNat (Dv pv)[i.toNat] (enc xs[i.toNat]) (Zg hb) (by simp[hi1])
 change Oi k i off Z v at hp
 unfold Oi at hp;rw[Zu (by omega)] at hp;obtain⟨b,h4,h5⟩:=hp;rw[h1] at h4;obtain rfl:=Option.some.inj h4;exact⟨_,us,h5,Zg hb,h2,by rw[show Ac xs i=xs[i.toNat] from by simp[Ac,hi1]];exact h3⟩
theorem De {j off:Nat}{i:Int}(hag:∀w,(isAgg t).run P w = .ok false w)(hx:ev l x=some (Cw k i off))(hi:H[j]? =some (.pool k pv e (xs.map enc)))(hg:C6 i (xs.length:Int)=true)(hc:(enc (Ac xs i))[off]? =some r) :
  Br P n c l H { dst:=d',op:=.load t x,type:=ty,pos:=pos,after:=af,guard:=g } r:=λa w Z ha hw=>by
 obtain⟨b,us,e1,_,h1,h2⟩:=Mm hw hi hg (ha.ev hx);obtain⟨u,hu,hp⟩:=h2.at hc;have hcell:w.cell? ⟨b,off,none⟩=some u:=by rw[cell_of_row w b off _ e (0,0) h1];simpa using hu
 exact⟨u,hp,by simp[execOp,e1,Instr.loadAt,Instr.sureAddr,loadVar,hag,hcell]⟩
theorem Lw {j off:Nat}{i:Int}{rs:List Rp}(hag:∀w,(isAgg t).run P w = .ok true w)(hsz:∀w,(sizeOf t).run P w = .ok sz w)(hx:ev l x=some (Cw k i off))(hi:H[j]? =some (.pool k pv e (xs.map enc)))(hg:C6 i (xs.length:Int)=true)
  (hr:((enc (Ac xs i)).drop off).take sz=rs) (hl:rs.length=sz):Br P n c l H { dst:=d',op:=.load t x,type:=ty,pos:=pos,after:=af,guard:=g } (By rs):=λa w Z ha hw=>by
 obtain⟨b,us,e1,_,h1,h2⟩:=Mm hw hi hg (ha.ev hx);have h3:=(h2.drop off).take sz;rw[hr] at h3;have hlen:=h3.length;have h4:=run_loadCells_list (P:=P) w ⟨b,off,none⟩ ((us.drop off).take sz) (λj u hj=>by
  rw[IC,cell_of_row w b _ _ e (0,0) h1];rw[ZJ] at hj
  split at hj
  ·simpa using hj
  ·cases hj)
 rw[hlen,hl] at h4;exact⟨.agg ((us.drop off).take sz).toArray,⟨_,rfl,h3⟩,by simp[execOp,e1,Instr.loadAt,Instr.sureAddr,loadVar,hag,hsz,h4]⟩
theorem Bz {off:Nat}{i:Int}(hx:ev l x=some (Cw k i off))(hg:decide (0≤i)=true):Br P n c l H { dst:=d',op:=.nilCheck x,type:=ty,pos:=pos,after:=af,guard:=g } (Cw k i off):=λa w Z ha hw=>by
 have h:=ha.ev hx;have h':=h
 change Oi k i off Z _ at h
 unfold Oi at h;rw[Zu (by have:=ZQ hg;omega)] at h;obtain⟨b,_,e1⟩:=h;exact⟨a.eval x,h',by simp[execOp,e1]⟩
theorem C9 {off off' i:Nat}{q:Int}{fs:Array Field}{f:Field}(hu:P.underlying t=some (.struct fs))(hf:fs[i]? =some f)(hsz:∀w,(sizeOf f.type).run P w = .ok (sz+1) w)
  (hx:ev l x=some (Cw k q off)) (hg:decide (0≤q)=true) (ho:off+f.offset=off'):Br P n c l H { dst:=d',op:=.fieldAddr t x i,type:=ty,pos:=pos,after:=af,guard:=g } (Cw k q off'):=λa w Z ha hw=>by
 have h:=ha.ev hx
 change Oi k q off Z _ at h
 unfold Oi at h;have h0:=ZQ hg;rw[Zu (by omega)] at h;obtain⟨b,h1,e1⟩:=h;subst ho;refine⟨.pointer (some ⟨b,off+f.offset,none⟩),?_,by simp[execOp,e1,Instr.fieldAt,run_underlying hu,hf,Instr.sureAddr,fieldPlace,hsz,IC]⟩;show Oi k q (off+f.offset) Z _;unfold Oi;rw[Zu (by omega)];exact⟨b,h1,rfl⟩
theorem St.poolset {β:Type}{xs:List β}{enc:β→List Rp}{Z:Fz}{w:World}{j b:Nat}{i:Int}{us us':List Value}{y':β}(hw:St c H Z w)(hi:H[j]? =some (.pool k pv e (xs.map enc)))(hb:(Dv pv)[i.toNat]? =some b)(h1:w.heap[b]? =some (.cells us.toArray e (0,0)))(h2:Bg Z (enc y') us') :
  St c (H.set j (.pool k pv e ((xs.set i.toNat y').map enc))) Z (w.setRow b us'.toArray):=by
 obtain⟨h0,hl,h⟩:=hw.ent hi;have hbl:=(List.getElem?_eq_some_iff.1 hb).1;refine hw.setp hi rfl rfl rfl (by simp[World.setRow]) (λq _ hq=>?_) ⟨h0,by simpa using hl,λi' b' cs h3 h4=>?_⟩ (λq hq=>.inl hq) rfl rfl
 ·have:q≠b:=λe=>hq (by subst e;exact Zk hb);simp only[World.setRow,Array.getElem?_modify];rw[Zu (λe=>this e.symm)]
 ·rw[List.map_set,List.getElem?_set] at h4
  split at h4
  ·rename_i hii
   subst hii
   split at h4
   ·rw[hb] at h3;obtain rfl:=Option.some.inj h3;obtain rfl:=Option.some.inj h4;obtain⟨g1,_⟩:=h i.toNat b _ hb (Zg (by omega));exact⟨g1,us',setRow_heap w b _ _ e (0,0) h1,h2⟩
   ·cases h4
  ·rename_i hii
   obtain⟨g1,vs,g2,g3⟩:=h i' b' cs h3 h4;have hne:b'≠b:=λe=>hii (by
    subst e;have e1:=(List.getElem?_eq_some_iff.1 h3)
    have e2:=(List.getElem?_eq_some_iff.1 hb)
    exact(List.getElem_inj h0).1 (e2.2.trans e1.2.symm))
   refine⟨g1,vs,?_,g3⟩;simp only[World.setRow,Array.getElem?_modify];rw[Zu (λe=>hne e.symm)];exact g2
theorem LT {j off:Nat}{i:Int}{y':α}(hag:∀w,(sizeOf t).run P w = .ok 1 w)(hx:ev l x=some (Cw k i off))(hy:ev l y=some r)(hv:Pb H r)(hi:H[j]? =some (.pool k pv e (xs.map enc)))(hg:C6 i (xs.length:Int)=true)
  (hy':(enc (Ac xs i)).set off r=enc y') (hlt:Nat.blt off (enc (Ac xs i)).length=true) (hH:H.set j (.pool k pv e ((xs.set i.toNat y').map enc))=H') :
  WN P n c l H { dst:=none,op:=.store t x y,type:=ty,pos:=pos,after:=af,guard:=none } H':=λa w Z ha hw=>by
  obtain⟨b,us,e1,hb,h1,h2⟩:=Mm hw hi hg (ha.ev hx);have hr:=ha.ev hy;have hone:=hv c Z w _ hw hr;have hlen:=h2.length;have hlt':off<us.length:=by rw[hlen];simpa using hlt
  have h4:=run_storeCells_at P b off e [a.eval y] 0 us.toArray w h1 (by simp;omega) (by simpa using hone);have hcv:=BK hone;have h3:us.take off++[a.eval y]++us.drop (off+1)=us.set off (a.eval y):=by
   simp[List.set_eq_take_append_cons_drop,hlt']
  simp only[Nat.add_zero,Zj,ZM,ZH] at h4;rw[h3] at h4;refine⟨w.setRow b (us.set off (a.eval y)).toArray,?_,?_⟩
  ·simp[execOp,e1,Instr.storeAt,Instr.sureAddr,storeVar,hag,hcv,h4]
  ·subst hH;exact hw.poolset hi hb h1 (by rw[← hy'];exact h2.set off hr)
theorem Jn {j off:Nat}{i:Int}{y':α}(hag:∀w,(sizeOf t).run P w = .ok 1 w)(hx:ev l x=some (Cw k i off))(hy:ev l y=some r)(hv:Pb H r)(hi:H[j]? =some (.pool k pv e (xs.map enc)))(hg:C6 i (xs.length:Int)=true)
  (hy':(enc (Ac xs i)).set off r=enc y') (hlt:Nat.blt off (enc (Ac xs i)).length=true) (hH:H.set j (.pool k pv e ((xs.set i.toNat y').map enc))=H') (h:WL P n c ops Q rest l H') :
  WL P n c ops Q ({ dst:=none,op:=.store t x y,type:=ty,pos:=pos,after:=af,guard:=none }::rest) l H:=
 Nw λa w Z ha hw=>by
  obtain⟨b,us,e1,hb,h1,h2⟩:=Mm hw hi hg (ha.ev hx);have hr:=ha.ev hy;have hone:=hv c Z w _ hw hr;have hlen:=h2.length;have hlt':off<us.length:=by rw[hlen];simpa using hlt
  have h4:=run_storeCells_at P b off e [a.eval y] 0 us.toArray w h1 (by simp;omega) (by simpa using hone);have hcv:=BK hone;have h3:us.take off++[a.eval y]++us.drop (off+1)=us.set off (a.eval y):=by
   simp[List.set_eq_take_append_cons_drop,hlt']
  simp only[Nat.add_zero,Zj,ZM,ZH] at h4;rw[h3] at h4;refine⟨w.setRow b (us.set off (a.eval y)).toArray,H',?_,?_,h⟩
  ·simp[execOp,e1,Instr.storeAt,Instr.sureAddr,storeVar,hag,hcv,h4]
  ·subst hH;exact hw.poolset hi hb h1 (by rw[← hy'];exact h2.set off hr)
theorem St.adopt0 {Z:Fz}{w:World}{b:Nat}{cs:List Rp}{ys:List (List Rp)}{Hr:List Ent}{pv':Value}(h:St c (.blk b cs e::.pool k pv e ys::Hr) Z w)(hpv:Dv pv'=Dv pv++[b]):∃Z',Fz.le Z Z'∧Z'.nm k ys.length=some b∧St c (.pool k pv' e (ys++[cs])::Hr) Z' w:=by
 obtain⟨us,hb1,hb2⟩:=h.has (.blk b cs e) (by simp);obtain⟨h0,hl,hp⟩:=h.has (.pool k pv e ys) (by simp);have hd:=List.pairwise_cons.1 h.dis;have hd2:=List.pairwise_cons.1 hd.2;have gd:=List.pairwise_cons.1 h.gst.dis;have gd2:=List.pairwise_cons.1 gd.2;have hcap:=h.gst.cap (.pool k pv e ys) (by simp) k (by simp[Ent.gk]);have hksz:=h.gst.sz (.pool k pv e ys) (by simp) k (by simp[Ent.gk]);have hkown:=h.gst.own (.pool k pv e ys) (by simp) k (by simp[Ent.gk])
 let Z':Fz:=⟨Z.f,λq i=>if q=k∧i=ys.length then some b else Z.nm q i⟩
 have hnew:Z'.nm k ys.length=some b:=by simp[Z']
 have hle:Fz.le Z Z':=⟨λ_ _ h=>h,λq i b' hq=>by
  by_cases hqi:q=k∧i=ys.length
  ·obtain⟨rfl,rfl⟩:=hqi;rw[hcap _ (by simp[Ent.gn,hl])] at hq;cases hq
  ·simpa[Z',hqi] using hq⟩
 have hbn:b ∉ Dv pv:=λhbs=>hd.1 (.pool k pv e ys) (by simp) b (by simp[Ent.foot]) hbs;refine⟨Z',hle,hnew,h.os,h.tape,h.output,h.size,h.old,λen he=>?_,λen he q hq=>?_,?_,⟨λb o hb=>h.frz.f b o hb,λq i b' hq=>?_⟩,h.le.trans hle,λb o hb=>h.new b o hb,λen he q hq=>?_,h.emono hle h.env,h.emono,⟨λen he q hq=>?_,λen he q hq=>?_,?_,λq i b' hq=>?_,λen he q hq i hi=>?_⟩⟩
 ·rcases List.mem_cons.1 he with rfl | he
  ·refine⟨by rw[hpv];exact List.nodup_append.2 ⟨h0,by simp,λx hx y hy e=>by simp at hy;subst hy;exact hbn (e▸hx)⟩,by rw[hpv];simp[hl],λi b' cs' h1 h2=>?_⟩
   ·rw[hpv] at h1
    by_cases hi:i<(Dv pv).length
    ·rw[ZS hi] at h1;rw[ZS (by omega)] at h2;obtain⟨g1,vs,g2,g3⟩:=hp i b' cs' h1 h2;exact⟨hle.nm k i b' g1,vs,g2,g3.mono hle⟩
    ·have hi2:i=(Dv pv).length:=by have:=(List.getElem?_eq_some_iff.1 h1).1;simp at this;omega
     subst hi2;simp at h1;subst h1;rw[hl] at h2;simp at h2;subst h2;exact⟨by rw[hl];exact hnew,us,hb1,hb2.mono hle⟩
  ·exact Ent.keep (h.has en (by simp[he])) hle λ_ _=>rfl
 ·rcases List.mem_cons.1 he with rfl | he
  ·rcases List.mem_append.1 (hpv▸(show q∈Dv pv' from hq)) with hq | hq
   ·exact h.own (.pool k pv e ys) (by simp) q hq
   ·simp at hq;subst hq;exact h.own (.blk q cs e) (by simp) q (by simp[Ent.foot])
  ·exact h.own en (by simp[he]) q hq
 ·refine List.pairwise_cons.2 ⟨λen he q hq hq'=>?_,hd2.2⟩;rcases List.mem_append.1 (hpv▸(show q∈Dv pv' from hq)) with hq | hq
  ·exact hd2.1 en he q hq hq'
  ·simp at hq;subst hq;exact hd.1 en (by simp[he]) q (by simp[Ent.foot]) hq'
 ·by_cases hqi:q=k∧i=ys.length
  ·rw[hqi.1];exact hksz
  ·exact h.frz.nm q i b' (by simpa[Z',hqi] using hq)
 ·rcases List.mem_cons.1 he with rfl | he
  ·rcases List.mem_append.1 (hpv▸(show q∈Dv pv' from hq)) with hq | hq
   ·exact h.zdis (.pool k pv e ys) (by simp) q hq
   ·simp at hq;subst hq;exact h.zdis (.blk q cs e) (by simp) q (by simp[Ent.foot])
  ·exact h.zdis en (by simp[he]) q hq
 ·rcases List.mem_cons.1 he with rfl | he
  ·simp[Ent.gk] at hq;subst hq;exact hkown
  ·exact h.gst.own en (by simp[he]) q hq
 ·rcases List.mem_cons.1 he with rfl | he
  ·simp[Ent.gk] at hq;subst hq;exact hksz
  ·exact h.gst.sz en (by simp[he]) q hq
 ·exact List.pairwise_cons.2 ⟨λen he q hq hq'=>gd2.1 en he q hq hq',gd2.2⟩
 ·by_cases hqi:q=k∧i=ys.length
  ·rw[hqi.1];exact .inr hkown
  ·exact h.gst.new q i b' (by simpa[Z',hqi] using hq)
 ·rcases List.mem_cons.1 he with rfl | he
  ·simp[Ent.gk] at hq;subst hq;simp[Ent.gn,hpv] at hi;have : ¬ i=ys.length:=by omega
   simp only[Z',this,and_false,Z8];exact hcap i (by simp[Ent.gn];omega)
  ·have hqk:q≠k:=λe1=>gd2.1 en he k (by simp[Ent.gk]) (e1▸hq);simp only[Z',hqk,false_and,Z8];exact h.gst.cap en (by simp[he]) q hq i hi
theorem St.adopt {Z:Fz}{w:World}{b:Nat}{cs:List Rp}{ys:List (List Rp)}{Hr:List Ent}(h:St c (.blk b cs e::.pool k pv e ys::Hr) Z w):∃Z',Fz.le Z Z'∧Z'.nm k ys.length=some b∧St c (.pool k (Xw (Dv pv++[b])) e (ys++[cs])::Hr) Z' w:=St.adopt0 h (WF _)
theorem Oi.of {Z:Fz}{b N:Nat}(h:Z.nm k N=some b):∀v,(rv (.pointer (some ⟨b,0,none⟩))).p Z v→(Cw k (N:Int) 0).p Z v:=λv hv=>by
 show Oi k N 0 Z v;unfold Oi;rw[Zu (by omega)];exact⟨b,by simpa using h,hv⟩
def V1 (l:Fr)(b:Nat):List Nat→Prop
 | []=>True
 | d::ds=>look l d=some (rv (.pointer (some ⟨b,0,none⟩)))∧V1 l b ds
def XR (k N:Nat):List Nat→Fr→Fr
 | [],l=>l
 | d::ds,l=>(d,Cw k (N:Int) 0)::XR k N ds l
theorem OW {Z:Fz}{a:Act}{b N:Nat}{l:Fr}(ha:CP n l a Z)(hn:Z.nm k N=some b):∀{ds:List Nat},V1 l b ds→CP n (XR k N ds l) a Z
 | [],_=>ha
 | d::ds,⟨h1,h2⟩=>by
  have h3:=OW ha hn h2;refine⟨h3.size,h3.defers,λi u hi=>?_⟩;rw[XR,Ct] at hi
  split at hi
  ·rename_i e;subst e;simp at hi;subst hi
   obtain⟨v,h4,h5⟩:=ha.tm d _ h1;exact⟨v,h4,Oi.of hn v h5⟩
  ·exact h3.tm i u hi
theorem St.adoptE {β:Type}{xs:List β}{enc:β→List Rp}{Z:Fz}{w:World}{b:Nat}{y:β}{Hr:List Ent}{cs:List Rp}(hw:St c H Z w)(hp:H.Perm (.blk b cs e::.pool k pv e (xs.map enc)::Hr))(hcs:cs=enc y) :
  ∃Z' pv',Fz.le Z Z'∧Z'.nm k xs.length=some b∧St c (.pool k pv' e ((xs++[y]).map enc)::Hr) Z' w:=by
 obtain⟨Z',h1,h2,h3⟩:=(hw.perm hp).adopt;subst hcs;rw[Zt] at h2;exact⟨Z',_,h1,h2,by rw[ZO];exact h3⟩
theorem WL.adopt {β:Type}{xs:List β}{enc:β→List Rp}{b:Nat}{y:β}{Hr:List Ent}{cs:List Rp}(hp:H.Perm (.blk b cs e::.pool k pv e (xs.map enc)::Hr))(ds:List Nat)(hd:V1 l b ds)(hcs:cs=enc y)
  (h:∀pv',WL P n c ops Q rest (XR k xs.length ds l) (.pool k pv' e ((xs++[y]).map enc)::Hr)):WL P n c ops Q rest l H:=λa w Z ha hw=>by
 obtain⟨Z',pv',h1,h2,h3⟩:=St.adoptE hw hp hcs;exact h pv' a w Z' (OW (ha.mono h1) h2 hd) h3
theorem WC.adopt {β:Type}{xs:List β}{enc:β→List Rp}{b:Nat}{y:β}{Hr:List Ent}{cs:List Rp}{xx:Code}(hp:H.Perm (.blk b cs e::.pool k pv e (xs.map enc)::Hr))(ds:List Nat)(hd:V1 l b ds)(hcs:cs=enc y)
  (h:∀pv',WC P n c xx Q (XR k xs.length ds l) (.pool k pv' e ((xs++[y]).map enc)::Hr)):WC P n c xx Q l H:=λa w Z ha hw=>by
 obtain⟨Z',pv',h1,h2,h3⟩:=St.adoptE hw hp hcs;exact h pv' a w Z' (OW (ha.mono h1) h2 hd) h3
theorem WK.adopt {β:Type}{xs:List β}{enc:β→List Rp}{b:Nat}{y:β}{Hr:List Ent}{cs:List Rp}{K:Act→World→Prop}(hp:H.Perm (.blk b cs e::.pool k pv e (xs.map enc)::Hr))(ds:List Nat)(hd:V1 l b ds)(hcs:cs=enc y)
  (h:∀pv',WK n c K (XR k xs.length ds l) (.pool k pv' e ((xs++[y]).map enc)::Hr)):WK n c K l H:=λa w Z ha hw=>by
 obtain⟨Z',pv',h1,h2,h3⟩:=St.adoptE hw hp hcs;exact h pv' a w Z' (OW (ha.mono h1) h2 hd) h3
theorem Jg:Dv (.tuple #[])=[]:=rfl
theorem IG (hn:Nat.blt d n=true)(h:∀b,WL P n c ops Q rest ((d,rv (.map (some b)))::l) (.pool b (.tuple #[]) e []::.map b []::H)) :
  WL P n c ops Q ({ dst:=some d,op:=.makeMap t none,type:=ty,pos:=pos,after:=af,guard:=none }::rest) l H:=
 JN (λa w Z ha hw=>by
  have h1:=hw.alloc (.map #[] 0) (e:=.map w.heap.size []) ⟨#[],0,by simpa using heap_alloc_new w _,by simp,by simp,by simp,[],Zb _,trivial⟩ rfl;refine⟨_,w.alloc (.map #[] 0),_,_,Z,by simp[execOp,run_makeMap],Fz.le.refl _,rfl,?_,h w.heap.size⟩;have hz:∀i,Z.nm w.heap.size i=none:=λi=>by
   cases hq:Z.nm w.heap.size i with
   | none=>rfl
   | some b=>have:=hw.frz.nm _ _ _ hq;omega
  have hold:∀en∈(Ent.map w.heap.size []::H),∀q∈en.gk,q<w.heap.size:=λen he q hq=>by
   rcases List.mem_cons.1 he with rfl | he
   ·simp[Ent.gk] at hq
   ·exact hw.gst.sz en he q hq
  refine { h1 with has:=λen he=>?_,own:=λen he q hq=>?_,dis:=List.pairwise_cons.2 ⟨λen he q hq=>by simp[Ent.foot,Jg] at hq,h1.dis⟩,zdis:=λen he q hq=>?_,gst:=⟨λen he q hq=>?_,λen he q hq=>?_,List.pairwise_cons.2 ⟨λen he q hq hq'=>?_,h1.gst.dis⟩,h1.gst.new,λen he q hq i hi=>?_⟩ }
  ·rcases List.mem_cons.1 he with rfl | he
   ·exact⟨by simp[Jg],by simp[Jg],by simp⟩
   ·exact h1.has en he
  ·rcases List.mem_cons.1 he with rfl | he
   ·simp[Ent.foot,Jg] at hq
   ·exact h1.own en he q hq
  ·rcases List.mem_cons.1 he with rfl | he
   ·simp[Ent.foot,Jg] at hq
   ·exact h1.zdis en he q hq
  ·rcases List.mem_cons.1 he with rfl | he
   ·simp[Ent.gk] at hq;subst hq;exact .inl hw.size
   ·exact h1.gst.own en he q hq
  ·rcases List.mem_cons.1 he with rfl | he
   ·simp[Ent.gk] at hq;subst hq;simp
   ·exact h1.gst.sz en he q hq
  ·simp[Ent.gk] at hq;subst hq;have:=hold en he _ hq';omega
  ·rcases List.mem_cons.1 he with rfl | he
   ·simp[Ent.gk] at hq;subst hq;exact hz i
   ·exact h1.gst.cap en he q hq i hi) hn
end
set_option maxRecDepth 100000
set_option maxHeartbeats 4000000
@[reducible] def Ab (x:Ay):List Rp:=[rS x.fID,rS x.fTenant,rS x.fSource,rS x.fKey,rI .i64 x.fAt,rS x.fCause,Bo 4 (List.map Al x.fBody)]
theorem CB (x:Ay):(Ab x).length=7:=rfl
theorem Ge (x:Ay):(Ab x).all (·.one)=true:=rfl
@[reducible] def Ai (x:Ad):List Rp:=[rS x.fEvent.fID,rS x.fEvent.fTenant,rS x.fEvent.fSource,rS x.fEvent.fKey,rI .i64 x.fEvent.fAt,rS x.fEvent.fCause,Bo 4 (List.map Al x.fEvent.fBody),rI .i64 x.fAt,rI .i64 x.fReceives,rB x.fHeld,rI .i64 x.fPlace]
theorem X5:∃inf,Tryz.prog.info? 95=some inf∧inf.zero=some (.agg #[(.int .i64 0),(.int .i64 0),(.string ⟨#[]⟩),(.int .i64 0)])∧inf.size=4∧inf.bytes=40:=by
  have key:(Tryz.prog.info? 95).map (λi=>(i.zero,i.size,i.bytes))=some (some (.agg #[(.int .i64 0),(.int .i64 0),(.string ⟨#[]⟩),(.int .i64 0)]),4,40):=by kernel_rfl
  obtain⟨inf,h1,h2⟩:=Option.map_eq_some_iff.1 key;simp only[Prod.mk.injEq] at h2;exact⟨inf,h1,h2.1,h2.2.1,h2.2.2⟩
theorem Vn (ys:(List Au))(r:(List Au))(h:OR ys=some r):Fn Tryz.prog GE 66 [Bo 4 (List.map Al ys)] [] (λR H=>R=Bo 4 (List.map Al r)∧H=[]):=by
 refine enter (n:=8) Tryz.func66 Aa Tryz.ntmps66 Aa (λw Z=>?_);refine Bd (l':=[(0,Bo 4 (List.map Al ys))]) (H':=[]) Aa Aa ?_;unfold OR at h;refine As (wv (r:=rv (.slice none 0 0)) (Aj Aa) (A0 (Av (As (wm Aa (wv (Ti DW Aa) (A0 (TP Aa (λc1=>?_) (λc1=>?_)))))))))
 ·have e2:ys=[]:=List.map_eq_nil_iff.1 (c1 rfl);have h3:some ([]:List Au)=some r:=by rw[e2] at h;exact(AA h).2
  refine As (wv (r:=rv (.slice none 0 0)) (Aj Aa) (A0 (A1 (Am (WK.up (d:=2) (r:=Bo 4 (List.map Al ([]:List Au))) Aa (Up.le (Ld.nil _)) ?_)))));obtain rfl:=A6 h3;exact A4 (B8 Tryz.results66 (AW Aa)) sN ⟨Aa,Aa⟩
 ·refine A5 (Bb (As (C4 (ys:=([]:List Au)) (enc:=Al) (css:=[]) (xs:=[]) DW E1 Sq Aa Aa Aa trivial Aa Gx Aa Aa Aa (λb4=>?_))));refine wm Aa ?_;obtain⟨g6,h7⟩:=AA h;obtain⟨inf,hinf⟩:=X5;refine D1 (xs:=([]:List Au)) (ys:=ys) (enc:=Al) (i:=0) DW hinf.1 hinf.2.1 hinf.2.2.1 hinf.2.2.2 Aa Aa Aa Aa Aa (Mz.z Aa Aa) Gx N3 g6 Aa (λv5=>?_);refine wa Aa (A0 (A1 (WK.freeze (i:=0) Aa (WK.up (d:=2) (r:=Bo 4 (List.map Al (([]:List Au)++ys))) Aa (Up.fact (i:=0) Aa) ?_))));obtain rfl:=A6 h7;exact A4 (B8 Tryz.results66 (AW Aa)) (sS sN) ⟨Aa,Aa⟩
theorem Tv (c:Int)(r:Bool)(h:OI c=some r):Fn Tryz.prog GE 124 [rI .u8 c] [] (λR H=>R=rB r∧H=[]):=by
 refine enter (n:=9) Tryz.func124 Aa Tryz.ntmps124 Aa (λw Z=>?_);refine Bd (l':=[(0,rI .u8 c)]) (H':=[]) Aa Aa ?_;unfold OI at h;refine As (wv (r:=rB false) (Aj Aa) (A0 (AD [(2,rB ((decide (97≤c))&&(decide (c≤122))))] [] ?_ ?_)))
 ·refine Ao (wm Aa (wv (Gk Aa Aa) (wm Aa (AG (decide (97≤c)) (λc1=>?_) (λc1=>?_)))))
  ·refine wo c1 (wm Aa (wo c1 (wv (GG Aa Aa) (ER Aa c1 Aa (wa Aa (Ap ?_))))));exact BL c1
  ·refine wf c1 (wf c1 (wv (r:=rB false) (A7 (b:=decide (97≤c)) Aa c1 Aa) (wa Aa (Ap ?_))));exact BL c1
 refine A1 ?_;obtain rfl:=A6 h;exact A4 (B8 Tryz.results124 (AW Aa)) sN ⟨Aa,Aa⟩
theorem NT (c:Int)(r:Bool)(h:Mu c=some r):Fn Tryz.prog GE 125 [rI .u8 c] [] (λR H=>R=rB r∧H=[]):=by
 refine enter (n:=9) Tryz.func125 Aa Tryz.ntmps125 Aa (λw Z=>?_);refine Bd (l':=[(0,rI .u8 c)]) (H':=[]) Aa Aa ?_;unfold Mu at h;refine As (wv (r:=rB false) (Aj Aa) (A0 (AD [(2,rB ((decide (48≤c))&&(decide (c≤57))))] [] ?_ ?_)))
 ·refine Ao (wm Aa (wv (Gk Aa Aa) (wm Aa (AG (decide (48≤c)) (λc1=>?_) (λc1=>?_)))))
  ·refine wo c1 (wm Aa (wo c1 (wv (GG Aa Aa) (ER Aa c1 Aa (wa Aa (Ap ?_))))));exact BL c1
  ·refine wf c1 (wf c1 (wv (r:=rB false) (A7 (b:=decide (48≤c)) Aa c1 Aa) (wa Aa (Ap ?_))));exact BL c1
 refine A1 ?_;obtain rfl:=A6 h;exact A4 (B8 Tryz.results125 (AW Aa)) sN ⟨Aa,Aa⟩
theorem UW (c:Int)(r:Bool)(h:OJ c=some r):Fn Tryz.prog GE 104 [rI .u8 c] [] (λR H=>R=rB r∧H=[]):=by
 refine enter (n:=37) Tryz.func104 Aa Tryz.ntmps104 Aa (λw Z=>?_);refine Bd (l':=[(0,rI .u8 c)]) (H':=[]) Aa Aa ?_;unfold OJ at h;refine As (wv (r:=rB false) (Aj Aa) (A0 (Ds (S:=(Bool)×(Unit)) (λσ=>Cu σ.1=some r) (λσ=>[(2,rB σ.1)]) (λσ=>[]) ?_ ?_)))
 ·refine Ao (wm Aa ?_);obtain⟨ho,h5,hq⟩:=AX h;refine Dw Tryz.call124 (Tv c ho h5) Aa (wm Aa (AG (ho) (λc53=>?_) (λc53=>?_)))
  ·have h6:=AM c53 hq;refine wf c53 (wf c53 (wf c53 (wu (wu (wf c53 (wv (r:=rB true) (Ar (b:=ho) Aa c53 Aa) (wm Aa (Ak (b:=true) Aa Aa Aa Aa (Ak (b:=true) Aa Aa Aa Aa (wv (r:=rB true) (Ar (b:=true) Aa Aa Aa) (wm Aa (Ak (b:=true) Aa Aa Aa Aa (Ak (b:=true) Aa Aa Aa Aa (wv (r:=rB true) (Ar (b:=true) Aa Aa Aa) (wm Aa (Ak (b:=true) Aa Aa Aa Aa (Ak (b:=true) Aa Aa Aa Aa (wv (r:=rB true) (Ar (b:=true) Aa Aa Aa) (wm Aa (Ak (b:=true) Aa Aa Aa Aa (Ak (b:=true) Aa Aa Aa Aa (wv (r:=rB true) (Ar (b:=true) Aa Aa Aa) (wm Aa ?_)))))))))))))))))))))));exact Ak (b:=true) Aa Aa Aa Aa (Ak (b:=true) Aa Aa Aa Aa (wv (r:=rB true) (Ar (b:=true) Aa Aa Aa) (wm Aa (Ak (b:=true) Aa Aa Aa Aa (Ak (b:=true) Aa Aa Aa Aa (wv (r:=rB true) (Ar (b:=true) Aa Aa Aa) (wa Aa (Ap (Az (AJ (true,()) h6 (AT.c Aa AT.nil) sN))))))))))
  ·have hr:=AN c53 hq;refine wo c53 (wm Aa (wo c53 (wv (Gk Aa Aa) (wo c53 (wm Aa (AG (decide (65≤c)) (λha=>?_) (λha=>?_)))))))
   ·have hs:=AM ha hr;refine wo ha (wm Aa (wo ha (wv (GG Aa Aa) (wo c53 (ER Aa ha Aa (Dy Aa c53 Aa (wm Aa (AG (decide (c≤90)) (λhb=>?_) (λhb=>?_)))))))))
    ·have h7:=AM hb hs;refine wf hb (wf hb (wv (r:=rB true) (Ar (b:=decide (c≤90)) Aa hb Aa) (wm Aa (Ak (b:=true) Aa Aa Aa Aa (Ak (b:=true) Aa Aa Aa Aa (wv (r:=rB true) (Ar (b:=true) Aa Aa Aa) (wm Aa (Ak (b:=true) Aa Aa Aa Aa (Ak (b:=true) Aa Aa Aa Aa (wv (r:=rB true) (Ar (b:=true) Aa Aa Aa) (wm Aa (Ak (b:=true) Aa Aa Aa Aa (Ak (b:=true) Aa Aa Aa Aa (wv (r:=rB true) (Ar (b:=true) Aa Aa Aa) (wm Aa (Ak (b:=true) Aa Aa Aa Aa (Ak (b:=true) Aa Aa Aa Aa (wv (r:=rB true) (Ar (b:=true) Aa Aa Aa) (wm Aa (Ak (b:=true) Aa Aa Aa Aa (Ak (b:=true) Aa Aa Aa Aa (wv (r:=rB true) (Ar (b:=true) Aa Aa Aa) (wa Aa ?_)))))))))))))))))))))));exact Ap (Az (AJ (true,()) h7 (AT.c Aa AT.nil) sN))
    ·have h8:=AN hb hs;refine wo hb (wm Aa (wo hb ?_));obtain⟨hp,h9,ht⟩:=AX h8;refine Dw Tryz.call125 (NT c hp h9) Aa (Dy Aa hb Aa (wm Aa (AG (hp) (λhd=>?_) (λhd=>?_))))
     ·have hA:=AM hd ht;exact wf hd (wf hd (wv (r:=rB true) (Ar (b:=hp) Aa hd Aa) (wm Aa (Ak (b:=true) Aa Aa Aa Aa (Ak (b:=true) Aa Aa Aa Aa (wv (r:=rB true) (Ar (b:=true) Aa Aa Aa) (wm Aa (Ak (b:=true) Aa Aa Aa Aa (Ak (b:=true) Aa Aa Aa Aa (wv (r:=rB true) (Ar (b:=true) Aa Aa Aa) (wm Aa (Ak (b:=true) Aa Aa Aa Aa (Ak (b:=true) Aa Aa Aa Aa (wv (r:=rB true) (Ar (b:=true) Aa Aa Aa) (wm Aa (Ak (b:=true) Aa Aa Aa Aa (Ak (b:=true) Aa Aa Aa Aa (wv (r:=rB true) (Ar (b:=true) Aa Aa Aa) (wa Aa (Ap (Az (AJ (true,()) hA (AT.c Aa AT.nil) sN))))))))))))))))))))))
     ·have hu:=AN hd ht;refine wo hd (wm Aa (wo hd (wv (Bq Aa Aa) (Dy Aa hd Aa (wm Aa (AG (decide (c=45)) (λhe=>?_) (λhe=>?_)))))))
      ·have hB:=AM he hu;exact wf he (wf he (wv (r:=rB true) (Ar (b:=decide (c=45)) Aa he Aa) (wm Aa (Ak (b:=true) Aa Aa Aa Aa (Ak (b:=true) Aa Aa Aa Aa (wv (r:=rB true) (Ar (b:=true) Aa Aa Aa) (wm Aa (Ak (b:=true) Aa Aa Aa Aa (Ak (b:=true) Aa Aa Aa Aa (wv (r:=rB true) (Ar (b:=true) Aa Aa Aa) (wm Aa (Ak (b:=true) Aa Aa Aa Aa (Ak (b:=true) Aa Aa Aa Aa (wv (r:=rB true) (Ar (b:=true) Aa Aa Aa) (wa Aa (Ap (Az (AJ (true,()) hB (AT.c Aa AT.nil) sN))))))))))))))))))
      ·have hw:=AN he hu;refine wo he (wm Aa (wo he (wv (Bq Aa Aa) (Dy Aa he Aa (wm Aa (AG (decide (c=95)) (λhf=>?_) (λhf=>?_)))))))
       ·have hC:=AM hf hw;exact wf hf (wf hf (wv (r:=rB true) (Ar (b:=decide (c=95)) Aa hf Aa) (wm Aa (Ak (b:=true) Aa Aa Aa Aa (Ak (b:=true) Aa Aa Aa Aa (wv (r:=rB true) (Ar (b:=true) Aa Aa Aa) (wm Aa (Ak (b:=true) Aa Aa Aa Aa (Ak (b:=true) Aa Aa Aa Aa (wv (r:=rB true) (Ar (b:=true) Aa Aa Aa) (wa Aa (Ap (Az (AJ (true,()) hC (AT.c Aa AT.nil) sN))))))))))))))
       ·have hx:=AN hf hw;refine wo hf (wm Aa (wo hf (wv (Bq Aa Aa) (Dy Aa hf Aa (wm Aa (AG (decide (c=46)) (λhg=>?_) (λhg=>?_)))))))
        ·have hD:=AM hg hx;exact wf hg (wf hg (wv (r:=rB true) (Ar (b:=decide (c=46)) Aa hg Aa) (wm Aa (Ak (b:=true) Aa Aa Aa Aa (Ak (b:=true) Aa Aa Aa Aa (wv (r:=rB true) (Ar (b:=true) Aa Aa Aa) (wa Aa (Ap (Az (AJ (true,()) hD (AT.c Aa AT.nil) sN))))))))))
        ·have hy:=AN hg hx;refine wo hg (wm Aa (wo hg (wv (Bq Aa Aa) (Dy Aa hg Aa (wm Aa (AG (decide (c=58)) (λc76=>?_) (λc76=>?_)))))))
         ·have hE:=AM c76 hy;exact wf c76 (wf c76 (wv (r:=rB true) (Ar (b:=decide (c=58)) Aa c76 Aa) (wa Aa (Ap (Az (AJ (true,()) hE (AT.c Aa AT.nil) sN))))))
         ·have hG:=AN c76 hy;exact wo c76 (wm Aa (wo c76 (wv (Bq Aa Aa) (Dy Aa c76 Aa (wa Aa (Ap (Az (AJ (decide (c=47),()) hG (AT.c Aa AT.nil) sN))))))))
   ·have hH:=AN ha hr;refine wf ha (wf ha (wo c53 (wv (r:=rB false) (A7 (b:=decide (65≤c)) Aa ha Aa) (Dy Aa c53 Aa (wm Aa (Be (b:=false) Aa Aa Aa (wm Aa (Be (b:=false) Aa Aa Aa ?_))))))));obtain⟨hm,hI,hz⟩:=AX hH;refine Dw Tryz.call125 (NT c hm hI) Aa (wv (r:=rB hm) (A7 (b:=false) Aa Aa Aa) (wm Aa (AG (hm) (λhh=>?_) (λhh=>?_))))
    ·have hJ:=AM hh hz;exact wf hh (wf hh (wv (r:=rB true) (Ar (b:=hm) Aa hh Aa) (wm Aa (Ak (b:=true) Aa Aa Aa Aa (Ak (b:=true) Aa Aa Aa Aa (wv (r:=rB true) (Ar (b:=true) Aa Aa Aa) (wm Aa (Ak (b:=true) Aa Aa Aa Aa (Ak (b:=true) Aa Aa Aa Aa (wv (r:=rB true) (Ar (b:=true) Aa Aa Aa) (wm Aa (Ak (b:=true) Aa Aa Aa Aa (Ak (b:=true) Aa Aa Aa Aa (wv (r:=rB true) (Ar (b:=true) Aa Aa Aa) (wm Aa (Ak (b:=true) Aa Aa Aa Aa (Ak (b:=true) Aa Aa Aa Aa (wv (r:=rB true) (Ar (b:=true) Aa Aa Aa) (wa Aa (Ap (Az (AJ (true,()) hJ (AT.c Aa AT.nil) sN))))))))))))))))))))))
    ·have h0:=AN hh hz;refine wo hh (wm Aa (wo hh (wv (Bq Aa Aa) (Dy Aa hh Aa (wm Aa (AG (decide (c=45)) (λhi=>?_) (λhi=>?_)))))))
     ·have hK:=AM hi h0;exact wf hi (wf hi (wv (r:=rB true) (Ar (b:=decide (c=45)) Aa hi Aa) (wm Aa (Ak (b:=true) Aa Aa Aa Aa (Ak (b:=true) Aa Aa Aa Aa (wv (r:=rB true) (Ar (b:=true) Aa Aa Aa) (wm Aa (Ak (b:=true) Aa Aa Aa Aa (Ak (b:=true) Aa Aa Aa Aa (wv (r:=rB true) (Ar (b:=true) Aa Aa Aa) (wm Aa (Ak (b:=true) Aa Aa Aa Aa (Ak (b:=true) Aa Aa Aa Aa (wv (r:=rB true) (Ar (b:=true) Aa Aa Aa) (wa Aa (Ap (Az (AJ (true,()) hK (AT.c Aa AT.nil) sN))))))))))))))))))
     ·have h1:=AN hi h0;refine wo hi (wm Aa (wo hi (wv (Bq Aa Aa) (Dy Aa hi Aa (wm Aa (AG (decide (c=95)) (λhj=>?_) (λhj=>?_)))))))
      ·have hL:=AM hj h1;exact wf hj (wf hj (wv (r:=rB true) (Ar (b:=decide (c=95)) Aa hj Aa) (wm Aa (Ak (b:=true) Aa Aa Aa Aa (Ak (b:=true) Aa Aa Aa Aa (wv (r:=rB true) (Ar (b:=true) Aa Aa Aa) (wm Aa (Ak (b:=true) Aa Aa Aa Aa (Ak (b:=true) Aa Aa Aa Aa (wv (r:=rB true) (Ar (b:=true) Aa Aa Aa) (wa Aa (Ap (Az (AJ (true,()) hL (AT.c Aa AT.nil) sN))))))))))))))
      ·have h2:=AN hj h1;refine wo hj (wm Aa (wo hj (wv (Bq Aa Aa) (Dy Aa hj Aa (wm Aa (AG (decide (c=46)) (λhk=>?_) (λhk=>?_)))))))
       ·have hN:=AM hk h2;exact wf hk (wf hk (wv (r:=rB true) (Ar (b:=decide (c=46)) Aa hk Aa) (wm Aa (Ak (b:=true) Aa Aa Aa Aa (Ak (b:=true) Aa Aa Aa Aa (wv (r:=rB true) (Ar (b:=true) Aa Aa Aa) (wa Aa (Ap (Az (AJ (true,()) hN (AT.c Aa AT.nil) sN))))))))))
       ·have h3:=AN hk h2;refine wo hk (wm Aa (wo hk (wv (Bq Aa Aa) (Dy Aa hk Aa (wm Aa (AG (decide (c=58)) (λhl=>?_) (λhl=>?_)))))))
        ·have hO:=AM hl h3;exact wf hl (wf hl (wv (r:=rB true) (Ar (b:=decide (c=58)) Aa hl Aa) (wa Aa (Ap (Az (AJ (true,()) hO (AT.c Aa AT.nil) sN))))))
        ·have hP:=AN hl h3;exact wo hl (wm Aa (wo hl (wv (Bq Aa Aa) (Dy Aa hl Aa (wa Aa (Ap (Az (AJ (decide (c=47),()) hP (AT.c Aa AT.nil) sN))))))))
 ·rintro⟨h4,⟨⟩⟩ hn;refine Bd (l':=[(2,rB h4)]) (H':=[]) Aa Aa ?_;replace hn:Cu h4=some r:=hn;unfold Cu at hn;refine A1 ?_;obtain rfl:=A6 hn;exact A4 (B8 Tryz.results104 (AW Aa)) sN ⟨Aa,Aa⟩
theorem OK (F:Nat)(s:AE)(r:Bool)(h:DL F s=some r):Fn Tryz.prog GE 83 [rS s] [] (λR H=>R=rB r∧H=[]):=by
 refine enter (n:=23) Tryz.func83 Aa Tryz.ntmps83 Aa (λw Z=>?_);refine Bd (l':=[(0,rS s)]) (H':=[]) Aa Aa ?_;unfold DL at h;refine As (wv (r:=rB false) (Aj Aa) (A0 (Av (AD [(0,rS s),(11,rB ((decide ((s.length:Int)<1))||(decide (64<(s.length:Int)))))] [] ?_ ?_))))
 ·refine Ao (wm Aa (wv (BJ Eo Aa) (wv (Cm Aa Aa) (wm Aa (AG (decide ((s.length:Int)<1)) (λc1=>?_) (λc1=>?_))))))
  ·refine wf c1 (wf c1 (wf c1 (wv (r:=rB true) (Ar (b:=decide ((s.length:Int)<1)) Aa c1 Aa) (Ap ?_))));exact BL c1
  ·refine wo c1 (wm Aa (wo c1 (wv (BJ Eo Aa) (wo c1 (wv (C3 Aa Aa) (Dy Aa c1 Aa (Ap ?_)))))));exact BL c1
 refine A2 (b:=((decide ((s.length:Int)<1))||(decide (64<(s.length:Int))))) Aa (λc2=>?_) (λc2=>?_)
 ·have h3:=AM c2 h;refine As (wv (r:=rB false) (Aj Aa) (A0 (A1 (Am ?_))));obtain rfl:=A6 h3;exact A4 (B8 Tryz.results83 (AW Aa)) sN ⟨Aa,Aa⟩
 ·have h4:=AN c2 h;refine A5 (Bb (Av (As (wv (r:=rI .i64 0) (Aj Aa) (A0 (AV ?_))))));obtain⟨hj,hk,hg⟩:=AX h4;refine B6 (S:=Nat×(Int)×(Unit)) (V:=(Unit)×(Unit)) 0 (λσ=>BS (λσ=>GP s σ) σ.1 σ.2.1=some hj) (λσ=>[(0,rS s),(3,rI .i64 σ.2.1)]) (λσ=>[]) (λσ=>σ.1) (F,0,()) hk (AT.c Aa (AT.c Aa AT.nil)) sN (λσ=>Mr =some r) (λσ=>[]) (λσ=>[]) ?_ ?_
  ·rintro⟨h1,ha,⟨⟩⟩ hl;refine Bd (l':=[(0,rS s),(3,rI .i64 ha)]) (H':=[]) Aa Aa ?_;obtain⟨hm,rfl,hn,hb,he⟩:=Df hl;replace hb:GP s ha=some hn:=hb;unfold GP at hb;refine Av (As (wm Aa (wm Aa (wv (BJ Eo Aa) (wv (Cm Aa Aa) (A0 (A2 (b:=decide (ha<(s.length:Int))) Aa (λc53=>?_) (λc53=>?_))))))))
   ·have ho:=AM c53 hb;refine A5 (Bb (Av (AV (As (wm Aa (wm Aa ?_))))));obtain⟨hp,hq⟩:=AA ho;refine wv (BT Eo Aa Aa hp) ?_;obtain⟨hh,hr,hi⟩:=AX hq;refine Dw Tryz.call104 (UW (Cr s ha) hh hr) Aa (wv (BW Aa) (A0 (A2 (b:=!hh) Aa (λhf=>?_) (λhf=>?_))))
    ·have hs:=AM hf hi;refine As (wv (r:=rB false) (Aj Aa) (A0 (A1 (AK (Am (Am (Bw ?_)))))));have ht:=Cc hs he hg;refine AK (Am ?_);obtain rfl:=A6 ht;exact A4 (B8 Tryz.results83 (AW Aa)) sN ⟨Aa,Aa⟩
    ·have hu:=AN hf hi;refine A5 (Ba (Bb (Ao (wm Aa ?_))));obtain⟨hw,hx⟩:=AA hu;refine wv (Bv Aa Aa hw) (wa Aa (Ap ?_));have hy:=Bx hx he;exact Az (AJ (hm,ha+1,()) ⟨hy,Zo _⟩ (AT.c Aa (AT.c Aa AT.nil)) sN)
   ·have hz:=AN c53 hb;refine B2 (A8 ?_);have h0:=Cn hz he hg;exact A8 (Bj (AJ ((),()) h0 AT.nil sN))
  ·rintro⟨⟨⟩,⟨⟩⟩ hd;refine C7 (l':=[]) (H':=[]) Aa Aa ?_;replace hd:Mr =some r:=hd;unfold Mr at hd;refine Bh (Bb (As (wv (r:=rB true) (Aj Aa) (A0 (A1 ?_)))));obtain rfl:=A6 hd;exact A4 (B8 Tryz.results83 (AW Aa)) sN ⟨Aa,Aa⟩
theorem Vk (F:Nat)(e:Ay)(r:Int)(h:Jf F e=some r):Fn Tryz.prog GE 58 [By (Ab e)] [] (λR H=>R=rI .i64 r∧H=[]):=by
 refine enter (n:=52) Tryz.func58 Aa Tryz.ntmps58 Aa (λw Z=>?_);refine Bd (l':=[(0,By (Ab e))]) (H':=[]) Aa Aa ?_;unfold Jf at h;refine As (BF Aa Aa (λb1=>?_));refine wv (r:=rI .i64 0) (Aj Aa) (A0 (Av (AD [(1,rv (.pointer (some ⟨b1,0,none⟩))),(40,rB ((!(E0 e.fID))||((!(E0 e.fTenant))||((!(E0 e.fSource))||(bif !decide (e.fKey=([]:AE)) then((!(E0 e.fKey))||((!decide (e.fCause=([]:AE)))&&(!(E0 e.fCause)))) else((!decide (e.fCause=([]:AE)))&&(!(E0 e.fCause))))))))] [.blk b1 (Ab e) 33] ?_ ?_)))
 ·refine Ao (wv (Af C1 Aa Dq Aa Aa) (wv (Ax (i:=0) Dr Aa Aa Aa) (DS (rs:=[rS e.fID]) (r:=rB (E0 e.fID)) S3 Aa (Tu e.fID) Aa Aa (wv (BW Aa) (wm Aa (AG (!(E0 e.fID)) (λc2=>?_) (λc2=>?_)))))))
  ·refine wf c2 (wf c2 (wf c2 (wf c2 (wv (r:=rB true) (Ar (b:=!(E0 e.fID)) Aa c2 Aa) (wm Aa (Ak (b:=true) Aa Aa Aa Aa (Ak (b:=true) Aa Aa Aa Aa (Ak (b:=true) Aa Aa Aa Aa (Ak (b:=true) Aa Aa Aa Aa (wv (r:=rB true) (Ar (b:=true) Aa Aa Aa) (wm Aa (Ak (b:=true) Aa Aa Aa Aa (Ak (b:=true) Aa Aa Aa Aa (Ak (b:=true) Aa Aa Aa Aa (Ak (b:=true) Aa Aa Aa Aa (wu (wu (wu (wu (Ak (b:=true) Aa Aa Aa Aa (wv (r:=rB true) (Ar (b:=true) Aa Aa Aa) (wm Aa (Ak (b:=true) Aa Aa Aa Aa ?_)))))))))))))))))))))));refine Ak (b:=true) Aa Aa Aa Aa (Ak (b:=true) Aa Aa Aa Aa (Ak (b:=true) Aa Aa Aa Aa (wu (wu (wu (wu (Ak (b:=true) Aa Aa Aa Aa (wv (r:=rB true) (Ar (b:=true) Aa Aa Aa) (Ap ?_)))))))));exact BL c2
  ·refine wo c2 (wv (Af C1 Aa Dq Aa Aa) (wo c2 (wv (Ax (i:=0) Dr Aa Aa Aa) (wo c2 (DS (rs:=[rS e.fTenant]) (r:=rB (E0 e.fTenant)) S3 Aa (Tu e.fTenant) Aa Aa (wo c2 (wv (BW Aa) (Dy Aa c2 Aa (wm Aa (AG (!(E0 e.fTenant)) (λc3=>?_) (λc3=>?_)))))))))))
   ·refine wf c3 (wf c3 (wf c3 (wf c3 (wv (r:=rB true) (Ar (b:=!(E0 e.fTenant)) Aa c3 Aa) (wm Aa (Ak (b:=true) Aa Aa Aa Aa (Ak (b:=true) Aa Aa Aa Aa (Ak (b:=true) Aa Aa Aa Aa (Ak (b:=true) Aa Aa Aa Aa (wu (wu (wu (wu (Ak (b:=true) Aa Aa Aa Aa (wv (r:=rB true) (Ar (b:=true) Aa Aa Aa) (wm Aa (Ak (b:=true) Aa Aa Aa Aa (Ak (b:=true) Aa Aa Aa Aa (Ak (b:=true) Aa Aa Aa Aa (Ak (b:=true) Aa Aa Aa Aa (wu (wu (wu ?_)))))))))))))))))))))));refine wu (Ak (b:=true) Aa Aa Aa Aa (wv (r:=rB true) (Ar (b:=true) Aa Aa Aa) (Ap ?_)));exact BL (And.intro c2 c3)
   ·refine wo c3 (wv (Af C1 Aa Dq Aa Aa) (wo c3 (wv (Ax (i:=0) Dr Aa Aa Aa) (wo c3 (DS (rs:=[rS e.fSource]) (r:=rB (E0 e.fSource)) S3 Aa (Tu e.fSource) Aa Aa (wo c3 (wv (BW Aa) (Dy Aa c3 Aa (wm Aa (AG (!(E0 e.fSource)) (λc4=>?_) (λc4=>?_)))))))))))
    ·refine wf c4 (wf c4 (wf c4 (wf c4 (wu (wu (wu (wu (wf c4 (wv (r:=rB true) (Ar (b:=!(E0 e.fSource)) Aa c4 Aa) (wm Aa (Ak (b:=true) Aa Aa Aa Aa (Ak (b:=true) Aa Aa Aa Aa (Ak (b:=true) Aa Aa Aa Aa (Ak (b:=true) Aa Aa Aa Aa (wu (wu (wu (wu (Ak (b:=true) Aa Aa Aa Aa (wv (r:=rB true) (Ar (b:=true) Aa Aa Aa) (Ap ?_)))))))))))))))))))));exact BL (And.intro c2 (And.intro c3 c4))
    ·refine wo c4 (wv (Af C1 Aa Dq Aa Aa) (wo c4 (wv (Ax (i:=0) Dr Aa Aa Aa) (wo c4 (wv (LK Aa Aa) (wo c4 (wm Aa (AG (!decide (e.fKey=([]:AE))) (λc5=>?_) (λc5=>?_)))))))))
     ·refine wo c5 (wv (Af C1 Aa Dq Aa Aa) (wo c5 (wv (Ax (i:=0) Dr Aa Aa Aa) (wo c5 (DS (rs:=[rS e.fKey]) (r:=rB (E0 e.fKey)) S3 Aa (Tu e.fKey) Aa Aa (wo c5 (wv (BW Aa) (wo c4 (ER Aa c5 Aa (Dy Aa c4 Aa (wm Aa (AG (!(E0 e.fKey)) (λc6=>?_) (λc6=>?_)))))))))))))
      ·refine wf c6 (wf c6 (wf c6 (wf c6 (wu (wu (wu (wu (wf c6 (wv (r:=rB true) (Ar (b:=!(E0 e.fKey)) Aa c6 Aa) (Ap ?_))))))))));exact BL (And.intro c2 (And.intro c3 (And.intro c4 (And.intro c5 c6))))
      ·refine wo c6 (wv (Af C1 Aa Dq Aa Aa) (wo c6 (wv (Ax (i:=0) Dr Aa Aa Aa) (wo c6 (wv (LK Aa Aa) (wo c6 (wm Aa (AG (!decide (e.fCause=([]:AE))) (λc7=>?_) (λc7=>?_)))))))))
       ·refine wo c7 (wv (Af C1 Aa Dq Aa Aa) (wo c7 (wv (Ax (i:=0) Dr Aa Aa Aa) (wo c7 (DS (rs:=[rS e.fCause]) (r:=rB (E0 e.fCause)) S3 Aa (Tu e.fCause) Aa Aa (wo c7 (wv (BW Aa) (wo c6 (ER Aa c7 Aa (Dy Aa c6 Aa (Ap ?_)))))))))));exact BL (And.intro c2 (And.intro c3 (And.intro c4 (And.intro c5 (And.intro c6 c7)))))
       ·refine wf c7 (wf c7 (wf c7 (wf c7 (wo c6 (wv (r:=rB false) (A7 (b:=!decide (e.fCause=([]:AE))) Aa c7 Aa) (Dy Aa c6 Aa (Ap ?_)))))));exact BL (And.intro c2 (And.intro c3 (And.intro c4 (And.intro c5 (And.intro c6 c7)))))
     ·refine wf c5 (wf c5 (wf c5 (wf c5 (wo c4 (wv (r:=rB false) (A7 (b:=!decide (e.fKey=([]:AE))) Aa c5 Aa) (Dy Aa c4 Aa (wm Aa (Be (b:=false) Aa Aa Aa (wv (Af C1 Aa Dq Aa Aa) (Be (b:=false) Aa Aa Aa (wv (Ax (i:=0) Dr Aa Aa Aa) (Be (b:=false) Aa Aa Aa (wv (LK Aa Aa) (Be (b:=false) Aa Aa Aa (wm Aa (AG (!decide (e.fCause=([]:AE))) (λc8=>?_) (λc8=>?_)))))))))))))))))
      ·refine wo c8 (wv (Af C1 Aa Dq Aa Aa) (wo c8 (wv (Ax (i:=0) Dr Aa Aa Aa) (wo c8 (DS (rs:=[rS e.fCause]) (r:=rB (E0 e.fCause)) S3 Aa (Tu e.fCause) Aa Aa (wo c8 (wv (BW Aa) (Be (b:=false) Aa Aa Aa (ER Aa c8 Aa (wv (r:=rB (!(E0 e.fCause))) (A7 (b:=false) Aa Aa Aa) (Ap ?_)))))))))));exact BL (And.intro c2 (And.intro c3 (And.intro c4 (And.intro c5 c8))))
      ·refine wf c8 (wf c8 (wf c8 (wf c8 (Be (b:=false) Aa Aa Aa (wv (r:=rB false) (A7 (b:=!decide (e.fCause=([]:AE))) Aa c8 Aa) (wv (r:=rB false) (A7 (b:=false) Aa Aa Aa) (Ap ?_)))))));exact BL (And.intro c2 (And.intro c3 (And.intro c4 (And.intro c5 c8))))
 refine A2 (b:=((!(E0 e.fID))||((!(E0 e.fTenant))||((!(E0 e.fSource))||(bif !decide (e.fKey=([]:AE)) then((!(E0 e.fKey))||((!decide (e.fCause=([]:AE)))&&(!(E0 e.fCause)))) else((!decide (e.fCause=([]:AE)))&&(!(E0 e.fCause)))))))) Aa (λc9=>?_) (λc9=>?_)
 ·have he:=AM c9 h;refine As (wv (r:=rI .i64 4) (Aj Aa) (A0 (A1 (Am ?_))));obtain rfl:=A6 he;exact A4 (B8 Tryz.results58 (AW Aa)) (sS sN) ⟨Aa,Aa⟩
 ·have hd:=AN c9 h;refine A5 (Bb (Av (AD [(1,rv (.pointer (some ⟨b1,0,none⟩))),(48,rB ((decide (e.fAt<0))||(decide (1073741824<e.fAt))))] [.blk b1 (Ab e) 33] ?_ ?_)))
  ·refine Ao (wv (Af C1 Aa BG Aa Aa) (wv (Ax (i:=0) BO Aa Aa Aa) (wv (Cm Aa Aa) (wm Aa (AG (decide (e.fAt<0)) (λha=>?_) (λha=>?_))))))
   ·refine wf ha (wf ha (wf ha (wv (r:=rB true) (Ar (b:=decide (e.fAt<0)) Aa ha Aa) (Ap ?_))));exact BL ha
   ·refine wo ha (wv (Af C1 Aa BG Aa Aa) (wo ha (wv (Ax (i:=0) BO Aa Aa Aa) (wo ha (wv (C3 Aa Aa) (Dy Aa ha Aa (Ap ?_)))))));exact BL ha
  refine A2 (b:=((decide (e.fAt<0))||(decide (1073741824<e.fAt)))) Aa (λhb=>?_) (λhb=>?_)
  ·have hf:=AM hb hd;refine As (wv (r:=rI .i64 2) (Aj Aa) (A0 (A1 (Am ?_))));obtain rfl:=A6 hf;exact A4 (B8 Tryz.results58 (AW Aa)) (sS sN) ⟨Aa,Aa⟩
  ·have hg:=AN hb hd;refine A5 (Bb (As (wv (Af C1 Aa Nu Aa Aa) (wv (Ax (i:=0) Pj Aa Aa Aa) ?_))));obtain⟨hh,hi,hj⟩:=AX hg;refine Dw Tryz.call76 (TS F e.fBody hh hi) Aa (wa Aa (A0 (A1 ?_)));obtain rfl:=A6 hj;exact A4 (B8 Tryz.results58 (AW Aa)) (sS sN) ⟨Aa,Aa⟩
theorem JA (F:Nat)(s:AE)(r:Bool)(h:BR F s=some r):Fn Tryz.prog GE 84 [rS s] [] (λR H=>R=rB r∧H=[]):=by
 refine enter (n:=9) Tryz.func84 Aa Tryz.ntmps84 Aa (λw Z=>?_);refine Bd (l':=[(0,rS s)]) (H':=[]) Aa Aa ?_;unfold BR at h;refine As (wv (r:=rB false) (Aj Aa) (A0 ?_));obtain⟨g1,h2⟩:=AA h;refine AD [(2,rB ((decide (s=([]:AE)))||(ov (DL F s))))] [] ?_ ?_
 ·refine Ao (wm Aa (wv (D3 Aa Aa) (wm Aa (AG (decide (s=([]:AE))) (λc3=>?_) (λc3=>?_)))))
  ·refine wf c3 (wf c3 (wv (r:=rB true) (Ar (b:=decide (s=([]:AE))) Aa c3 Aa) (wa Aa (Ap ?_))));exact BL c3
  ·refine wo c3 (wm Aa (wo c3 (Dw Tryz.call83 (OK F s (ov (DL F s)) (EP (Ca g1 c3))) Aa (Dy Aa c3 Aa (wa Aa (Ap ?_))))));exact BL c3
 refine A1 ?_;obtain rfl:=A6 h2;exact A4 (B8 Tryz.results84 (AW Aa)) sN ⟨Aa,Aa⟩
theorem Rf (F:Nat)(e:Ay)(r:Int)(h:IV F e=some r):Fn Tryz.prog GE 72 [By (Ab e)] [] (λR H=>R=rI .i64 r∧H=[]):=by
 refine enter (n:=42) Tryz.func72 Aa Tryz.ntmps72 Aa (λw Z=>?_);refine Bd (l':=[(0,By (Ab e))]) (H':=[]) Aa Aa ?_;unfold IV at h;refine As (BF Aa Aa (λb1=>?_));refine wv (r:=rI .i64 0) (Aj Aa) (A0 (Av ?_));obtain⟨g2,h3⟩:=AA h;obtain⟨g4,h5⟩:=AA h3;obtain⟨g6,h7⟩:=AA h5;obtain⟨g8,h9⟩:=AA h7;obtain⟨hj,hh⟩:=AA h9;refine AD [(1,rv (.pointer (some ⟨b1,0,none⟩))),(30,rB ((!(ov (DL F e.fID)))||((!(ov (DL F e.fTenant)))||((!(ov (DL F e.fSource)))||((!(ov (BR F e.fKey)))||(!(ov (BR F e.fCause))))))))] [.blk b1 (Ab e) 33] ?_ ?_
 ·refine Ao (wv (Af C1 Aa Dq Aa Aa) (wv (Ax (i:=0) Dr Aa Aa Aa) (Dw Tryz.call83 (OK F e.fID (ov (DL F e.fID)) (EP g2)) Aa (wv (BW Aa) (wm Aa (AG (!(ov (DL F e.fID))) (λha=>?_) (λha=>?_)))))))
  ·refine wf ha (wf ha (wf ha (wf ha (wv (r:=rB true) (Ar (b:=!(ov (DL F e.fID))) Aa ha Aa) (wm Aa (Ak (b:=true) Aa Aa Aa Aa (Ak (b:=true) Aa Aa Aa Aa (Ak (b:=true) Aa Aa Aa Aa (Ak (b:=true) Aa Aa Aa Aa (wv (r:=rB true) (Ar (b:=true) Aa Aa Aa) (wm Aa (Ak (b:=true) Aa Aa Aa Aa (Ak (b:=true) Aa Aa Aa Aa (Ak (b:=true) Aa Aa Aa Aa (Ak (b:=true) Aa Aa Aa Aa (wv (r:=rB true) (Ar (b:=true) Aa Aa Aa) (wm Aa (Ak (b:=true) Aa Aa Aa Aa (Ak (b:=true) Aa Aa Aa Aa (Ak (b:=true) Aa Aa Aa Aa (Ak (b:=true) Aa Aa Aa Aa (wv (r:=rB true) (Ar (b:=true) Aa Aa Aa) (Ap ?_)))))))))))))))))))))));exact BL ha
  ·refine wo ha (wv (Af C1 Aa Dq Aa Aa) (wo ha (wv (Ax (i:=0) Dr Aa Aa Aa) (wo ha (Dw Tryz.call83 (OK F e.fTenant (ov (DL F e.fTenant)) (EP (Ca g4 ha))) Aa (wo ha (wv (BW Aa) (Dy Aa ha Aa (wm Aa (AG (!(ov (DL F e.fTenant))) (λhb=>?_) (λhb=>?_)))))))))))
   ·refine wf hb (wf hb (wf hb (wf hb (wv (r:=rB true) (Ar (b:=!(ov (DL F e.fTenant))) Aa hb Aa) (wm Aa (Ak (b:=true) Aa Aa Aa Aa (Ak (b:=true) Aa Aa Aa Aa (Ak (b:=true) Aa Aa Aa Aa (Ak (b:=true) Aa Aa Aa Aa (wv (r:=rB true) (Ar (b:=true) Aa Aa Aa) (wm Aa (Ak (b:=true) Aa Aa Aa Aa (Ak (b:=true) Aa Aa Aa Aa (Ak (b:=true) Aa Aa Aa Aa (Ak (b:=true) Aa Aa Aa Aa (wv (r:=rB true) (Ar (b:=true) Aa Aa Aa) (Ap ?_)))))))))))))))));exact BL (And.intro ha hb)
   ·refine wo hb (wv (Af C1 Aa Dq Aa Aa) (wo hb (wv (Ax (i:=0) Dr Aa Aa Aa) (wo hb (Dw Tryz.call83 (OK F e.fSource (ov (DL F e.fSource)) (EP (Ca (Ca g6 ha) hb))) Aa (wo hb (wv (BW Aa) (Dy Aa hb Aa (wm Aa (AG (!(ov (DL F e.fSource))) (λhd=>?_) (λhd=>?_)))))))))))
    ·refine wf hd (wf hd (wf hd (wf hd (wv (r:=rB true) (Ar (b:=!(ov (DL F e.fSource))) Aa hd Aa) (wm Aa (Ak (b:=true) Aa Aa Aa Aa (Ak (b:=true) Aa Aa Aa Aa (Ak (b:=true) Aa Aa Aa Aa (Ak (b:=true) Aa Aa Aa Aa (wv (r:=rB true) (Ar (b:=true) Aa Aa Aa) (Ap ?_)))))))))));exact BL (And.intro ha (And.intro hb hd))
    ·refine wo hd (wv (Af C1 Aa Dq Aa Aa) (wo hd (wv (Ax (i:=0) Dr Aa Aa Aa) (wo hd (Dw Tryz.call84 (JA F e.fKey (ov (BR F e.fKey)) (EP (Ca (Ca (Ca g8 ha) hb) hd))) Aa (wo hd (wv (BW Aa) (Dy Aa hd Aa (wm Aa (AG (!(ov (BR F e.fKey))) (λhe=>?_) (λhe=>?_)))))))))))
     ·refine wf he (wf he (wf he (wf he (wv (r:=rB true) (Ar (b:=!(ov (BR F e.fKey))) Aa he Aa) (Ap ?_)))));exact BL (And.intro ha (And.intro hb (And.intro hd he)))
     ·refine wo he (wv (Af C1 Aa Dq Aa Aa) (wo he (wv (Ax (i:=0) Dr Aa Aa Aa) (wo he (Dw Tryz.call84 (JA F e.fCause (ov (BR F e.fCause)) (EP (Ca (Ca (Ca (Ca hj ha) hb) hd) he))) Aa (wo he (wv (BW Aa) (Dy Aa he Aa (Ap ?_)))))))));exact BL (And.intro ha (And.intro hb (And.intro hd he)))
 refine A2 (b:=((!(ov (DL F e.fID)))||((!(ov (DL F e.fTenant)))||((!(ov (DL F e.fSource)))||((!(ov (BR F e.fKey)))||(!(ov (BR F e.fCause)))))))) Aa (λhg=>?_) (λhg=>?_)
 ·have hk:=AM hg hh;refine As (wv (r:=rI .i64 4) (Aj Aa) (A0 (A1 (Am ?_))));obtain rfl:=A6 hk;exact A4 (B8 Tryz.results72 (AW Aa)) (sS sN) ⟨Aa,Aa⟩
 ·have hi:=AN hg hh;refine A5 (Bb (Av (AD [(1,rv (.pointer (some ⟨b1,0,none⟩))),(38,rB ((decide (e.fAt<0))||(decide (1073741824<e.fAt))))] [.blk b1 (Ab e) 33] ?_ ?_)))
  ·refine Ao (wv (Af C1 Aa BG Aa Aa) (wv (Ax (i:=0) BO Aa Aa Aa) (wv (Cm Aa Aa) (wm Aa (AG (decide (e.fAt<0)) (λhf=>?_) (λhf=>?_))))))
   ·refine wf hf (wf hf (wf hf (wv (r:=rB true) (Ar (b:=decide (e.fAt<0)) Aa hf Aa) (Ap ?_))));exact BL hf
   ·refine wo hf (wv (Af C1 Aa BG Aa Aa) (wo hf (wv (Ax (i:=0) BO Aa Aa Aa) (wo hf (wv (C3 Aa Aa) (Dy Aa hf Aa (Ap ?_)))))));exact BL hf
  refine A2 (b:=((decide (e.fAt<0))||(decide (1073741824<e.fAt)))) Aa (λc20=>?_) (λc20=>?_)
  ·have hl:=AM c20 hi;refine As (wv (r:=rI .i64 2) (Aj Aa) (A0 (A1 (Am ?_))));obtain rfl:=A6 hl;exact A4 (B8 Tryz.results72 (AW Aa)) (sS sN) ⟨Aa,Aa⟩
  ·have hm:=AN c20 hi;refine A5 (Bb (As (wv (Af C1 Aa Nu Aa Aa) (wv (Ax (i:=0) Pj Aa Aa Aa) ?_))));obtain⟨hn,ho,hp⟩:=AX hm;refine Dw Tryz.call85 (Uz F e.fBody hn ho) Aa (wa Aa (A0 (A1 ?_)));obtain rfl:=A6 hp;exact A4 (B8 Tryz.results72 (AW Aa)) (sS sN) ⟨Aa,Aa⟩
theorem NF (F:Nat)(a:Ay)(b:Ay)(r:Bool)(h:Ev F a b=some r):Fn Tryz.prog GE 42 [By (Ab a),By (Ab b)] [] (λR H=>R=rB r∧H=[]):=by
 refine enter (n:=52) Tryz.func42 Aa Tryz.ntmps42 Aa (λw Z=>?_);refine Bd (l':=[(0,By (Ab a)),(1,By (Ab b))]) (H':=[]) Aa Aa ?_;unfold Ev at h;refine As (BF Aa Aa (λb1=>?_));refine BF Aa Aa (λb2=>?_);refine wv (r:=rB false) (Aj Aa) (A0 ?_);obtain⟨g3,h4⟩:=AA h;refine AD [(4,rB ((decide (a.fID=b.fID))&&((decide (a.fTenant=b.fTenant))&&((decide (a.fSource=b.fSource))&&((decide (a.fKey=b.fKey))&&((decide (a.fAt=b.fAt))&&((decide (a.fCause=b.fCause))&&(ov (LH F a.fBody b.fBody)))))))))] [] ?_ ?_
 ·refine Ao (wv (Af C1 Aa Dq Aa Aa) (wv (Ax (i:=1) Dr Aa Aa Aa) (wv (Af C1 Aa Dq Aa Aa) (wv (Ax (i:=0) Dr Aa Aa Aa) (wv (D3 Aa Aa) (wm Aa (AG (decide (a.fID=b.fID)) (λc5=>?_) (λc5=>?_))))))))
  ·refine wo c5 (wv (Af C1 Aa Dq Aa Aa) (wo c5 (wv (Ax (i:=1) Dr Aa Aa Aa) (wo c5 (wv (Af C1 Aa Dq Aa Aa) (wo c5 (wv (Ax (i:=0) Dr Aa Aa Aa) (wo c5 (wv (D3 Aa Aa) (ER Aa c5 Aa (wm Aa (AG (decide (a.fTenant=b.fTenant)) (λc6=>?_) (λc6=>?_)))))))))))))
   ·refine wo c6 (wv (Af C1 Aa Dq Aa Aa) (wo c6 (wv (Ax (i:=1) Dr Aa Aa Aa) (wo c6 (wv (Af C1 Aa Dq Aa Aa) (wo c6 (wv (Ax (i:=0) Dr Aa Aa Aa) (wo c6 (wv (D3 Aa Aa) (ER Aa c6 Aa (wm Aa (AG (decide (a.fSource=b.fSource)) (λc7=>?_) (λc7=>?_)))))))))))))
    ·refine wo c7 (wv (Af C1 Aa Dq Aa Aa) (wo c7 (wv (Ax (i:=1) Dr Aa Aa Aa) (wo c7 (wv (Af C1 Aa Dq Aa Aa) (wo c7 (wv (Ax (i:=0) Dr Aa Aa Aa) (wo c7 (wv (D3 Aa Aa) (ER Aa c7 Aa (wm Aa (AG (decide (a.fKey=b.fKey)) (λc8=>?_) (λc8=>?_)))))))))))))
     ·refine wo c8 (wv (Af C1 Aa BG Aa Aa) (wo c8 (wv (Ax (i:=1) BO Aa Aa Aa) (wo c8 (wv (Af C1 Aa BG Aa Aa) (wo c8 (wv (Ax (i:=0) BO Aa Aa Aa) (wo c8 (wv (Bq Aa Aa) (ER Aa c8 Aa (wm Aa (AG (decide (a.fAt=b.fAt)) (λc9=>?_) (λc9=>?_)))))))))))))
      ·refine wo c9 (wv (Af C1 Aa Dq Aa Aa) (wo c9 (wv (Ax (i:=1) Dr Aa Aa Aa) (wo c9 (wv (Af C1 Aa Dq Aa Aa) (wo c9 (wv (Ax (i:=0) Dr Aa Aa Aa) (wo c9 (wv (D3 Aa Aa) (ER Aa c9 Aa (wm Aa (AG (decide (a.fCause=b.fCause)) (λha=>?_) (λha=>?_)))))))))))))
       ·refine wo ha (wv (Af C1 Aa Nu Aa Aa) (wo ha (wv (Ax (i:=1) Pj Aa Aa Aa) (wo ha (wv (Af C1 Aa Nu Aa Aa) (wo ha (wv (Ax (i:=0) Pj Aa Aa Aa) (wo ha (Dw Tryz.call69 (VY F a.fBody b.fBody (ov (LH F a.fBody b.fBody)) (EP (CA (CA (CA (CA (CA (CA g3 c5) c6) c7) c8) c9) ha))) Aa (ER Aa ha Aa (wa Aa (Ap ?_))))))))))));exact BL (And.intro c5 (And.intro c6 (And.intro c7 (And.intro c8 (And.intro c9 ha)))))
       ·refine wf ha (wf ha (wf ha (wf ha (wf ha (wv (r:=rB false) (A7 (b:=decide (a.fCause=b.fCause)) Aa ha Aa) (wa Aa (Ap ?_)))))));exact BL (And.intro c5 (And.intro c6 (And.intro c7 (And.intro c8 (And.intro c9 ha)))))
      ·refine wf c9 (wf c9 (wf c9 (wf c9 (wf c9 (wv (r:=rB false) (A7 (b:=decide (a.fAt=b.fAt)) Aa c9 Aa) (wm Aa (Ak (b:=false) Aa Aa Aa Aa (Ak (b:=false) Aa Aa Aa Aa (Ak (b:=false) Aa Aa Aa Aa (Ak (b:=false) Aa Aa Aa Aa (Ak (b:=false) Aa Aa Aa Aa (wv (r:=rB false) (A7 (b:=false) Aa Aa Aa) (wa Aa (Ap ?_))))))))))))));exact BL (And.intro c5 (And.intro c6 (And.intro c7 (And.intro c8 c9))))
     ·refine wf c8 (wf c8 (wf c8 (wf c8 (wf c8 (wv (r:=rB false) (A7 (b:=decide (a.fKey=b.fKey)) Aa c8 Aa) (wm Aa (Ak (b:=false) Aa Aa Aa Aa (Ak (b:=false) Aa Aa Aa Aa (Ak (b:=false) Aa Aa Aa Aa (Ak (b:=false) Aa Aa Aa Aa (Ak (b:=false) Aa Aa Aa Aa (wv (r:=rB false) (A7 (b:=false) Aa Aa Aa) (wm Aa (Ak (b:=false) Aa Aa Aa Aa (Ak (b:=false) Aa Aa Aa Aa (Ak (b:=false) Aa Aa Aa Aa (Ak (b:=false) Aa Aa Aa Aa (Ak (b:=false) Aa Aa Aa Aa (wv (r:=rB false) (A7 (b:=false) Aa Aa Aa) (wa Aa (Ap ?_)))))))))))))))))))));exact BL (And.intro c5 (And.intro c6 (And.intro c7 c8)))
    ·refine wf c7 (wf c7 (wf c7 (wf c7 (wf c7 (wv (r:=rB false) (A7 (b:=decide (a.fSource=b.fSource)) Aa c7 Aa) (wm Aa (Ak (b:=false) Aa Aa Aa Aa (Ak (b:=false) Aa Aa Aa Aa (Ak (b:=false) Aa Aa Aa Aa (Ak (b:=false) Aa Aa Aa Aa (Ak (b:=false) Aa Aa Aa Aa (wv (r:=rB false) (A7 (b:=false) Aa Aa Aa) (wm Aa (Ak (b:=false) Aa Aa Aa Aa (Ak (b:=false) Aa Aa Aa Aa (Ak (b:=false) Aa Aa Aa Aa (Ak (b:=false) Aa Aa Aa Aa (Ak (b:=false) Aa Aa Aa Aa (wv (r:=rB false) (A7 (b:=false) Aa Aa Aa) (wm Aa (Ak (b:=false) Aa Aa Aa Aa (Ak (b:=false) Aa Aa Aa Aa (Ak (b:=false) Aa Aa Aa Aa ?_)))))))))))))))))))))));refine Ak (b:=false) Aa Aa Aa Aa (Ak (b:=false) Aa Aa Aa Aa (wv (r:=rB false) (A7 (b:=false) Aa Aa Aa) (wa Aa (Ap ?_))));exact BL (And.intro c5 (And.intro c6 c7))
   ·refine wf c6 (wf c6 (wf c6 (wf c6 (wf c6 (wv (r:=rB false) (A7 (b:=decide (a.fTenant=b.fTenant)) Aa c6 Aa) (wm Aa (Ak (b:=false) Aa Aa Aa Aa (Ak (b:=false) Aa Aa Aa Aa (Ak (b:=false) Aa Aa Aa Aa (Ak (b:=false) Aa Aa Aa Aa (Ak (b:=false) Aa Aa Aa Aa (wv (r:=rB false) (A7 (b:=false) Aa Aa Aa) (wm Aa (Ak (b:=false) Aa Aa Aa Aa (Ak (b:=false) Aa Aa Aa Aa (Ak (b:=false) Aa Aa Aa Aa (Ak (b:=false) Aa Aa Aa Aa (Ak (b:=false) Aa Aa Aa Aa (wv (r:=rB false) (A7 (b:=false) Aa Aa Aa) (wm Aa (Ak (b:=false) Aa Aa Aa Aa (Ak (b:=false) Aa Aa Aa Aa (Ak (b:=false) Aa Aa Aa Aa ?_)))))))))))))))))))))));refine Ak (b:=false) Aa Aa Aa Aa (Ak (b:=false) Aa Aa Aa Aa (wv (r:=rB false) (A7 (b:=false) Aa Aa Aa) (wm Aa (Ak (b:=false) Aa Aa Aa Aa (Ak (b:=false) Aa Aa Aa Aa (Ak (b:=false) Aa Aa Aa Aa (Ak (b:=false) Aa Aa Aa Aa (Ak (b:=false) Aa Aa Aa Aa (wv (r:=rB false) (A7 (b:=false) Aa Aa Aa) (wa Aa (Ap ?_)))))))))));exact BL (And.intro c5 c6)
  ·refine wf c5 (wf c5 (wf c5 (wf c5 (wf c5 (wv (r:=rB false) (A7 (b:=decide (a.fID=b.fID)) Aa c5 Aa) (wm Aa (Ak (b:=false) Aa Aa Aa Aa (Ak (b:=false) Aa Aa Aa Aa (Ak (b:=false) Aa Aa Aa Aa (Ak (b:=false) Aa Aa Aa Aa (Ak (b:=false) Aa Aa Aa Aa (wv (r:=rB false) (A7 (b:=false) Aa Aa Aa) (wm Aa (Ak (b:=false) Aa Aa Aa Aa (Ak (b:=false) Aa Aa Aa Aa (Ak (b:=false) Aa Aa Aa Aa (Ak (b:=false) Aa Aa Aa Aa (Ak (b:=false) Aa Aa Aa Aa (wv (r:=rB false) (A7 (b:=false) Aa Aa Aa) (wm Aa (Ak (b:=false) Aa Aa Aa Aa (Ak (b:=false) Aa Aa Aa Aa (Ak (b:=false) Aa Aa Aa Aa ?_)))))))))))))))))))))));refine Ak (b:=false) Aa Aa Aa Aa (Ak (b:=false) Aa Aa Aa Aa (wv (r:=rB false) (A7 (b:=false) Aa Aa Aa) (wm Aa (Ak (b:=false) Aa Aa Aa Aa (Ak (b:=false) Aa Aa Aa Aa (Ak (b:=false) Aa Aa Aa Aa (Ak (b:=false) Aa Aa Aa Aa (Ak (b:=false) Aa Aa Aa Aa (wv (r:=rB false) (A7 (b:=false) Aa Aa Aa) (wm Aa (Ak (b:=false) Aa Aa Aa Aa (Ak (b:=false) Aa Aa Aa Aa (Ak (b:=false) Aa Aa Aa Aa (Ak (b:=false) Aa Aa Aa Aa (Ak (b:=false) Aa Aa Aa Aa (wv (r:=rB false) (A7 (b:=false) Aa Aa Aa) (wa Aa (Ap ?_))))))))))))))))));exact BL c5
 refine A1 ?_;obtain rfl:=A6 h4;exact A4 (B8 Tryz.results42 (AW Aa)) sN ⟨Aa,Aa⟩
end Go.Proofs.YthbbedliepkakaaGreatDoor.Q
namespace Go.Proofs.YthbbedliepkakaaGreatDoor
open Go
set_option linter.unusedVariables false
structure AP where
 fVisible:Int
 fReceives:Int
 deriving DecidableEq,Inhabited
structure An where
 fPolicy:AP
 fWaiting:(List (AE×Int))
 fDead:(List Ay)
 fNow:Int
 fArrived:Int
 deriving DecidableEq,Inhabited
def MD (n:Int):Option (Bool):=
 some ((decide (0≤n))&&(decide (n≤1073741824)))
def Pv (e:Ay):Option (Ay):=
 B7 (OR e.fBody) λr3=>some (Ay.mk e.fID e.fTenant e.fSource e.fKey e.fAt e.fCause r3)
def K0 (p:AP):Option ((An×(List Ad))×Unit):=
 B0 (((decide (p.fVisible<1))||((decide (1073741824<p.fVisible))||((decide (p.fReceives<1))||(decide (10<p.fReceives)))))) (none) (some (((An.mk p ([]:List (AE×Int)) ([]:List Ay) 0 0),([]:List Ad)),()))
def Pw (p:AP):Option (Unit×Unit):=
 B0 (((decide (p.fVisible<1))||((decide (1073741824<p.fVisible))||((decide (p.fReceives<1))||(decide (10<p.fReceives)))))) (some ((),())) (none)
def WR (q:An):Option (Bool):=
 some true
def EK (x4:Bool):Option (Bool):=
 some x4
def K3 (q:An)(now:Int):Option (Bool):=
 B0 (decide (q.fNow≤now)) (EK (decide (now≤1073741824))) (EK false)
def N6 (q:An)(x:Int)(x_p:(List Ad))(now:Int):Option (Bool):=
 Bn (decide (0≤x))<|Bn (C6 x (x_p.length:Int))<|some ((decide (((Ac x_p x).fAt)≤now))&&(decide (q.fPolicy.fReceives≤((Ac x_p x).fReceives))))
def VQ (x:Int)(x_p:(List Ad))(q:An)(now:Int):Option (Bool):=
 B7 (N6 (An.mk q.fPolicy [] ([]:List Ay) q.fNow q.fArrived) x x_p now) λr1=>some r1
def G5 (q:An)(q_p2:(List Ad))(now:Int)(he:AE)(ha:Int)(hb:(List Int)):Option (Stp ((List Int)) (Out ((List Int)) ((List Int)))):=
 B7 (VQ ha q_p2 q now) λhd=>B0 (hd) (Bn (IB 8 (hb.length+([ha]:List Int).length))<|some (.next (hb++([ha]:List Int)))) (some (.next hb))
def EJ (q_p2:(List Ad))(ha:(List Int)):Option ((List Int)):=
 Bn (ha.all (λi=>C6 i (q_p2.length:Int)))<|Bn (E4 (λx y:Int=>DU (Ac q_p2 x).fAt (Ac q_p2 y).fAt (Ac q_p2 x).fPlace (Ac q_p2 y).fPlace) ha)<|Bn (Nat.blt ha.length 4611686018427387904)<|some (Gq (λx y:Int=>DU (Ac q_p2 x).fAt (Ac q_p2 y).fAt (Ac q_p2 x).fPlace (Ac q_p2 y).fPlace) ha)
def IM (q:An)(q_p2:(List Ad))(now:Int):Option ((List Int)):=
 OC q.fWaiting λord=>B7 (N1 (λpe τ=>G5 q q_p2 now pe.1 pe.2 τ) ord ([]:List Int)) (BP λν=>EJ q_p2 ν)
def VL (x:Int)(x_p:(List Ad))(now:Int):Option (Bool):=
 Bn (decide (0≤x))<|Bn (C6 x (x_p.length:Int))<|some (decide (((Ac x_p x).fAt)≤now))
def G2 (q_p2:(List Ad))(now:Int)(he:AE)(ha:Int)(hb:(List Int)):Option (Stp ((List Int)) (Out ((List Int)) ((List Int)))):=
 B7 (VL ha q_p2 now) λhd=>B0 (hd) (Bn (IB 8 (hb.length+([ha]:List Int).length))<|some (.next (hb++([ha]:List Int)))) (some (.next hb))
def EG (q_p2:(List Ad))(ha:(List Int)):Option ((List Int)):=
 Bn (ha.all (λi=>C6 i (q_p2.length:Int)))<|Bn (E4 (λx y:Int=>DU (Ac q_p2 x).fAt (Ac q_p2 y).fAt (Ac q_p2 x).fPlace (Ac q_p2 y).fPlace) ha)<|Bn (Nat.blt ha.length 4611686018427387904)<|some (Gq (λx y:Int=>DU (Ac q_p2 x).fAt (Ac q_p2 y).fAt (Ac q_p2 x).fPlace (Ac q_p2 y).fPlace) ha)
def IJ (q:An)(q_p2:(List Ad))(now:Int):Option ((List Int)):=
 OC q.fWaiting λord=>B7 (N1 (λpe τ=>G2 q_p2 now pe.1 pe.2 τ) ord ([]:List Int)) (BP λν=>EG q_p2 ν)
def VP (x:Int)(x_p:(List Ad))(now:Int):Option (Bool):=
 Bn (decide (0≤x))<|Bn (C6 x (x_p.length:Int))<|some (decide (((Ac x_p x).fAt)≤now))
def G4 (q_p2:(List Ad))(now:Int)(he:AE)(ha:Int)(hb:(List Int)):Option (Stp ((List Int)) (Out ((List Int)) ((List Int)))):=
 B7 (VP ha q_p2 now) λhd=>B0 (hd) (Bn (IB 8 (hb.length+([ha]:List Int).length))<|some (.next (hb++([ha]:List Int)))) (some (.next hb))
def EI (q_p2:(List Ad))(ha:(List Int)):Option ((List Int)):=
 Bn (ha.all (λi=>C6 i (q_p2.length:Int)))<|Bn (E4 (λx y:Int=>DU (Ac q_p2 x).fAt (Ac q_p2 y).fAt (Ac q_p2 x).fPlace (Ac q_p2 y).fPlace) ha)<|Bn (Nat.blt ha.length 4611686018427387904)<|some (Gq (λx y:Int=>DU (Ac q_p2 x).fAt (Ac q_p2 y).fAt (Ac q_p2 x).fPlace (Ac q_p2 y).fPlace) ha)
def IL (q:An)(q_p2:(List Ad))(now:Int):Option ((List Int)):=
 OC q.fWaiting λord=>B7 (N1 (λpe τ=>G4 q_p2 now pe.1 pe.2 τ) ord ([]:List Int)) (BP λν=>EI q_p2 ν)
def VO (x:Int)(x_p:(List Ad))(q:An)(now:Int):Option (Bool):=
 B7 (N6 (An.mk q.fPolicy [] ([]:List Ay) q.fNow q.fArrived) x x_p now) λr1=>some r1
def G3 (q:An)(q_p2:(List Ad))(now:Int)(he:AE)(ha:Int)(hb:(List Int)):Option (Stp ((List Int)) (Out ((List Int)) ((List Int)))):=
 B7 (VO ha q_p2 q now) λhd=>B0 (hd) (Bn (IB 8 (hb.length+([ha]:List Int).length))<|some (.next (hb++([ha]:List Int)))) (some (.next hb))
def EH (q_p2:(List Ad))(ha:(List Int)):Option ((List Int)):=
 Bn (ha.all (λi=>C6 i (q_p2.length:Int)))<|Bn (E4 (λx y:Int=>DU (Ac q_p2 x).fAt (Ac q_p2 y).fAt (Ac q_p2 x).fPlace (Ac q_p2 y).fPlace) ha)<|Bn (Nat.blt ha.length 4611686018427387904)<|some (Gq (λx y:Int=>DU (Ac q_p2 x).fAt (Ac q_p2 y).fAt (Ac q_p2 x).fPlace (Ac q_p2 y).fPlace) ha)
def IK (q:An)(q_p2:(List Ad))(now:Int):Option ((List Int)):=
 OC q.fWaiting λord=>B7 (N1 (λpe τ=>G3 q q_p2 now pe.1 pe.2 τ) ord ([]:List Int)) (BP λν=>EH q_p2 ν)
end Go.Proofs.YthbbedliepkakaaGreatDoor
namespace Go.Proofs.YthbbedliepkakaaGreatDoor.Q
open Go Go.RowKit Go.Sort Go.Shelf Go.Proofs
set_option linter.unusedVariables false
set_option linter.unusedSimpArgs false
theorem Sb {l:List Nat}{i:Nat}(h:i<l.length):l.getD i 0=l[i]:=by simp[List.getD,h]
def GI (n:Nat)(i:Int):Nat:=if i.toNat<n∧0≤i then i.toNat else 0
theorem L6 {n:Nat}{i:Int}(h:C6 i (n:Int)=true):GI n i=i.toNat:=by
 have h0:=(BD h).1;have h1:=(BD h).2;unfold GI;rw[Z4 ⟨by omega,h0⟩]
theorem Od {n:Nat}(h:0<n)(i:Int):GI n i<n:=by
 unfold GI
 split
 ·rename_i h1;exact h1.1
 ·exact h
def Te (bs:List Nat)(i:Int):Value:=.pointer (some ⟨bs.getD (GI bs.length i) 0,0,none⟩)
theorem VZ (bs:List Nat):OneCell (Te bs):=λ_=>rfl
theorem OL {α:Type}[Inhabited α]{raw:α→Value}{w:World}{g n:Nat}{os:Array Obj}{cur:Array Value}{e:TypeId}{fr:Nat×Nat}(d:Array α)(hb:w.heap[g]? =some (.cells cur e fr)) :
  (sortWorld raw w g 0 n d os).heap[g]? =some (.cells (putCells raw 0 d cur) e fr):=by
 have hg:g<w.heap.size:=(Array.getElem?_eq_some_iff.1 hb).1;unfold sortWorld;rw[heap_grow_old _ _ (by rw[Sort.size_putRow];exact hg)];simp[putRow,mapBlock,Sort.ahead,Array.getElem?_modify,hb,onCells]
theorem EE {α:Type}[Inhabited α]{raw:α→Value}{w:World}{g n:Nat}{os:Array Obj}(d:Array α){j:Nat}(hj:j<w.heap.size)(hne:j≠g) :
  (sortWorld raw w g 0 n d os).heap[j]? =w.heap[j]?:=by
 unfold sortWorld;rw[heap_grow_old _ _ (by rw[Sort.size_putRow];exact hj)];simp[putRow,mapBlock,Sort.ahead,Array.getElem?_modify,Ne.symm hne]
theorem Ow {α:Type}[Inhabited α]{raw:α→Value}{w:World}{g n:Nat}{os:Array Obj}(d:Array α):w.heap.size≤(sortWorld raw w g 0 n d os).heap.size:=by
 unfold sortWorld;rw[size_grow,Sort.size_putRow];exact Nat.le_add_right _ _
theorem SF {α:Type}[Inhabited α](raw:α→Value)(cur:Array Value)(d:Array α)(h:d.size≤cur.size):(putCells raw 0 d cur).toList.take d.size=d.toList.map raw:=by
 apply List.ext_getElem?;intro j
 by_cases hj:j<d.size
 ·rw[List.getElem?_take_of_lt hj,Array.getElem?_toList];simp[putCells,hj,show j<cur.size by omega]
 ·rw[List.getElem?_take_eq_none (by omega),List.getElem?_eq_none (by simp;omega)]
theorem Xm {P:Program}{E:Fz→Prop}{ρ:Ren}(L:SlLaysF.n6 P ρ){T:Type}[Inhabited T]{enc:T→List Rp}{te:TypeId}
  (cf:T→T→Int) (hO:SWO (ltOf cf)) {less:T→T→Bool} (hless:∀x y,less x y=ltOf cf x y) (hL:V0 less)
  (g:Nat) (eg:∀args w,(callFunc g args).run P w = .ok (.enter g args) w)
  (hcmp:∀(x y:T) (b b':Nat) (us us':List Value) (Z:Fz) (W:World),W.heap[b]? =some (.cells us.toArray te (0,0))→W.heap[b']? =some (.cells us'.toArray te (0,0))→Bg Z (enc x) us→Bg Z (enc y) us'→
   Calls P g #[.pointer (some ⟨b,0,none⟩),.pointer (some ⟨b',0,none⟩)] W λe w'=>e = .returned (.int .i64 (cf x y))∧∃q os',w'=grow (W.drewN q) os')
  {v pv:Value} {e:TypeId} {k:Nat} {xs:List Int} {ps:List T} (hin:xs.all (λi=>C6 i (ps.length:Int))=true) (hd:E4 (λi j=>less (Ac ps i) (Ac ps j)) xs=true) (hsz:Nat.blt xs.length 4611686018427387904=true) :
  Fn P E (ρ.f 6) [rv v,rv (.func (.func g) #[] #[])] [.row v e 1 (xs.map (eP k)),.pool k pv te (ps.map enc)] (λR H=>R=rv (.tuple #[])∧H=[.row v e 1 ((Gq (λi j=>less (Ac ps i) (Ac ps j)) xs).map (eP k)),.pool k pv te (ps.map enc)]):=λw Z vs hv hs=>by
 have e0:vs=[v,.func (.func g) #[] #[]]:=Bg.eq_rv (us:=[v,.func (.func g) #[] #[]]) hv;subst e0;have hsz':xs.length<4611686018427387904:=by simpa using hsz
 rw[ZD] at hin;obtain⟨h0,us,⟨h2,h3⟩,h4⟩:=hs.ent (i:=0) rfl;obtain⟨hq0,hql,hq⟩:=hs.ent (i:=1) rfl;rcases h3 with⟨rfl,hz0⟩ | ⟨b,cap,cur,rfl,_,hb,hcap,hm,hcs,htk⟩
 ·simp at hz0;subst hz0;refine(AnyF.slices_SortFunc_none (P:=P) (ρ:=ρ) { L with } none 0 (.func (.func g) #[] #[]) w).mono ?_;rintro e' w' ⟨rfl,rfl⟩;exact⟨_,_,_,Z,rfl,⟨rfl,rfl⟩,rfl,hs⟩
 ·rw[Zt] at hql;have hbl:(Dv pv).length=ps.length:=hql;have hnm:∀i∈xs,Z.nm k i.toNat=some ((Dv pv).getD (GI (Dv pv).length i) 0):=λi hi=>by
   have h5:=hin i hi;have h6:=(BD h5).1;have h7:=(BD h5).2;have hb':i.toNat<(Dv pv).length:=by omega
   obtain⟨h8,_⟩:=hq i.toNat (Dv pv)[i.toNat] (enc (ps[i.toNat]'(by omega))) (Zg hb') (by simp[show i.toNat<ps.length by omega]);rw[h8,hbl,L6 h5,Sb hb']
  have hval:∀i∈xs,∀u,(Cw k i 0).p Z u→u=Te (Dv pv) i:=λi hi u hu=>by
   change Oi k i 0 Z u at hu
   unfold Oi at hu;rw[Zu (by have:=(BD (hin i hi)).1;omega)] at hu;obtain⟨b',h5,h6⟩:=hu;rw[hnm i hi] at h5;rw[h6,← Option.some.inj h5];rfl
  have hback:∀i∈xs,(Cw k i 0).p Z (Te (Dv pv) i):=λi hi=>by
   show Oi k i 0 Z _;unfold Oi;rw[Zu (by have:=(BD (hin i hi)).1;omega)];exact⟨_,hnm i hi,rfl⟩
  have hus:∀(ys:List Int) (us:List Value),(∀i∈ys,i∈xs)→Bg Z (ys.map (eP k)).flatten us→us=ys.map (Te (Dv pv)):=by
   intro ys
   induction ys with
   | nil=>
    intro us _ h
    cases us with
    | nil=>rfl
    | cons _ _=>exact absurd h id
   | cons y r ih=>
    intro us hy h
    cases us with
    | nil=>exact absurd h id
    | cons u us=>
     obtain⟨h5,h6⟩:=h;rw[hval y (hy y (by simp)) u h5,ih us (λi hi=>hy i (by simp[hi])) h6];rfl
  have hto:∀(ys:List Int),(∀i∈ys,i∈xs)→Bg Z (ys.map (eP k)).flatten (ys.map (Te (Dv pv))):=by
   intro ys
   induction ys with
   | nil=>intro _;exact trivial
   | cons y r ih=>intro hy;exact⟨hback y (hy y (by simp)),ih (λi hi=>hy i (by simp[hi]))⟩
  have eus:=hus xs us (λ_ h=>h) h4;subst eus;simp only[Zt,Nat.mul_one] at h2 hcap htk;have hblk:b<w.heap.size:=(Array.getElem?_eq_some_iff.1 hb).1;rcases Nat.eq_zero_or_pos xs.length with hx0 | hx0
  ·have hxn:xs=[]:=ZA hx0;subst hxn;refine(AnyF.slices_SortFunc_none (P:=P) (ρ:=ρ) { L with } (some ⟨b,0,none⟩) cap (.func (.func g) #[] #[]) w).mono ?_;rintro e' w' ⟨rfl,rfl⟩;exact⟨_,_,_,Z,rfl,⟨rfl,rfl⟩,rfl,hs⟩
  ·have hpos:0<ps.length:=by
    obtain⟨x,hx⟩:=List.exists_mem_of_length_pos hx0;have:=BD (hin x hx);omega
   let cfI:Int→Int→Int:=λi j=>cf (Ac ps (GI ps.length i:Nat)) (Ac ps (GI ps.length j:Nat))
   have hOI:SWO (ltOf cfI):=⟨λx=>hO.irrefl _,λx y z h1 h2=>hO.trans _ _ _ h1 h2,λx y z h1 h2=>hO.ntrans _ _ _ h1 h2⟩
   have hH:Holds (Te (Dv pv)) w b 0 xs.toArray:=by
    intro j hj;have hj':j<xs.length:=by simpa using hj
    refine⟨?_,by simp[World.frozen?,hb]⟩;have h5:(cur.toList.take xs.length)[j]? =(xs.map (Te (Dv pv)))[j]?:=by rw[htk]
    rw[List.getElem?_take_of_lt (by omega)] at h5;simp only[World.cell?,hb,ZH,Option.isSome_none,Zm,Z8];rw[← Array.getElem?_toList,h5];simp[hj']
   have hblkp:∀i:Nat,i<ps.length→∃us,w.heap[(Dv pv).getD i 0]? =some (.cells us.toArray te (0,0))∧Bg Z (enc (Ac ps (i:Int))) us∧(Dv pv).getD i 0≠b:=λi hi=>by
    have hb':i<(Dv pv).length:=by omega
    obtain⟨h8,us,h9,ha⟩:=hq i (Dv pv)[i] (enc (ps[i]'hi)) (Zg hb') (by simp[hi]);rw[Sb hb'];refine⟨us,h9,by rw[show Ac ps (i:Int)=ps[i] from by simp[Ac,hi]];exact ha,λe1=>?_⟩;have hdis:=hs.dis;rw[List.pairwise_cons] at hdis;exact hdis.1 (.pool k pv te (ps.map enc)) (by simp) b (by simp[Ent.foot,Value.ownBlock]) (by rw[← e1];exact List.getElem_mem hb')
   have hcl:CmpLays1 P g #[] (Te (Dv pv)) cfI b 0 xs.toArray.size w:=λm os dk hdk x y=>by
    obtain⟨ux,hx1,hx2,hx3⟩:=hblkp (GI ps.length x) (Od hpos x);obtain⟨uy,hy1,hy2,hy3⟩:=hblkp (GI ps.length y) (Od hpos y);have hxl:=(Array.getElem?_eq_some_iff.1 hx1).1;have hyl:=(Array.getElem?_eq_some_iff.1 hy1).1;have:=hcmp _ _ _ _ ux uy Z (sortWorld (Te (Dv pv)) w b 0 m dk os) (by rw[EE dk hxl hx3];exact hx1) (by rw[EE dk hyl hy3];exact hy1) hx2 hy2;simp only[Te,hbl];exact this
   have hsl:(Value.slice (some ⟨b,0,none⟩) (xs.map (eP k)).length cap) = .slice (some ⟨b,0,none⟩) xs.toArray.size cap:=by simp
   have hcon:=Any.slices_SortFunc (P:=P) (ρ:=ρ) L (Te (Dv pv)) (VZ _) cfI hOI g #[] b 0 cap xs.toArray w eg hcl hH hblk (by simpa using hsz');have hargs:[Value.slice (some ⟨b,0,none⟩) (xs.map (eP k)).length cap,Value.func (.func g) #[] #[]].toArray = #[.slice (some ⟨b,0,none⟩) xs.toArray.size cap,.func (.func g) #[] #[]]:=by rw[hsl]
   rw[hargs];refine hcon.mono ?_;rintro e' w' ⟨rfl,d',n,os,hp,hsd,rfl⟩;have hds:d'.size=xs.length:=by simpa using hp.1
   have hperm:d'.toList.Perm xs:=by
    have:=hp.2.2;rw[Array.extract_eq_self_of_le (by rw[hp.1];exact Z6 _),Array.extract_eq_self_of_le (Z6 _)] at this;exact this
   have hmem:∀i∈d'.toList,i∈xs:=λi hi=>hperm.mem_iff.1 hi;have hpw:d'.toList.Pairwise λi j=>less (Ac ps j) (Ac ps i)=false:=by
    rw[List.pairwise_iff_getElem];intro i j hi hj hij;have hi':i<d'.size:=by simpa using hi
    have hj':j<d'.size:=by simpa using hj
    have:=hsd i j (ZN _) hij (by simpa[hds] using hj');rw[getElem!_pos d' j hj',getElem!_pos d' i hi'] at this;have ci:=L6 (hin _ (hmem _ (List.getElem_mem hi)));have cj:=L6 (hin _ (hmem _ (List.getElem_mem hj)));have ni:=(BD (hin _ (hmem _ (List.getElem_mem hi)))).1;have nj:=(BD (hin _ (hmem _ (List.getElem_mem hj)))).1;simp only[Array.getElem_toList] at ci cj ni nj ⊢;rw[hless];have h9:ltOf cfI d'[j] d'[i]=ltOf cf (Ac ps (GI ps.length d'[j]:Nat)) (Ac ps (GI ps.length d'[i]:Nat)):=rfl;rw[h9,ci,cj,Int.toNat_of_nonneg ni,Int.toNat_of_nonneg nj] at this;exact this
   have hLI:V0 λi j:Int=>less (Ac ps i) (Ac ps j):=⟨λx=>hL.irrefl _,λx y z h1 h2=>hL.ntrans _ _ _ h1 h2,λx y h=>hL.asym _ _ h⟩
   have hxs:d'.toList=Gq (λi j=>less (Ac ps i) (Ac ps j)) xs:=Ou hLI hd hperm hpw;have hl2:(Gq (λi j=>less (Ac ps i) (Ac ps j)) xs).length=xs.length:=(CZ _ xs).length_eq;have hset:=hs.set (i:=0) (w':=sortWorld (Te (Dv pv)) w b 0 n d' os) (e':=.row (.slice (some ⟨b,0,none⟩) (xs.map (eP k)).length cap) e 1 ((Gq (λi j=>less (Ac ps i) (Ac ps j)) xs).map (eP k))) rfl rfl rfl rfl (Ow d') (λj hj hne=>EE d' hj (λe1=>hne (by simp[Ent.foot,Value.ownBlock,e1])))
    ⟨λcl hcl=>by obtain⟨x,_,rfl⟩:=List.mem_map.1 hcl;rfl,d'.toList.map (Te (Dv pv)),⟨by simp[hds,hl2],.inr ⟨b,cap,_,by simp[hl2],ZN _,OL d' hb,by simpa[hl2] using hcap,hm,by simpa[putCells] using hcs,by
     rw[Zt,hl2,Nat.mul_one,← hds];exact SF _ cur d' (by omega)⟩⟩,by rw[← hxs];exact hto _ hmem⟩ (by simp[Ent.foot,Value.ownBlock])
   exact⟨_,_,_,Z,rfl,⟨rfl,rfl⟩,rfl,hset⟩
open Go Go.Proofs Go.Sort
theorem Ws (x:Int)(w:World):Calls Tryz.prog 79 #[.int .i64 x] w λe w'=>e = .returned (.bool false)∧w'=w:=by
 go_enter Tryz.func79,Tryz.ntmps79
 go_wp2
 go_ret
 exact⟨by simp,rfl⟩
def OQ (x y:Int):Int:=if x<y then -1 else if y<x then 1 else 0
set_option maxHeartbeats 1000000 in
theorem Oa (x y:Int)(w:World):Calls Tryz.prog 64 #[.int .i64 x,.int .i64 y] w λe w'=>e = .returned (.int .i64 (OQ x y))∧w'=w:=by
 go_enter Tryz.func64,Tryz.ntmps64
 go_wp2_with (go_at_call 79;refine(Ws _ _).mono ?_;rintro e w' ⟨rfl,hw⟩;rw[hw])
 all_goals (go_ret;refine⟨?_,rfl⟩;unfold OQ;(repeat' split)<;>first | rfl | (exfalso;omega))
def WU (p q:Int):Int:=if p=0 then q else p
set_option maxHeartbeats 1000000 in
theorem YC (p q:Int)(b cap:Nat)(w:World)(h0:w.cell? ⟨b,0,none⟩=some (.int .i64 p))(h1:w.cell? ⟨b,1,none⟩=some (.int .i64 q)):Calls Tryz.prog 63 #[.slice (some ⟨b,0,none⟩) 2 cap] w λe w'=>e = .returned (.int .i64 (WU p q))∧w'=w:=by
 by_cases hp:p=0
 ·have er:WU p q=q:=by unfold WU;rw[Z4 hp]
  rw[er];have hp':(p !=0)=false:=by simp[hp]
  clear er
  by_cases hq:q=0
  ·have hq':(q !=0)=false:=by simp[hq]
   subst hp;subst hq
   go_enter Tryz.func63,Tryz.ntmps63
   go_wp2
   refine wp_loop_rounds 3 ?_;rw[rounds_succ]
   go_wp2
   rw[rounds_succ]
   go_wp2
   rw[rounds_succ]
   go_wp2
   go_ret
   exact⟨rfl,rfl⟩
  ·have hq':(q !=0)=true:=by simp[hq]
   subst hp
   go_enter Tryz.func63,Tryz.ntmps63
   go_wp2
   refine wp_loop_rounds 3 ?_;rw[rounds_succ]
   go_wp2
   rw[rounds_succ]
   go_wp2
   go_ret
   exact⟨rfl,rfl⟩
 ·have er:WU p q=p:=by unfold WU;rw[Zu hp]
  rw[er];have hp':(p !=0)=true:=by simp[hp]
  clear er hp
  go_enter Tryz.func63,Tryz.ntmps63
  go_wp2
  refine wp_loop_rounds 3 ?_;rw[rounds_succ]
  go_wp2
  go_ret
  exact⟨rfl,rfl⟩
theorem QQ {P:Program}{id:Nat}{Q:Exit→Act→World→Prop}{a:Act}{w:World}{l:List Oper}(n:Nat)(hm:P.follows .mixedOrders=true)(hB:Region.lexTailB .any l.toArray n=true)
  (h:∀w2,w2=World.drew w→wpStill P l.toArray w2 (λa'=>wpList P l.toArray Q (l.drop n) a' w2) (l.take n) a):(Code.region id l.toArray true).wp P Q a w:=wp_region_still_tail n hm hB (h _ rfl)
theorem Qv (w:World)(cs:Array Value)(e:TypeId)(j:Nat):(w.alloc (.cells cs e)).cell? ⟨w.heap.size,j,none⟩=cs[j]?:=by
 have h:(w.alloc (.cells cs e)).heap[w.heap.size]? =some (.cells cs e):=by simpa using heap_alloc_new w _
 unfold World.cell?;simp only[h];rfl
theorem Rq (w:World)(o:Obj):w.alloc o=grow w #[o]:=by unfold grow World.alloc;simp
set_option maxRecDepth 100000 in
set_option maxHeartbeats 1000000 in
theorem Xy (b b':Nat)(n1 n2 p1 p2:Int)(W:World)(ha:W.cell? ⟨b,7,none⟩=some (.int .i64 n1))(hb:W.cell? ⟨b,10,none⟩=some (.int .i64 p1))(c20:W.cell? ⟨b',7,none⟩=some (.int .i64 n2))(c21:W.cell? ⟨b',10,none⟩=some (.int .i64 p2)) :
  Calls Tryz.prog 62 #[.pointer (some ⟨b,0,none⟩),.pointer (some ⟨b',0,none⟩)] W λe w'=>e = .returned (.int .i64 (WU (OQ n1 n2) (OQ p1 p2)))∧∃q os',w'=grow (W.drewN q) os':=by
 have hci:=λW=>Oa n1 n2 W;have hcs:=λW=>Oa p1 p2 W;generalize OQ n1 n2=r1 at hci ⊢;generalize OQ p1 p2=r2 at hcs ⊢
 go_enter Tryz.func62,Tryz.ntmps62
 go_wp2
 have hm:Tryz.prog.follows .mixedOrders=true:=by kernel_rfl
 refine QQ 18 hm (by kernel_rfl) ?_;intro W2 hW2;have hd:W2.cell? ⟨b,7,none⟩=some (.int .i64 n1):=by rw[hW2];exact ha
 have he:W2.cell? ⟨b,10,none⟩=some (.int .i64 p1):=by rw[hW2];exact hb
 have hf:W2.cell? ⟨b',7,none⟩=some (.int .i64 n2):=by rw[hW2];exact c20
 have hh:W2.cell? ⟨b',10,none⟩=some (.int .i64 p2):=by rw[hW2];exact c21
 have hg:∃q os',W2=grow (W.drewN q) os':=⟨1,#[],by
  have e:grow (W.drewN 1) #[]=W.drewN 1:=by simp only[grow,Array.append_empty]
  rw[hW2,e];rfl⟩
 clear hW2 ha hb c20 c21;simp only[List.take_succ_cons,List.take_zero,List.drop_succ_cons,List.drop_zero]
 still_step
 still_step
 still_step
 still_step
 still_step
 still_step
 still_step
 still_step
 still_call (hci _)
 still_step
 still_step
 still_step
 still_step
 still_step
 still_step
 still_step
 still_step
 still_call (hcs _)
 refine wpStill_nil ?_
 go_wp2_with (go_at_call 63;refine(YC r1 r2 _ _ _ (Qv _ _ _ 0) (Qv _ _ _ 1)).mono ?_;rintro e w' ⟨rfl,rfl⟩)
 go_ret
 obtain⟨q,os',rfl⟩:=hg;exact⟨rfl,q,_,by rw[Rq,grow_grow]⟩
end Go.Proofs.YthbbedliepkakaaGreatDoor.Q
namespace Go.Proofs
open Go.Shelf
def Tryz.SpL_ren:Go.Shelf.Ren:=⟨fun | 6=>61 | 15=>78 | 14=>77 | 28=>97 | 29=>98 | 20=>89 | 21=>90 | 22=>91 | 23=>92 | 24=>93 | 25=>94 | 26=>95 | 27=>96 | 46=>115 | 47=>116 | 48=>117 | 49=>118 | 50=>119 | 57=>131 | n=>n,fun | 22=>67 | 24=>69 | 25=>101 | 3=>3 | 39=>112 | 0=>0 | 53=>133 | 55=>135 | 4=>4 | 46=>126 | 45=>125 | 50=>130 | 5=>5 | 9=>9 | 66=>151 | 70=>155 | 76=>161 | 77=>162 | n=>n,fun | n=>n⟩
theorem Tryz.SpL:Go.Proofs.SlLaysF.n6 Tryz.prog Tryz.SpL_ren:={
 mixed:=by kernel_rfl
 f6:=⟨Tryz.f61.name,by decide,Tryz.func61.trans (congrArg some (by kernel_rfl))⟩
 f14:=⟨Tryz.f77.name,by decide,Tryz.func77.trans (congrArg some (by kernel_rfl))⟩
 f15:=Tryz.func78.trans (congrArg some (by kernel_rfl))
 f20:=⟨Tryz.f89.name,by decide,Tryz.func89.trans (congrArg some (by kernel_rfl))⟩
 f21:=⟨Tryz.f90.name,by decide,Tryz.func90.trans (congrArg some (by kernel_rfl))⟩
 f22:=⟨Tryz.f91.name,by decide,Tryz.func91.trans (congrArg some (by kernel_rfl))⟩
 f23:=⟨Tryz.f92.name,by decide,Tryz.func92.trans (congrArg some (by kernel_rfl))⟩
 f24:=⟨Tryz.f93.name,by decide,Tryz.func93.trans (congrArg some (by kernel_rfl))⟩
 f25:=⟨Tryz.f94.name,by decide,Tryz.func94.trans (congrArg some (by kernel_rfl))⟩
 f26:=⟨Tryz.f95.name,by decide,Tryz.func95.trans (congrArg some (by kernel_rfl))⟩
 f27:=⟨Tryz.f96.name,by decide,Tryz.func96.trans (congrArg some (by kernel_rfl))⟩
 f28:=Tryz.func97.trans (congrArg some (by kernel_rfl))
 f29:=Tryz.func98.trans (congrArg some (by kernel_rfl))
 f46:=⟨Tryz.f115.name,by decide,Tryz.func115.trans (congrArg some (by kernel_rfl))⟩
 f47:=Tryz.func116.trans (congrArg some (by kernel_rfl))
 f48:=Tryz.func117.trans (congrArg some (by kernel_rfl))
 f49:=⟨Tryz.f118.name,by decide,Tryz.func118.trans (congrArg some (by kernel_rfl))⟩
 f50:=⟨Tryz.f119.name,by decide,Tryz.func119.trans (congrArg some (by kernel_rfl))⟩
 f57:=⟨Tryz.f131.name,by decide,Tryz.func131.trans (congrArg some (by kernel_rfl))⟩
 t0:=Tryz.underlying0
 a0:=Tryz.isAgg0
 z0:=Tryz.sizeOf0
 v0:=Tryz.zeroValue0
 t3:=Tryz.underlying3
 a3:=Tryz.isAgg3
 z3:=Tryz.sizeOf3
 v3:=Tryz.zeroValue3
 t4:=Tryz.underlying4
 a4:=Tryz.isAgg4
 z4:=Tryz.sizeOf4
 v4:=Tryz.zeroValue4
 t5:=Tryz.underlying5
 a5:=Tryz.isAgg5
 z5:=Tryz.sizeOf5
 v5:=Tryz.zeroValue5
 t9:=Tryz.underlying9
 a9:=Tryz.isAgg9
 z9:=Tryz.sizeOf9
 v9:=Tryz.zeroValue9
 t22:=Tryz.underlying67
 a22:=Tryz.isAgg67
 z22:=Tryz.sizeOf67
 v22:=Tryz.zeroValue67
 a24:=Tryz.isAgg69
 z24:=Tryz.sizeOf69
 t25:=Tryz.underlying101
 a25:=Tryz.isAgg101
 z25:=Tryz.sizeOf101
 v25:=Tryz.zeroValue101
 t39:=Tryz.underlying112
 a39:=Tryz.isAgg112
 z39:=Tryz.sizeOf112
 v39:=Tryz.zeroValue112
 t45:=Tryz.underlying125
 a45:=Tryz.isAgg125
 z45:=Tryz.sizeOf125
 v45:=Tryz.zeroValue125
 t46:=Tryz.underlying126
 a46:=Tryz.isAgg126
 z46:=Tryz.sizeOf126
 v46:=Tryz.zeroValue126
 t50:=Tryz.underlying130
 a50:=Tryz.isAgg130
 z50:=Tryz.sizeOf130
 v50:=Tryz.zeroValue130
 t53:=Tryz.underlying133
 a53:=Tryz.isAgg133
 z53:=Tryz.sizeOf133
 v53:=Tryz.zeroValue133
 t55:=Tryz.underlying135
 a55:=Tryz.isAgg135
 z55:=Tryz.sizeOf135
 v55:=Tryz.zeroValue135
 t66:=Tryz.underlying151
 a66:=Tryz.isAgg151
 z66:=Tryz.sizeOf151
 v66:=Tryz.zeroValue151
 t70:=Tryz.underlying155
 a70:=Tryz.isAgg155
 z70:=Tryz.sizeOf155
 v70:=Tryz.zeroValue155
 t76:=Tryz.underlying161
 a76:=Tryz.isAgg161
 z76:=Tryz.sizeOf161
 v76:=Tryz.zeroValue161
 t77:=Tryz.underlying162
 a77:=Tryz.isAgg162
 z77:=Tryz.sizeOf162
 v77:=Tryz.zeroValue162 }
end Go.Proofs
namespace Go.Proofs.YthbbedliepkakaaGreatDoor.Q
open Go Go.RowKit Go.Sort Go.Shelf Go.Proofs
set_option linter.unusedVariables false
set_option linter.unusedSimpArgs false
def Y3 (x y:Ad):Int:=WU (OQ x.fAt y.fAt) (OQ x.fPlace y.fPlace)
theorem OD (x y:Ad):DU x.fAt y.fAt x.fPlace y.fPlace=ltOf Y3 x y:=by
 unfold ltOf Y3 WU OQ DU
 by_cases h1:x.fAt<y.fAt
 ·simp[h1]
 ·by_cases h2:y.fAt<x.fAt
  ·have : ¬ x.fAt=y.fAt:=by omega
   simp[h1,h2,this]
  ·have e:x.fAt=y.fAt:=by omega
   by_cases h3:x.fPlace<y.fPlace
   ·simp[e,h3]
   ·by_cases h4:y.fPlace<x.fPlace
    ·simp[e,h3,h4]
    ·simp[e,h3,h4]
theorem Y7:SWO (ltOf Y3) where
 irrefl x:=by rw[← OD,Jz];omega
 trans x y z h1 h2:=by rw[← OD,NM] at *;omega
 ntrans x y z h1 h2:=by rw[← OD,Jz] at *;omega
theorem NR {Z:Fz}{x:Ad}{us:List Value}(h:Bg Z (Ai x) us):us[7]? =some (.int .i64 x.fAt)∧us[10]? =some (.int .i64 x.fPlace):=by
 have hl:=h.length;obtain⟨v0,v1,v2,v3,v4,v5,v6,v7,v8,v9,ha,rfl⟩:∃v0 v1 v2 v3 v4 v5 v6 v7 v8 v9 ha,us=[v0,v1,v2,v3,v4,v5,v6,v7,v8,v9,ha]:=by
  match us,hl with
  | [v0,v1,v2,v3,v4,v5,v6,v7,v8,v9,ha],_=>exact⟨_,_,_,_,_,_,_,_,_,_,_,rfl⟩
 obtain⟨_,_,_,_,_,_,_,h7,_,_,hb,_⟩:=h;have e7:v7 = .int .i64 x.fAt:=h7;have hd:ha = .int .i64 x.fPlace:=hb;subst e7;subst hd;exact⟨rfl,rfl⟩
theorem Me {v pv:Value}{e:TypeId}{k:Nat}{xs:List Int}{ps:List Ad}(hin:xs.all (λi=>C6 i (ps.length:Int))=true)(hd:E4 (λx y:Int=>DU (Ac ps x).fAt (Ac ps y).fAt (Ac ps x).fPlace (Ac ps y).fPlace) xs=true)(hsz:Nat.blt xs.length 4611686018427387904=true) :
  Fn Tryz.prog GE 61 [rv v,rv (.func (.func 62) #[] #[])] [.row v e 1 (xs.map (eP k)),.pool k pv 71 (ps.map Ai)] (λR H=>R=rv (.tuple #[])∧H=[.row v e 1 ((Gq (λx y:Int=>DU (Ac ps x).fAt (Ac ps y).fAt (Ac ps x).fPlace (Ac ps y).fPlace) xs).map (eP k)),.pool k pv 71 (ps.map Ai)]):=
 Xm Tryz.SpL Y3 Y7 (less:=λx y:Ad=>DU x.fAt y.fAt x.fPlace y.fPlace) OD (RS (λx:Ad=>x.fAt) (λx=>x.fPlace))
  62 (enters_of Tryz.func62 (by kernel_rfl) rfl)
  (λx y b b' us us' Z W h1 h2 h3 h4=>by
   have c1:=NR h3;have c2:=NR h4;have hc:∀(b:Nat) (us:List Value) (j:Nat) (u:Value),W.heap[b]? =some (.cells us.toArray 71 (0,0))→us[j]? =some u→W.cell? ⟨b,j,none⟩=some u:=λb us j u hb hu=>by
    rw[cell_of_row W b j _ _ (0,0) hb];simpa using hu
   exact Xy b b' x.fAt y.fAt x.fPlace y.fPlace W (hc _ _ _ _ h1 c1.1) (hc _ _ _ _ h1 c1.2) (hc _ _ _ _ h2 c2.1) (hc _ _ _ _ h2 c2.2))
  hin hd hsz
open Go Go.RowKit
set_option maxRecDepth 100000
set_option maxHeartbeats 4000000
@[reducible] def Bk (x:AP):List Rp:=[rI .i64 x.fVisible,rI .i64 x.fReceives]
theorem OG:∃inf,Tryz.prog.info? 69=some inf∧inf.zero=some (.pointer none)∧inf.size=1∧inf.bytes=8:=by
  have key:(Tryz.prog.info? 69).map (λi=>(i.zero,i.size,i.bytes))=some (some (.pointer none),1,8):=by kernel_rfl
  obtain⟨inf,h1,h2⟩:=Option.map_eq_some_iff.1 key;simp only[Prod.mk.injEq] at h2;exact⟨inf,h1,h2.1,h2.2.1,h2.2.2⟩
theorem WA (parts:List (Nat×Value)):Tryz.prog.built 61 parts=Instr.fill (λi=>(#[(0,2),(2,1),(3,1),(4,1),(5,1)]:Array (Nat×Nat))[i]?) #[(.int .i64 0),(.int .i64 0),((.map none)),((.slice none 0 0)),(.int .i64 0),(.int .i64 0)] parts:=by kernel_rfl
theorem JE {n:Nat}{c:Cx}{l:Fr}{H:List Ent}{d:Option Nat}{ty:TypeId}{pos:String}{af:Array Edge}{g:Option (Nat×Bool)}{x0:Operand}{r0_0 r0_1:Rp}(h0:ev l x0=some (By [r0_0,r0_1])){x1:Operand}{r1:Rp}(h1:ev l x1=some r1)(u1:r1.one=true):Br Tryz.prog n c l H { dst:=d,op:=.build 61 #[(0,x0),(1,x1)],type:=ty,pos:=pos,after:=af,guard:=g } (By [r0_0,r0_1,r1,rv (.slice none 0 0),rI .i64 0,rI .i64 0]):=λa w Z ha _=>by
  obtain⟨us0,e0,q0⟩:=ha.ev h0;obtain⟨y0_0,y0_1,rfl,q0⟩:=Bg.d2 q0;have p1:=ha.ev h1;have c1:=BK (r1.hone u1 Z _ p1);have cg:∀cs:Array Value,(Value.agg cs).cells=cs:=λ_=>rfl;have hb:Tryz.prog.built 61 [(0,a.eval x0),(1,a.eval x1)]=some #[y0_0,y0_1,a.eval x1,((.slice none 0 0)),(.int .i64 0),(.int .i64 0)]:=by
    rw[WA];generalize a.eval x1=v1 at *;simp[Instr.fill,e0,c1,cg]
  refine⟨.agg #[y0_0,y0_1,a.eval x1,((.slice none 0 0)),(.int .i64 0),(.int .i64 0)],⟨[y0_0,y0_1,a.eval x1,((.slice none 0 0)),(.int .i64 0),(.int .i64 0)],rfl,q0.1,q0.2.1,p1,rfl,rfl,rfl,trivial⟩,?_⟩;have:=run_build w 61 #[(0,a.eval x0),(1,a.eval x1)] _ (by simpa using hb);simp[execOp,this]
theorem Oq (n:Int)(r:Bool)(h:MD n=some r):Fn Tryz.prog GE 57 [rI .i64 n] [] (λR H=>R=rB r∧H=[]):=by
 refine enter (n:=9) Tryz.func57 Aa Tryz.ntmps57 Aa (λw Z=>?_);refine Bd (l':=[(0,rI .i64 n)]) (H':=[]) Aa Aa ?_;unfold MD at h;refine As (wv (r:=rB false) (Aj Aa) (A0 (AD [(2,rB ((decide (0≤n))&&(decide (n≤1073741824))))] [] ?_ ?_)))
 ·refine Ao (wm Aa (wv (Gk Aa Aa) (wm Aa (AG (decide (0≤n)) (λc1=>?_) (λc1=>?_)))))
  ·refine wo c1 (wm Aa (wo c1 (wv (GG Aa Aa) (ER Aa c1 Aa (wa Aa (Ap ?_))))));exact BL c1
  ·refine wf c1 (wf c1 (wv (r:=rB false) (A7 (b:=decide (0≤n)) Aa c1 Aa) (wa Aa (Ap ?_))));exact BL c1
 refine A1 ?_;obtain rfl:=A6 h;exact A4 (B8 Tryz.results57 (AW Aa)) sN ⟨Aa,Aa⟩
theorem QJ (e:Ay)(r:Ay)(h:Pv e=some r):Fn Tryz.prog GE 30 [By (Ab e)] [] (λR H=>R=By (Ab r)∧H=[]):=by
 refine enter (n:=8) Tryz.func30 Aa Tryz.ntmps30 Aa (λw Z=>?_);refine Bd (l':=[(0,By (Ab e))]) (H':=[]) Aa Aa ?_;unfold Pv at h;refine As (BF Aa Aa (λb1=>?_));refine Dn (cs:=[rS ([]:AE),rS ([]:AE),rS ([]:AE),rS ([]:AE),rI .i64 0,rS ([]:AE),rv (.slice none 0 0)]) Pf Aa Aa (λb2=>?_);refine BH (wv (Af C1 Aa Nu Aa Aa) (wv (Ax (i:=1) Pj Aa Aa Aa) ?_));obtain⟨r3,e5,h4⟩:=AX h;refine Dw Tryz.call66 (Vn e.fBody r3 e5) Aa (wv (Af C1 Aa Nu Aa Aa) (Cv (i:=1) Nu Aa Aa (Cj Aa) Aa Aa (cs':=[rS e.fID,rS e.fTenant,rS e.fSource,rS e.fKey,rI .i64 e.fAt,rS e.fCause,Bo 4 (List.map Al r3)]) Aa (H':=[.blk b2 [rS ([]:AE),rS ([]:AE),rS ([]:AE),rS ([]:AE),rI .i64 0,rS ([]:AE),rv (.slice none 0 0)] 33,.blk b1 [rS e.fID,rS e.fTenant,rS e.fSource,rS e.fKey,rI .i64 e.fAt,rS e.fCause,Bo 4 (List.map Al r3)] 33]) Aa (BH (wv (Bm (i:=1) EU Cs Aa Aa Aa Aa) (Ch (i:=0) Cs Aa Aa Aa (C0.c Aa) Aa Aa (cs':=[rS e.fID,rS e.fTenant,rS e.fSource,rS e.fKey,rI .i64 e.fAt,rS e.fCause,Bo 4 (List.map Al r3)]) Aa (H':=[.blk b2 [rS e.fID,rS e.fTenant,rS e.fSource,rS e.fKey,rI .i64 e.fAt,rS e.fCause,Bo 4 (List.map Al r3)] 33,.blk b1 [rS e.fID,rS e.fTenant,rS e.fSource,rS e.fKey,rI .i64 e.fAt,rS e.fCause,Bo 4 (List.map Al r3)] 33]) Aa (A0 (A1 ?_)))))));obtain rfl:=A6 h4;exact A4 (B8 Tryz.results30 (MJ (i:=0) EU Cs Aa Aa Aa)) (sS (sS sN)) ⟨Aa,Aa⟩
theorem R2 (p:AP)(r:(An×(List Ad))×Unit)(h:K0 p=some r):Fn Tryz.prog GE 10 [By (Bk p)] [] (λR H=>∃u0:Nat,∃u0_2:Nat,∃u0_3:Value,∃u0_p2:Value,R=DY [rv (.pointer (some ⟨u0,0,none⟩)),rI .i64 0]∧H=[.blk u0 [rI .i64 r.1.1.fPolicy.fVisible,rI .i64 r.1.1.fPolicy.fReceives,rv (.map (some u0_2)),rv u0_3,rI .i64 r.1.1.fNow,rI .i64 r.1.1.fArrived] 61,.map u0_2 (AR (mP u0_2) r.1.1.fWaiting),.row u0_3 33 7 (List.map Ab r.1.1.fDead),.pool u0_2 u0_p2 71 (List.map Ai r.1.2)]):=by
 refine enter (n:=26) Tryz.func10 Aa Tryz.ntmps10 Aa (λw Z=>?_);refine Bd (l':=[(0,By (Bk p))]) (H':=[]) Aa Aa ?_;unfold K0 at h;refine As (BF Aa Aa (λb1=>?_));refine wv (r:=rv (.pointer none)) (Aj Aa) (wv (r:=rI .i64 0) (Aj Aa) (A0 (Av (AD [(1,rv (.pointer (some ⟨b1,0,none⟩))),(21,rB ((decide (p.fVisible<1))||((decide (1073741824<p.fVisible))||((decide (p.fReceives<1))||(decide (10<p.fReceives))))))] [.blk b1 (Bk p) 23] ?_ ?_))))
 ·refine Ao (wv (Af He Aa BG Aa Aa) (wv (Ax (i:=0) BO Aa Aa Aa) (wv (Cm Aa Aa) (wm Aa (AG (decide (p.fVisible<1)) (λc2=>?_) (λc2=>?_))))))
  ·refine wf c2 (wf c2 (wf c2 (wv (r:=rB true) (Ar (b:=decide (p.fVisible<1)) Aa c2 Aa) (wm Aa (Ak (b:=true) Aa Aa Aa Aa (Ak (b:=true) Aa Aa Aa Aa (Ak (b:=true) Aa Aa Aa Aa (wv (r:=rB true) (Ar (b:=true) Aa Aa Aa) (wm Aa (Ak (b:=true) Aa Aa Aa Aa (Ak (b:=true) Aa Aa Aa Aa (Ak (b:=true) Aa Aa Aa Aa (wv (r:=rB true) (Ar (b:=true) Aa Aa Aa) (Ap ?_))))))))))))));exact BL c2
  ·refine wo c2 (wv (Af He Aa BG Aa Aa) (wo c2 (wv (Ax (i:=0) BO Aa Aa Aa) (wo c2 (wv (C3 Aa Aa) (Dy Aa c2 Aa (wm Aa (AG (decide (1073741824<p.fVisible)) (λc3=>?_) (λc3=>?_)))))))))
   ·refine wf c3 (wf c3 (wf c3 (wv (r:=rB true) (Ar (b:=decide (1073741824<p.fVisible)) Aa c3 Aa) (wm Aa (Ak (b:=true) Aa Aa Aa Aa (Ak (b:=true) Aa Aa Aa Aa (Ak (b:=true) Aa Aa Aa Aa (wv (r:=rB true) (Ar (b:=true) Aa Aa Aa) (Ap ?_)))))))));exact BL (And.intro c2 c3)
   ·refine wo c3 (wv (Af He Aa BG Aa Aa) (wo c3 (wv (Ax (i:=0) BO Aa Aa Aa) (wo c3 (wv (Cm Aa Aa) (Dy Aa c3 Aa (wm Aa (AG (decide (p.fReceives<1)) (λc4=>?_) (λc4=>?_)))))))))
    ·refine wf c4 (wf c4 (wf c4 (wv (r:=rB true) (Ar (b:=decide (p.fReceives<1)) Aa c4 Aa) (Ap ?_))));exact BL (And.intro c2 (And.intro c3 c4))
    ·refine wo c4 (wv (Af He Aa BG Aa Aa) (wo c4 (wv (Ax (i:=0) BO Aa Aa Aa) (wo c4 (wv (C3 Aa Aa) (Dy Aa c4 Aa (Ap ?_)))))));exact BL (And.intro c2 (And.intro c3 c4))
 refine A2 (b:=((decide (p.fVisible<1))||((decide (1073741824<p.fVisible))||((decide (p.fReceives<1))||(decide (10<p.fReceives)))))) Aa (λc5=>?_) (λc5=>?_)
 ·have h6:=AM c5 h;exact As (wv (r:=rv (.pointer none)) (Aj rfl) (wv (r:=rI .i64 2) (Aj rfl) (A0 (A1 (Am (nomatch h6))))))
 ·have h7:=AN c5 h;refine A5 (Bb (As (wv (Bm (i:=0) Q3 Kn Aa Aa Aa Aa) (IG (e:=71) Aa (λb8=>?_)))));refine wv (r:=By [rI .i64 p.fVisible,rI .i64 p.fReceives,rv (.map (some b8)),rv (.slice none 0 0),rI .i64 0,rI .i64 0]) (JE Aa Aa Aa) (BF Aa Aa (λb9=>?_));refine wa Aa (wv (r:=rI .i64 0) (Aj Aa) (A0 (A1 (WK.nilrow (e:=33) (sz:=7) (BB (H2:=[.blk b9 [rI .i64 p.fVisible,rI .i64 p.fReceives,rv (.map (some b8)),rv (.slice none 0 0),rI .i64 0,rI .i64 0] 61,.map b8 (AR (mP b8) ([]:List (AE×Int))),.row (.slice none 0 0                                 ) 33 7 (List.map Ab ([]:List Ay)),.pool b8 (.tuple #[]) 71 (List.map Ai ([]:List Ad)),.blk b1 (Bk p) 23]) ((Ah (i:=1) Aa).trans (YY _ ((Ah (i:=2) Aa).trans (YY _ (Zb _))))) ?_)))));obtain rfl:=A6 h7;exact A4 (In Tryz.results10 (AW Aa) (AW Aa)) (sC (sC (sC (sC (sS sN))))) ⟨b9,b8,(.slice none 0 0                                 ),(.tuple #[]),Aa,Aa⟩
theorem R3 (p:AP)(r:Unit×Unit)(h:Pw p=some r):Fn Tryz.prog GE 10 [By (Bk p)] [] (λR H=>R=DY [rv (.pointer none),rI .i64 2]∧H=[]):=by
 refine enter (n:=26) Tryz.func10 Aa Tryz.ntmps10 Aa (λw Z=>?_);refine Bd (l':=[(0,By (Bk p))]) (H':=[]) Aa Aa ?_;unfold Pw at h;refine As (BF Aa Aa (λb1=>?_));refine wv (r:=rv (.pointer none)) (Aj Aa) (wv (r:=rI .i64 0) (Aj Aa) (A0 (Av (AD [(1,rv (.pointer (some ⟨b1,0,none⟩))),(21,rB ((decide (p.fVisible<1))||((decide (1073741824<p.fVisible))||((decide (p.fReceives<1))||(decide (10<p.fReceives))))))] [.blk b1 (Bk p) 23] ?_ ?_))))
 ·refine Ao (wv (Af He Aa BG Aa Aa) (wv (Ax (i:=0) BO Aa Aa Aa) (wv (Cm Aa Aa) (wm Aa (AG (decide (p.fVisible<1)) (λc2=>?_) (λc2=>?_))))))
  ·refine wf c2 (wf c2 (wf c2 (wv (r:=rB true) (Ar (b:=decide (p.fVisible<1)) Aa c2 Aa) (wm Aa (Ak (b:=true) Aa Aa Aa Aa (Ak (b:=true) Aa Aa Aa Aa (Ak (b:=true) Aa Aa Aa Aa (wv (r:=rB true) (Ar (b:=true) Aa Aa Aa) (wm Aa (Ak (b:=true) Aa Aa Aa Aa (Ak (b:=true) Aa Aa Aa Aa (Ak (b:=true) Aa Aa Aa Aa (wv (r:=rB true) (Ar (b:=true) Aa Aa Aa) (Ap ?_))))))))))))));exact BL c2
  ·refine wo c2 (wv (Af He Aa BG Aa Aa) (wo c2 (wv (Ax (i:=0) BO Aa Aa Aa) (wo c2 (wv (C3 Aa Aa) (Dy Aa c2 Aa (wm Aa (AG (decide (1073741824<p.fVisible)) (λc3=>?_) (λc3=>?_)))))))))
   ·refine wf c3 (wf c3 (wf c3 (wv (r:=rB true) (Ar (b:=decide (1073741824<p.fVisible)) Aa c3 Aa) (wm Aa (Ak (b:=true) Aa Aa Aa Aa (Ak (b:=true) Aa Aa Aa Aa (Ak (b:=true) Aa Aa Aa Aa (wv (r:=rB true) (Ar (b:=true) Aa Aa Aa) (Ap ?_)))))))));exact BL (And.intro c2 c3)
   ·refine wo c3 (wv (Af He Aa BG Aa Aa) (wo c3 (wv (Ax (i:=0) BO Aa Aa Aa) (wo c3 (wv (Cm Aa Aa) (Dy Aa c3 Aa (wm Aa (AG (decide (p.fReceives<1)) (λc4=>?_) (λc4=>?_)))))))))
    ·refine wf c4 (wf c4 (wf c4 (wv (r:=rB true) (Ar (b:=decide (p.fReceives<1)) Aa c4 Aa) (Ap ?_))));exact BL (And.intro c2 (And.intro c3 c4))
    ·refine wo c4 (wv (Af He Aa BG Aa Aa) (wo c4 (wv (Ax (i:=0) BO Aa Aa Aa) (wo c4 (wv (C3 Aa Aa) (Dy Aa c4 Aa (Ap ?_)))))));exact BL (And.intro c2 (And.intro c3 c4))
 refine A2 (b:=((decide (p.fVisible<1))||((decide (1073741824<p.fVisible))||((decide (p.fReceives<1))||(decide (10<p.fReceives)))))) Aa (λc5=>?_) (λc5=>?_)
 ·have h6:=AM c5 h;refine As (wv (r:=rv (.pointer none)) (Aj Aa) (wv (r:=rI .i64 2) (Aj Aa) (A0 (A1 (Am ?_)))));obtain rfl:=A6 h6;exact A4 (In Tryz.results10 (AW Aa) (AW Aa)) (sS sN) ⟨Aa,Aa⟩
 ·have h7:=AN c5 h;refine A5 (Bb (As (wv (Bm (i:=0) Q3 Kn Aa Aa Aa Aa) (IG (e:=71) Aa (λb8=>?_)))));refine wv (r:=By [rI .i64 p.fVisible,rI .i64 p.fReceives,rv (.map (some b8)),rv (.slice none 0 0),rI .i64 0,rI .i64 0]) (JE Aa Aa Aa) (BF Aa Aa (λb9=>?_));exact wa rfl (wv (r:=rI .i64 0) (Aj rfl) (A0 (A1 (nomatch h7))))
theorem Jo (ha:Nat)(hb:Nat)(hd:Value)(q:An)(r:Bool)(h:WR q=some r):Fn Tryz.prog GE 34 [rv (.pointer (some ⟨ha,0,none⟩))] [.blk ha [rI .i64 q.fPolicy.fVisible,rI .i64 q.fPolicy.fReceives,rv (.map (some hb)),rv hd,rI .i64 q.fNow,rI .i64 q.fArrived] 61] (λR H=>R=rB r∧H=[.blk ha [rI .i64 q.fPolicy.fVisible,rI .i64 q.fPolicy.fReceives,rv (.map (some hb)),rv hd,rI .i64 q.fNow,rI .i64 q.fArrived] 61]):=by
 refine enter (n:=12) Tryz.func34 Aa Tryz.ntmps34 Aa (λw Z=>?_);refine Bd (l':=[(0,rv (.pointer (some ⟨ha,0,none⟩)))]) (H':=[.blk ha [rI .i64 q.fPolicy.fVisible,rI .i64 q.fPolicy.fReceives,rv (.map (some hb)),rv hd,rI .i64 q.fNow,rI .i64 q.fArrived] 61]) Aa Aa ?_;unfold WR at h;refine As (wv (r:=rB false) (Aj Aa) (A0 (AD [(2,rB true)] [.blk ha [rI .i64 q.fPolicy.fVisible,rI .i64 q.fPolicy.fReceives,rv (.map (some hb)),rv hd,rI .i64 q.fNow,rI .i64 q.fArrived] 61] ?_ ?_)))
 ·refine Ao (wm Aa (wv (r:=rB true) (NH ⟨_,Xc⟩ Aa) (wm Aa (Be (b:=true) Aa Aa Aa (wm Aa (Be (b:=true) Aa Aa Aa (wv (AO Aa) (Be (b:=true) Aa Aa Aa (wv (Af ET Aa LV Aa Aa) (Be (b:=true) Aa Aa Aa (wv (Ax (i:=0) LW Aa Aa Aa) (Be (b:=true) Aa Aa Aa (wv (r:=rB true) (Tj (v:=some hb) LU Aa) (wv (r:=rB true) (Ar (b:=true) Aa Aa Aa) (wa Aa (Ap ?_))))))))))))))));exact wt
 refine A1 ?_;obtain rfl:=A6 h;exact A4 (B8 Tryz.results34 (AW Aa)) (sC sN) ⟨Aa,Aa⟩
theorem QN (ha:Nat)(hb:Nat)(hd:Value)(q:An)(now:Int)(r:Bool)(h:K3 q now=some r):Fn Tryz.prog GE 37 [rv (.pointer (some ⟨ha,0,none⟩)),rI .i64 now] [.blk ha [rI .i64 q.fPolicy.fVisible,rI .i64 q.fPolicy.fReceives,rv (.map (some hb)),rv hd,rI .i64 q.fNow,rI .i64 q.fArrived] 61] (λR H=>R=rB r∧H=[.blk ha [rI .i64 q.fPolicy.fVisible,rI .i64 q.fPolicy.fReceives,rv (.map (some hb)),rv hd,rI .i64 q.fNow,rI .i64 q.fArrived] 61]):=by
 refine enter (n:=19) Tryz.func37 Aa Tryz.ntmps37 Aa (λw Z=>?_);refine Bd (l':=[(0,rv (.pointer (some ⟨ha,0,none⟩))),(1,rI .i64 now)]) (H':=[.blk ha [rI .i64 q.fPolicy.fVisible,rI .i64 q.fPolicy.fReceives,rv (.map (some hb)),rv hd,rI .i64 q.fNow,rI .i64 q.fArrived] 61]) Aa Aa ?_;unfold K3 at h;refine As (wv (r:=rB false) (Aj Aa) (A0 (Ds (S:=(Bool)×(Unit)) (λσ=>EK σ.1=some r) (λσ=>[(4,rB σ.1)]) (λσ=>[.blk ha [rI .i64 q.fPolicy.fVisible,rI .i64 q.fPolicy.fReceives,rv (.map (some hb)),rv hd,rI .i64 q.fNow,rI .i64 q.fArrived] 61]) ?_ ?_)))
 ·refine Ao (wm Aa (D6 (Hr:=[]) S4 (Jo ha hb hd (An.mk q.fPolicy [] ([]:List Ay) q.fNow q.fArrived) true Aa) Aa (Zb _) Aa ?_));rintro _ _ ⟨rfl,rfl⟩;refine wm Aa (Be (b:=true) Aa Aa Aa (wm Aa (Be (b:=true) Aa Aa Aa (wm Aa (Be (b:=true) Aa Aa Aa (wv (AO Aa) (Be (b:=true) Aa Aa Aa (wv (Af ET Aa BG Aa Aa) (Be (b:=true) Aa Aa Aa (wv (Ax (i:=0) BO Aa Aa Aa) (Be (b:=true) Aa Aa Aa (wv (Gk Aa Aa) (wv (r:=rB (decide (q.fNow≤now))) (Ar (b:=true) Aa Aa Aa) (wm Aa (AG (decide (q.fNow≤now)) (λc5=>?_) (λc5=>?_))))))))))))))))
  ·have h6:=AM c5 h;exact wo c5 (wm Aa (wo c5 (wv (GG Aa Aa) (ER Aa c5 Aa (wa Aa (Ap (Az (AJ (decide (now≤1073741824),()) h6 (AT.c Aa AT.nil) (sC sN)))))))))
  ·have h7:=AN c5 h;exact wf c5 (wf c5 (wv (r:=rB false) (A7 (b:=decide (q.fNow≤now)) Aa c5 Aa) (wa Aa (Ap (Az (AJ (false,()) h7 (AT.c Aa AT.nil) (sC sN)))))))
 ·rintro⟨x4,⟨⟩⟩ h8;refine Bd (l':=[(4,rB x4)]) (H':=[.blk ha [rI .i64 q.fPolicy.fVisible,rI .i64 q.fPolicy.fReceives,rv (.map (some hb)),rv hd,rI .i64 q.fNow,rI .i64 q.fArrived] 61]) Aa Aa ?_;replace h8:EK x4=some r:=h8;unfold EK at h8;refine A1 ?_;obtain rfl:=A6 h8;exact A4 (B8 Tryz.results37 (AW Aa)) (sC sN) ⟨Aa,Aa⟩
theorem R1 (ha:Nat)(hb:Nat)(hd:Value)(k_x:Nat)(p_x:Value)(q:An)(x:Int)(x_p:(List Ad))(now:Int)(r:Bool)(h:N6 q x x_p now=some r):Fn Tryz.prog GE 40 [rv (.pointer (some ⟨ha,0,none⟩)),Cw k_x x 0,rI .i64 now] [.blk ha [rI .i64 q.fPolicy.fVisible,rI .i64 q.fPolicy.fReceives,rv (.map (some hb)),rv hd,rI .i64 q.fNow,rI .i64 q.fArrived] 61,.pool k_x p_x 71 (List.map Ai x_p)] (λR H=>R=rB r∧H=[.blk ha [rI .i64 q.fPolicy.fVisible,rI .i64 q.fPolicy.fReceives,rv (.map (some hb)),rv hd,rI .i64 q.fNow,rI .i64 q.fArrived] 61,.pool k_x p_x 71 (List.map Ai x_p)]):=by
 refine enter (n:=25) Tryz.func40 Aa Tryz.ntmps40 Aa (λw Z=>?_);refine Bd (l':=[(0,rv (.pointer (some ⟨ha,0,none⟩))),(1,Cw k_x x 0),(2,rI .i64 now)]) (H':=[.blk ha [rI .i64 q.fPolicy.fVisible,rI .i64 q.fPolicy.fReceives,rv (.map (some hb)),rv hd,rI .i64 q.fNow,rI .i64 q.fArrived] 61,.pool k_x p_x 71 (List.map Ai x_p)]) Aa Aa ?_;unfold N6 at h;refine As (wv (r:=rB false) (Aj Aa) (A0 ?_));obtain⟨g1,h2⟩:=AA h;obtain⟨g3,h4⟩:=AA h2;refine AD [(6,rB ((decide (((Ac x_p x).fAt)≤now))&&(decide (q.fPolicy.fReceives≤((Ac x_p x).fReceives)))))] [.blk ha [rI .i64 q.fPolicy.fVisible,rI .i64 q.fPolicy.fReceives,rv (.map (some hb)),rv hd,rI .i64 q.fNow,rI .i64 q.fArrived] 61,.pool k_x p_x 71 (List.map Ai x_p)] ?_ ?_
 ·refine AG (decide (((Ac x_p x).fAt)≤now)) (λc5=>?_) (λc5=>?_)
  ·refine CH [0,1,2] [⟨[],Cw k_x x 0,0⟩,⟨[0],Cw k_x x 0,0⟩,⟨[1],Cw k_x x 7,0⟩,⟨[2],rI .i64 ((Ac x_p x).fAt),1⟩,⟨[],rI .i64 now,0⟩,⟨[3,4],rB (decide (((Ac x_p x).fAt)≤now)),0⟩,⟨[5],rB (decide (((Ac x_p x).fAt)≤now)),0⟩,⟨[6],Cw k_x x 0,0⟩,⟨[7,6],Cw k_x x 0,0⟩,⟨[8,6],Cw k_x x 8,0⟩,⟨[9,6],rI .i64 ((Ac x_p x).fReceives),1⟩,⟨[6],rv (.pointer (some ⟨ha,0,none⟩)),0⟩,⟨[11,6],rv (.pointer (some ⟨ha,0,none⟩)),0⟩,⟨[12,6],rv (.pointer (some ⟨ha,0,none⟩)),0⟩,⟨[13,6],rv (.pointer (some ⟨ha,1,none⟩)),0⟩,⟨[14,6],rI .i64 q.fPolicy.fReceives,1⟩,⟨[10,15,6],rB (decide (q.fPolicy.fReceives≤((Ac x_p x).fReceives))),0⟩,⟨[6,16],rB (decide (q.fPolicy.fReceives≤((Ac x_p x).fReceives))),0⟩,⟨[17],rB (decide (q.fPolicy.fReceives≤((Ac x_p x).fReceives))),0⟩] [6] ?_ ?_
   ·refine oq (At Aa) (oq (Bz Aa g1) (oq (C9 Hd Aa BG Aa g1 Aa) (of (De (enc:=Ai) (xs:=x_p) (j:=1) BO Aa Aa g3 Aa) (oq (At Aa) (oq (GG Aa Aa) (oq (At Aa) (on c5 (oq (At Aa) (on c5 (oq (Bz Aa g1) (on c5 (oq (C9 Hd Aa BG Aa g1 Aa) (on c5 (of (De (enc:=Ai) (xs:=x_p) (j:=1) BO Aa Aa g3 Aa) (on c5 (oq (At Aa) (on c5 (oq (AO Aa) (on c5 (oq (Af ET Aa Kn Aa Aa) (on c5 (oq (Af He Aa BG Aa Aa) (on c5 ?_)))))))))))))))))))))));refine of (Ax (i:=0) BO Aa Aa Aa) (on c5 (oq (Gk Aa Aa) (oq (Ar Aa c5 Aa) (oq (Aj Aa) ?_))));exact CE
   exact BL c5
  ·refine CH [0,1,2] [⟨[],Cw k_x x 0,0⟩,⟨[0],Cw k_x x 0,0⟩,⟨[1],Cw k_x x 7,0⟩,⟨[2],rI .i64 ((Ac x_p x).fAt),1⟩,⟨[],rI .i64 now,0⟩,⟨[3,4],rB (decide (((Ac x_p x).fAt)≤now)),0⟩,⟨[5],rB (decide (((Ac x_p x).fAt)≤now)),0⟩,⟨[6],rv undef,0⟩,⟨[7,6],rv undef,0⟩,⟨[8,6],rv undef,0⟩,⟨[9,6],rv undef,0⟩,⟨[6],rv undef,0⟩,⟨[11,6],rv undef,0⟩,⟨[12,6],rv undef,0⟩,⟨[13,6],rv undef,0⟩,⟨[14,6],rv undef,0⟩,⟨[10,15,6],rv undef,0⟩,⟨[6,16],rB false,0⟩,⟨[17],rB false,0⟩] [6] ?_ ?_
   ·refine oq (At Aa) (oq (Bz Aa g1) (oq (C9 Hd Aa BG Aa g1 Aa) (of (De (enc:=Ai) (xs:=x_p) (j:=1) BO Aa Aa g3 Aa) (oq (At Aa) (oq (GG Aa Aa) (oq (At Aa) (oz c5 (oz c5 (oz c5 (oz c5 (oz c5 (oz c5 (oz c5 (oz c5 (oz c5 (oz c5 (oq (A7 (b:=decide (((Ac x_p x).fAt)≤now)) Aa c5 Aa) (oq (Aj Aa) ?_))))))))))))))))));exact CE
   exact BL c5
 refine A1 ?_;obtain rfl:=A6 h4;exact A4 (B8 Tryz.results40 (AW Aa)) (sC (sC sN)) ⟨Aa,Aa⟩
theorem Xk (k_x:Nat)(p_x:Value)(hb:Nat)(ha:Nat)(he:Nat)(hf:Value)(hd:Nat)(x:Int)(x_p:(List Ad))(q:An)(now:Int)(r:Bool)(h:VQ x x_p q now=some r):Fn Tryz.prog GE 60 [Cw k_x x 0,rv (.pointer (some ⟨hb,0,none⟩)),rv (.pointer (some ⟨hd,0,none⟩))] [.pool k_x p_x 71 (List.map Ai x_p),.blk hb [rv (.pointer (some ⟨ha,0,none⟩))] 27,.blk ha [rI .i64 q.fPolicy.fVisible,rI .i64 q.fPolicy.fReceives,rv (.map (some he)),rv hf,rI .i64 q.fNow,rI .i64 q.fArrived] 61,.blk hd [rI .i64 now] 3] (λR H=>R=rB r∧H=[.pool k_x p_x 71 (List.map Ai x_p),.blk hb [rv (.pointer (some ⟨ha,0,none⟩))] 27,.blk ha [rI .i64 q.fPolicy.fVisible,rI .i64 q.fPolicy.fReceives,rv (.map (some he)),rv hf,rI .i64 q.fNow,rI .i64 q.fArrived] 61,.blk hd [rI .i64 now] 3]):=by
 refine enter (n:=9) Tryz.func60 Aa Tryz.ntmps60 Aa (λw Z=>?_);refine Bd (l':=[(0,Cw k_x x 0),(1,rv (.pointer (some ⟨hb,0,none⟩))),(2,rv (.pointer (some ⟨hd,0,none⟩)))]) (H':=[.pool k_x p_x 71 (List.map Ai x_p),.blk hb [rv (.pointer (some ⟨ha,0,none⟩))] 27,.blk ha [rI .i64 q.fPolicy.fVisible,rI .i64 q.fPolicy.fReceives,rv (.map (some he)),rv hf,rI .i64 q.fNow,rI .i64 q.fArrived] 61,.blk hd [rI .i64 now] 3]) Aa Aa ?_;unfold VQ at h;refine As (wv (r:=rB false) (Aj Aa) (BH (wv (Ax (i:=1) J3 Aa Aa Aa) (wm Aa (wv (Ax (i:=3) BO Aa Aa Aa) ?_)))));obtain⟨r1,e3,h2⟩:=AX h;refine D6 (Hr:=[.blk hb [rv (.pointer (some ⟨ha,0,none⟩))] 27,.blk hd [rI .i64 now] 3]) Tryz.call40 (R1 ha he hf k_x p_x (An.mk q.fPolicy [] ([]:List Ay) q.fNow q.fArrived) x x_p now r1 e3) Aa ((Ah (i:=2) Aa).trans (YY _ (Zb _))) Aa ?_;rintro _ _ ⟨rfl,rfl⟩;refine wa Aa (A0 (A1 (BB (H2:=[.pool k_x p_x 71 (List.map Ai x_p),.blk hb [rv (.pointer (some ⟨ha,0,none⟩))] 27,.blk ha [rI .i64 q.fPolicy.fVisible,rI .i64 q.fPolicy.fReceives,rv (.map (some he)),rv hf,rI .i64 q.fNow,rI .i64 q.fArrived] 61,.blk hd [rI .i64 now] 3]) ((Ah (i:=1) Aa).trans (YY _ ((Ah (i:=1) Aa).trans (YY _ (Zb _))))) ?_)));obtain rfl:=A6 h2;exact A4 (B8 Tryz.results60 (AW Aa)) (sC (sC (sC (sC sN)))) ⟨Aa,Aa⟩
theorem QH (hb:Nat)(ha:Nat)(hd:Value)(hg:Value)(he:Nat)(hf:Nat)(q:An)(q_p2:(List Ad))(now:Int)(r:(List Int))(h:IM q q_p2 now=some r):Fn Tryz.prog GE 27 [rv (.pointer (some ⟨hb,0,none⟩)),rv (.func (.func 60) #[] #[(.pointer (some ⟨he,0,none⟩)),(.pointer (some ⟨hf,0,none⟩))])] [.blk hb [rI .i64 q.fPolicy.fVisible,rI .i64 q.fPolicy.fReceives,rv (.map (some ha)),rv hd,rI .i64 q.fNow,rI .i64 q.fArrived] 61,.map ha (AR (mP ha) q.fWaiting),.row hd 33 7 (List.map Ab q.fDead),.pool ha hg 71 (List.map Ai q_p2),.blk he [rv (.pointer (some ⟨hb,0,none⟩))] 27,.blk hf [rI .i64 now] 3] (λR H=>∃u0:Value,R=rv u0∧H=[.row u0 69 1 (List.map (eP ha) r),.blk hb [rI .i64 q.fPolicy.fVisible,rI .i64 q.fPolicy.fReceives,rv (.map (some ha)),rv hd,rI .i64 q.fNow,rI .i64 q.fArrived] 61,.map ha (AR (mP ha) q.fWaiting),.row hd 33 7 (List.map Ab q.fDead),.pool ha hg 71 (List.map Ai q_p2),.blk he [rv (.pointer (some ⟨hb,0,none⟩))] 27,.blk hf [rI .i64 now] 3]):=by
 refine enter (n:=27) Tryz.func27 Aa VB Aa (λw Z=>?_);refine Bd (l':=[(0,rv (.pointer (some ⟨hb,0,none⟩))),(1,rv (.func (.func 60) #[] #[(.pointer (some ⟨he,0,none⟩)),(.pointer (some ⟨hf,0,none⟩))]))]) (H':=[.blk hb [rI .i64 q.fPolicy.fVisible,rI .i64 q.fPolicy.fReceives,rv (.map (some ha)),rv hd,rI .i64 q.fNow,rI .i64 q.fArrived] 61,.map ha (AR (mP ha) q.fWaiting),.row hd 33 7 (List.map Ab q.fDead),.pool ha hg 71 (List.map Ai q_p2),.blk he [rv (.pointer (some ⟨hb,0,none⟩))] 27,.blk hf [rI .i64 now] 3]) Aa Aa ?_;unfold IM at h;refine As (wv (r:=rv (.slice none 0 0)) (Aj Aa) (BH (wv (r:=rv (.slice none 0 0)) (Aj Aa) (A0 (Av (As (wm Aa (wv (AO Aa) (wv (Af ET Aa LV Aa Aa) (wv (Ax (i:=0) LW Aa Aa Aa) (Md (i:=1) LU Aa Aa Aa (λb1=>?_))))))))))));refine A0 (AV (WC.nilrow (e:=69) (sz:=1) (EV (H2:=[.blk hb [rI .i64 q.fPolicy.fVisible,rI .i64 q.fPolicy.fReceives,rv (.map (some ha)),rv hd,rI .i64 q.fNow,rI .i64 q.fArrived] 61,.mit ha b1 (AR (mP ha) q.fWaiting) (AR (mP ha) q.fWaiting) none,.row hd 33 7 (List.map Ab q.fDead),.pool ha hg 71 (List.map Ai q_p2),.blk he [rv (.pointer (some ⟨hb,0,none⟩))] 27,.blk hf [rI .i64 now] 3,.row (.slice none 0 0                                                                     ) 69 1 (List.map (eP ha) ([]:List Int))]) ((Ah (i:=1) Aa).trans (YY _ ((Ah (i:=1) Aa).trans (YY _ ((Ah (i:=1) Aa).trans (YY _ ((Ah (i:=1) Aa).trans (YY _ ((Ah (i:=1) Aa).trans (YY _ ((Ah (i:=1) Aa).trans (YY _ (Zb _))))))))))))) ?_)));have hu:=OB h;refine B6 (S:=(List (AE×Int))×((List Int))×(Value)) (V:=((List Int))×(Value)) 0 (λσ=>∀qo:List (AE×Int),qo.Perm σ.1→B7 (N1 (λpe τ=>G5 q q_p2 now pe.1 pe.2 τ) qo σ.2.1) (BP λν=>EJ q_p2 ν)=some r) (λσ=>[(1,rv (.func (.func 60) #[] #[(.pointer (some ⟨he,0,none⟩)),(.pointer (some ⟨hf,0,none⟩))])),(4,rv (.slice none 0 0)),(5,rv σ.2.2),(12,rv (.pointer (some ⟨b1,0,none⟩)))]) (λσ=>[.blk hb [rI .i64 q.fPolicy.fVisible,rI .i64 q.fPolicy.fReceives,rv (.map (some ha)),rv hd,rI .i64 q.fNow,rI .i64 q.fArrived] 61,.mit ha b1 (AR (mP ha) q.fWaiting) (AR (mP ha) σ.1) none,.row hd 33 7 (List.map Ab q.fDead),.pool ha hg 71 (List.map Ai q_p2),.blk he [rv (.pointer (some ⟨hb,0,none⟩))] 27,.blk hf [rI .i64 now] 3,.row σ.2.2 69 1 (List.map (eP ha) σ.2.1)]) (λσ=>σ.1.length) (q.fWaiting,([]:List Int),(.slice none 0 0                                                                     )) hu (AT.c Aa (AT.c Aa (AT.c Aa (AT.c Aa AT.nil)))) (sC (sC (sC (sC (sC (sC (sC sN))))))) (λσ=>EJ q_p2 σ.1=some r) (λσ=>[(1,rv (.func (.func 60) #[] #[(.pointer (some ⟨he,0,none⟩)),(.pointer (some ⟨hf,0,none⟩))])),(4,rv (.slice none 0 0)),(5,rv σ.2),(12,rv (.pointer (some ⟨b1,0,none⟩)))]) (λσ=>[.blk hb [rI .i64 q.fPolicy.fVisible,rI .i64 q.fPolicy.fReceives,rv (.map (some ha)),rv hd,rI .i64 q.fNow,rI .i64 q.fArrived] 61,.map ha (AR (mP ha) q.fWaiting),.row hd 33 7 (List.map Ab q.fDead),.pool ha hg 71 (List.map Ai q_p2),.blk he [rv (.pointer (some ⟨hb,0,none⟩))] 27,.blk hf [rI .i64 now] 3,.row σ.2 69 1 (List.map (eP ha) σ.1)]) ?_ ?_
 ·rintro⟨hq,hi,hj⟩ h7;refine Bd (l':=[(1,rv (.func (.func 60) #[] #[(.pointer (some ⟨he,0,none⟩)),(.pointer (some ⟨hf,0,none⟩))])),(4,rv (.slice none 0 0)),(5,rv hj),(12,rv (.pointer (some ⟨b1,0,none⟩)))]) (H':=[.blk hb [rI .i64 q.fPolicy.fVisible,rI .i64 q.fPolicy.fReceives,rv (.map (some ha)),rv hd,rI .i64 q.fNow,rI .i64 q.fArrived] 61,.mit ha b1 (AR (mP ha) q.fWaiting) (AR (mP ha) hq) none,.row hd 33 7 (List.map Ab q.fDead),.pool ha hg 71 (List.map Ai q_p2),.blk he [rv (.pointer (some ⟨hb,0,none⟩))] 27,.blk hf [rI .i64 now] 3,.row hj 69 1 (List.map (eP ha) hi)]) Aa Aa (As (Om (enc:=(mP ha)) (ys:=hq) (i:=1) Aa Aa Aa (λhy=>?_) (λp hk h6=>?_)))
  ·have hw:EJ q_p2 hi=some r:=Mo h7 hy;exact wv (AL Aa Aa) (A0 (Av (D0 Aa Aa (B2 (A8 (WK.unmit (i:=1) Aa (A8 (Bj (AJ (hi,hj) hw (AT.c Aa (AT.c Aa (AT.c Aa (AT.c Aa AT.nil)))) (sC (sC (sC (sC (sC (sC (sC sN))))))))))))))))
  ·obtain⟨hl,hh⟩:=p;obtain⟨t8,hm,h9⟩:=RU h7 h6;replace hm:G5 q q_p2 now hl hh hi=some t8:=hm;unfold G5 at hm;refine Ok (H':=[.blk hb [rI .i64 q.fPolicy.fVisible,rI .i64 q.fPolicy.fReceives,rv (.map (some ha)),rv hd,rI .i64 q.fNow,rI .i64 q.fArrived] 61,.mit ha b1 (AR (mP ha) q.fWaiting) (AR (mP ha) hk) (some (hl,(mP ha) hh)),.row hd 33 7 (List.map Ab q.fDead),.pool ha hg 71 (List.map Ai q_p2),.blk he [rv (.pointer (some ⟨hb,0,none⟩))] 27,.blk hf [rI .i64 now] 3,.row hj 69 1 (List.map (eP ha) hi)]) Aa (wv (AL Aa Aa) (A0 (Av (CW Aa Aa (A5 (Bb (AV (As (wv (r:=DY [rS hl,Cw ha hh 0]) (Mn (i:=1) Aa Aa) (wv (AL Aa Aa) (wa Aa (BH (wm Aa (wm Aa ?_))))))))))))));obtain⟨hr,hx,hs⟩:=AX hm;refine Kt (rs:=[Cw ha hh 0]) (Hin:=[.pool ha hg 71 (List.map Ai q_p2),.blk he [rv (.pointer (some ⟨hb,0,none⟩))] 27,.blk hb [rI .i64 q.fPolicy.fVisible,rI .i64 q.fPolicy.fReceives,rv (.map (some ha)),rv hd,rI .i64 q.fNow,rI .i64 q.fArrived] 61,.blk hf [rI .i64 now] 3]) (Hr:=[.mit ha b1 (AR (mP ha) q.fWaiting) (AR (mP ha) hk) (some (hl,(mP ha) hh)),.row hd 33 7 (List.map Ab q.fDead),.row hj 69 1 (List.map (eP ha) hi)]) Tryz.call60 Aa Aa ((Ah (i:=3) Aa).trans (YY _ ((Ah (i:=3) Aa).trans (YY _ ((Ah (i:=0) Aa).trans (YY _ ((Ah (i:=2) Aa).trans (YY _ (Zb _))))))))) (Xk ha hg he hb ha hd hf hh q_p2 q now hr hx) Aa ?_;rintro _ _ ⟨rfl,rfl⟩;refine A0 (A2 (b:=hr) Aa (λhp=>?_) (λhp=>?_))
   ·have hz:=AM hp hs;refine Ao (wm Aa (wm Aa (C4 (ys:=([hh]:List Int)) (enc:=(eP ha)) (css:=[[Cw ha hh 0]]) (xs:=[.tmp 21]) Km Sv Ss Aa Aa Aa ⟨Pd.one Aa (Up.refl _),trivial⟩ Aa (Je ha) Aa Aa Aa (λh0=>?_))));obtain⟨h1,h2⟩:=AA hz;obtain⟨inf,hinf⟩:=OG;refine D1 (xs:=hi) (ys:=([hh]:List Int)) (enc:=(eP ha)) (i:=7) Km hinf.1 hinf.2.1 hinf.2.2.1 hinf.2.2.2 Aa Aa Aa Aa Aa (Mz.w (i:=0) Aa Aa) (Je ha) (OP ha) h1 Aa (λht=>?_);refine wa Aa (Ap (Ba (WK.uncur (i:=6) Aa (BB (H2:=[.blk hb [rI .i64 q.fPolicy.fVisible,rI .i64 q.fPolicy.fReceives,rv (.map (some ha)),rv hd,rI .i64 q.fNow,rI .i64 q.fArrived] 61,.mit ha b1 (AR (mP ha) q.fWaiting) (AR (mP ha) hk) none,.row hd 33 7 (List.map Ab q.fDead),.pool ha hg 71 (List.map Ai q_p2),.blk he [rv (.pointer (some ⟨hb,0,none⟩))] 27,.blk hf [rI .i64 now] 3,.row ht 69 1 (List.map (eP ha) (hi++([hh]:List Int))),.row (.slice (some ⟨h0,0,none⟩) 1 1) 69 1 (List.map (eP ha) ([hh]:List Int))]) ((Ah (i:=4) Aa).trans (YY _ ((Ah (i:=5) Aa).trans (YY _ ((Ah (i:=5) Aa).trans (YY _ ((Ah (i:=2) Aa).trans (YY _ ((Ah (i:=2) Aa).trans (YY _ ((Ah (i:=2) Aa).trans (YY _ (Zb _))))))))))))) ?_))));have h3:=EL h2 h9;exact Az (AJ (hk,hi++([hh]:List Int),ht) ⟨h3,H5 h6⟩ (AT.c Aa (AT.c Aa (AT.c Aa (AT.c Aa AT.nil)))) (sC (sC (sC (sC (sC (sC (sC (sS sN)))))))))
   ·have h4:=AN hp hs;refine A5 (Ba (WK.uncur (i:=4) Aa (BB (H2:=[.blk hb [rI .i64 q.fPolicy.fVisible,rI .i64 q.fPolicy.fReceives,rv (.map (some ha)),rv hd,rI .i64 q.fNow,rI .i64 q.fArrived] 61,.mit ha b1 (AR (mP ha) q.fWaiting) (AR (mP ha) hk) none,.row hd 33 7 (List.map Ab q.fDead),.pool ha hg 71 (List.map Ai q_p2),.blk he [rv (.pointer (some ⟨hb,0,none⟩))] 27,.blk hf [rI .i64 now] 3,.row hj 69 1 (List.map (eP ha) hi)]) ((Ah (i:=2) Aa).trans (YY _ ((Ah (i:=3) Aa).trans (YY _ ((Ah (i:=3) Aa).trans (YY _ (Zb _))))))) ?_)));have h5:=EL h4 h9;exact Az (AJ (hk,hi,hj) ⟨h5,H5 h6⟩ (AT.c Aa (AT.c Aa (AT.c Aa (AT.c Aa AT.nil)))) (sC (sC (sC (sC (sC (sC (sC sN))))))))
 ·rintro⟨hn,v55⟩ ho;refine C7 (l':=[(1,rv (.func (.func 60) #[] #[(.pointer (some ⟨he,0,none⟩)),(.pointer (some ⟨hf,0,none⟩))])),(4,rv (.slice none 0 0)),(5,rv v55),(12,rv (.pointer (some ⟨b1,0,none⟩)))]) (H':=[.blk hb [rI .i64 q.fPolicy.fVisible,rI .i64 q.fPolicy.fReceives,rv (.map (some ha)),rv hd,rI .i64 q.fNow,rI .i64 q.fArrived] 61,.map ha (AR (mP ha) q.fWaiting),.row hd 33 7 (List.map Ab q.fDead),.pool ha hg 71 (List.map Ai q_p2),.blk he [rv (.pointer (some ⟨hb,0,none⟩))] 27,.blk hf [rI .i64 now] 3,.row v55 69 1 (List.map (eP ha) hn)]) Aa Aa ?_;replace ho:EJ q_p2 hn=some r:=ho;unfold EJ at ho;refine Bh (Bb (As (wm Aa ?_)));obtain⟨h8,hA⟩:=AA ho;obtain⟨hB,hC⟩:=AA hA;obtain⟨hD,hE⟩:=AA hC;refine EA (rs:=[rv v55,rv (.func (.func 62) #[] #[])]) (Hin:=[.row v55 69 1 (List.map (eP ha) hn),.pool ha hg 71 (List.map Ai q_p2)]) (Hr:=[.blk hb [rI .i64 q.fPolicy.fVisible,rI .i64 q.fPolicy.fReceives,rv (.map (some ha)),rv hd,rI .i64 q.fNow,rI .i64 q.fArrived] 61,.map ha (AR (mP ha) q.fWaiting),.row hd 33 7 (List.map Ab q.fDead),.blk he [rv (.pointer (some ⟨hb,0,none⟩))] 27,.blk hf [rI .i64 now] 3]) Tryz.call61 Aa ((Ah (i:=6) Aa).trans (YY _ ((Ah (i:=3) Aa).trans (YY _ (Zb _))))) (Me h8 hB hD) Aa ?_;rintro _ _ ⟨rfl,rfl⟩;refine BH (wm Aa (wa Aa (A0 (A1 (BB (H2:=[.row v55 69 1 (List.map (eP ha) (Gq (λx y:Int=>DU (Ac q_p2 x).fAt (Ac q_p2 y).fAt (Ac q_p2 x).fPlace (Ac q_p2 y).fPlace) hn)),.blk hb [rI .i64 q.fPolicy.fVisible,rI .i64 q.fPolicy.fReceives,rv (.map (some ha)),rv hd,rI .i64 q.fNow,rI .i64 q.fArrived] 61,.map ha (AR (mP ha) q.fWaiting),.row hd 33 7 (List.map Ab q.fDead),.pool ha hg 71 (List.map Ai q_p2),.blk he [rv (.pointer (some ⟨hb,0,none⟩))] 27,.blk hf [rI .i64 now] 3]) ((Ah (i:=0) Aa).trans (YY _ ((Ah (i:=1) Aa).trans (YY _ ((Ah (i:=1) Aa).trans (YY _ ((Ah (i:=1) Aa).trans (YY _ (Zb _))))))))) ?_)))));obtain rfl:=A6 hE;exact A4 (B8 VA (AW Aa)) (sC (sC (sC (sC (sC (sC (sC sN))))))) ⟨v55,Aa,Aa⟩
theorem Xh (k_x:Nat)(p_x:Value)(ha:Nat)(x:Int)(x_p:(List Ad))(now:Int)(r:Bool)(h:VL x x_p now=some r):Fn Tryz.prog GE 28 [Cw k_x x 0,rv (.pointer (some ⟨ha,0,none⟩))] [.pool k_x p_x 71 (List.map Ai x_p),.blk ha [rI .i64 now] 3] (λR H=>R=rB r∧H=[.pool k_x p_x 71 (List.map Ai x_p),.blk ha [rI .i64 now] 3]):=by
 refine enter (n:=10) Tryz.func28 Aa Tryz.ntmps28 Aa (λw Z=>?_);refine Bd (l':=[(0,Cw k_x x 0),(1,rv (.pointer (some ⟨ha,0,none⟩)))]) (H':=[.pool k_x p_x 71 (List.map Ai x_p),.blk ha [rI .i64 now] 3]) Aa Aa ?_;unfold VL at h;refine As (wv (r:=rB false) (Aj Aa) (A0 (Av ?_)));obtain⟨g1,h2⟩:=AA h;obtain⟨g3,h4⟩:=AA h2;refine CH [0,1] [⟨[],Cw k_x x 0,0⟩,⟨[0],Cw k_x x 0,0⟩,⟨[1],Cw k_x x 7,0⟩,⟨[2],rI .i64 ((Ac x_p x).fAt),1⟩,⟨[],rI .i64 now,1⟩,⟨[3,4],rB (decide (((Ac x_p x).fAt)≤now)),0⟩,⟨[5],rB (decide (((Ac x_p x).fAt)≤now)),0⟩] [3] ?_ ?_
 ·refine oq (At Aa) (oq (Bz Aa g1) (oq (C9 Hd Aa BG Aa g1 Aa) (of (De (enc:=Ai) (xs:=x_p) (j:=0) BO Aa Aa g3 Aa) (of (Ax (i:=1) BO Aa Aa Aa) (oq (GG Aa Aa) (oq (Aj Aa) ?_))))));exact CE
 refine Bb (A1 ?_);obtain rfl:=A6 h4;exact A4 (B8 Tryz.results28 (AW Aa)) (sC (sC sN)) ⟨Aa,Aa⟩
theorem QE (he:Nat)(ha:Nat)(hb:Value)(hf:Value)(hd:Nat)(q:An)(q_p2:(List Ad))(now:Int)(r:(List Int))(h:IJ q q_p2 now=some r):Fn Tryz.prog GE 27 [rv (.pointer (some ⟨he,0,none⟩)),rv (.func (.func 28) #[] #[(.pointer (some ⟨hd,0,none⟩))])] [.blk he [rI .i64 q.fPolicy.fVisible,rI .i64 q.fPolicy.fReceives,rv (.map (some ha)),rv hb,rI .i64 q.fNow,rI .i64 q.fArrived] 61,.map ha (AR (mP ha) q.fWaiting),.row hb 33 7 (List.map Ab q.fDead),.pool ha hf 71 (List.map Ai q_p2),.blk hd [rI .i64 now] 3] (λR H=>∃u0:Value,R=rv u0∧H=[.row u0 69 1 (List.map (eP ha) r),.blk he [rI .i64 q.fPolicy.fVisible,rI .i64 q.fPolicy.fReceives,rv (.map (some ha)),rv hb,rI .i64 q.fNow,rI .i64 q.fArrived] 61,.map ha (AR (mP ha) q.fWaiting),.row hb 33 7 (List.map Ab q.fDead),.pool ha hf 71 (List.map Ai q_p2),.blk hd [rI .i64 now] 3]):=by
 refine enter (n:=27) Tryz.func27 Aa VB Aa (λw Z=>?_);refine Bd (l':=[(0,rv (.pointer (some ⟨he,0,none⟩))),(1,rv (.func (.func 28) #[] #[(.pointer (some ⟨hd,0,none⟩))]))]) (H':=[.blk he [rI .i64 q.fPolicy.fVisible,rI .i64 q.fPolicy.fReceives,rv (.map (some ha)),rv hb,rI .i64 q.fNow,rI .i64 q.fArrived] 61,.map ha (AR (mP ha) q.fWaiting),.row hb 33 7 (List.map Ab q.fDead),.pool ha hf 71 (List.map Ai q_p2),.blk hd [rI .i64 now] 3]) Aa Aa ?_;unfold IJ at h;refine As (wv (r:=rv (.slice none 0 0)) (Aj Aa) (BH (wv (r:=rv (.slice none 0 0)) (Aj Aa) (A0 (Av (As (wm Aa (wv (AO Aa) (wv (Af ET Aa LV Aa Aa) (wv (Ax (i:=0) LW Aa Aa Aa) (Md (i:=1) LU Aa Aa Aa (λb1=>?_))))))))))));refine A0 (AV (WC.nilrow (e:=69) (sz:=1) (EV (H2:=[.blk he [rI .i64 q.fPolicy.fVisible,rI .i64 q.fPolicy.fReceives,rv (.map (some ha)),rv hb,rI .i64 q.fNow,rI .i64 q.fArrived] 61,.mit ha b1 (AR (mP ha) q.fWaiting) (AR (mP ha) q.fWaiting) none,.row hb 33 7 (List.map Ab q.fDead),.pool ha hf 71 (List.map Ai q_p2),.blk hd [rI .i64 now] 3,.row (.slice none 0 0                                                                     ) 69 1 (List.map (eP ha) ([]:List Int))]) ((Ah (i:=1) Aa).trans (YY _ ((Ah (i:=1) Aa).trans (YY _ ((Ah (i:=1) Aa).trans (YY _ ((Ah (i:=1) Aa).trans (YY _ ((Ah (i:=1) Aa).trans (YY _ (Zb _))))))))))) ?_)));have ht:=OB h;refine B6 (S:=(List (AE×Int))×((List Int))×(Value)) (V:=((List Int))×(Value)) 0 (λσ=>∀qo:List (AE×Int),qo.Perm σ.1→B7 (N1 (λpe τ=>G2 q_p2 now pe.1 pe.2 τ) qo σ.2.1) (BP λν=>EG q_p2 ν)=some r) (λσ=>[(1,rv (.func (.func 28) #[] #[(.pointer (some ⟨hd,0,none⟩))])),(4,rv (.slice none 0 0)),(5,rv σ.2.2),(12,rv (.pointer (some ⟨b1,0,none⟩)))]) (λσ=>[.blk he [rI .i64 q.fPolicy.fVisible,rI .i64 q.fPolicy.fReceives,rv (.map (some ha)),rv hb,rI .i64 q.fNow,rI .i64 q.fArrived] 61,.mit ha b1 (AR (mP ha) q.fWaiting) (AR (mP ha) σ.1) none,.row hb 33 7 (List.map Ab q.fDead),.pool ha hf 71 (List.map Ai q_p2),.blk hd [rI .i64 now] 3,.row σ.2.2 69 1 (List.map (eP ha) σ.2.1)]) (λσ=>σ.1.length) (q.fWaiting,([]:List Int),(.slice none 0 0                                                                     )) ht (AT.c Aa (AT.c Aa (AT.c Aa (AT.c Aa AT.nil)))) (sC (sC (sC (sC (sC (sC sN)))))) (λσ=>EG q_p2 σ.1=some r) (λσ=>[(1,rv (.func (.func 28) #[] #[(.pointer (some ⟨hd,0,none⟩))])),(4,rv (.slice none 0 0)),(5,rv σ.2),(12,rv (.pointer (some ⟨b1,0,none⟩)))]) (λσ=>[.blk he [rI .i64 q.fPolicy.fVisible,rI .i64 q.fPolicy.fReceives,rv (.map (some ha)),rv hb,rI .i64 q.fNow,rI .i64 q.fArrived] 61,.map ha (AR (mP ha) q.fWaiting),.row hb 33 7 (List.map Ab q.fDead),.pool ha hf 71 (List.map Ai q_p2),.blk hd [rI .i64 now] 3,.row σ.2 69 1 (List.map (eP ha) σ.1)]) ?_ ?_
 ·rintro⟨hp,hh,hi⟩ h7;refine Bd (l':=[(1,rv (.func (.func 28) #[] #[(.pointer (some ⟨hd,0,none⟩))])),(4,rv (.slice none 0 0)),(5,rv hi),(12,rv (.pointer (some ⟨b1,0,none⟩)))]) (H':=[.blk he [rI .i64 q.fPolicy.fVisible,rI .i64 q.fPolicy.fReceives,rv (.map (some ha)),rv hb,rI .i64 q.fNow,rI .i64 q.fArrived] 61,.mit ha b1 (AR (mP ha) q.fWaiting) (AR (mP ha) hp) none,.row hb 33 7 (List.map Ab q.fDead),.pool ha hf 71 (List.map Ai q_p2),.blk hd [rI .i64 now] 3,.row hi 69 1 (List.map (eP ha) hh)]) Aa Aa (As (Om (enc:=(mP ha)) (ys:=hp) (i:=1) Aa Aa Aa (λhy=>?_) (λp hj h6=>?_)))
  ·have hu:EG q_p2 hh=some r:=Mo h7 hy;exact wv (AL Aa Aa) (A0 (Av (D0 Aa Aa (B2 (A8 (WK.unmit (i:=1) Aa (A8 (Bj (AJ (hh,hi) hu (AT.c Aa (AT.c Aa (AT.c Aa (AT.c Aa AT.nil)))) (sC (sC (sC (sC (sC (sC sN)))))))))))))))
  ·obtain⟨hk,hg⟩:=p;obtain⟨t8,hl,h9⟩:=RU h7 h6;replace hl:G2 q_p2 now hk hg hh=some t8:=hl;unfold G2 at hl;refine Ok (H':=[.blk he [rI .i64 q.fPolicy.fVisible,rI .i64 q.fPolicy.fReceives,rv (.map (some ha)),rv hb,rI .i64 q.fNow,rI .i64 q.fArrived] 61,.mit ha b1 (AR (mP ha) q.fWaiting) (AR (mP ha) hj) (some (hk,(mP ha) hg)),.row hb 33 7 (List.map Ab q.fDead),.pool ha hf 71 (List.map Ai q_p2),.blk hd [rI .i64 now] 3,.row hi 69 1 (List.map (eP ha) hh)]) Aa (wv (AL Aa Aa) (A0 (Av (CW Aa Aa (A5 (Bb (AV (As (wv (r:=DY [rS hk,Cw ha hg 0]) (Mn (i:=1) Aa Aa) (wv (AL Aa Aa) (wa Aa (BH (wm Aa (wm Aa ?_))))))))))))));obtain⟨hq,hw,hr⟩:=AX hl;refine Kt (rs:=[Cw ha hg 0]) (Hin:=[.pool ha hf 71 (List.map Ai q_p2),.blk hd [rI .i64 now] 3]) (Hr:=[.blk he [rI .i64 q.fPolicy.fVisible,rI .i64 q.fPolicy.fReceives,rv (.map (some ha)),rv hb,rI .i64 q.fNow,rI .i64 q.fArrived] 61,.mit ha b1 (AR (mP ha) q.fWaiting) (AR (mP ha) hj) (some (hk,(mP ha) hg)),.row hb 33 7 (List.map Ab q.fDead),.row hi 69 1 (List.map (eP ha) hh)]) Tryz.call28 Aa Aa ((Ah (i:=3) Aa).trans (YY _ ((Ah (i:=3) Aa).trans (YY _ (Zb _))))) (Xh ha hf hd hg q_p2 now hq hw) Aa ?_;rintro _ _ ⟨rfl,rfl⟩;refine A0 (A2 (b:=hq) Aa (λho=>?_) (λho=>?_))
   ·have hx:=AM ho hr;refine Ao (wm Aa (wm Aa (C4 (ys:=([hg]:List Int)) (enc:=(eP ha)) (css:=[[Cw ha hg 0]]) (xs:=[.tmp 21]) Km Sv Ss Aa Aa Aa ⟨Pd.one Aa (Up.refl _),trivial⟩ Aa (Je ha) Aa Aa Aa (λhz=>?_))));obtain⟨h0,h1⟩:=AA hx;obtain⟨inf,hinf⟩:=OG;refine D1 (xs:=hh) (ys:=([hg]:List Int)) (enc:=(eP ha)) (i:=6) Km hinf.1 hinf.2.1 hinf.2.2.1 hinf.2.2.2 Aa Aa Aa Aa Aa (Mz.w (i:=0) Aa Aa) (Je ha) (OP ha) h0 Aa (λhs=>?_);refine wa Aa (Ap (Ba (WK.uncur (i:=5) Aa (BB (H2:=[.blk he [rI .i64 q.fPolicy.fVisible,rI .i64 q.fPolicy.fReceives,rv (.map (some ha)),rv hb,rI .i64 q.fNow,rI .i64 q.fArrived] 61,.mit ha b1 (AR (mP ha) q.fWaiting) (AR (mP ha) hj) none,.row hb 33 7 (List.map Ab q.fDead),.pool ha hf 71 (List.map Ai q_p2),.blk hd [rI .i64 now] 3,.row hs 69 1 (List.map (eP ha) (hh++([hg]:List Int))),.row (.slice (some ⟨hz,0,none⟩) 1 1) 69 1 (List.map (eP ha) ([hg]:List Int))]) ((Ah (i:=4) Aa).trans (YY _ ((Ah (i:=4) Aa).trans (YY _ ((Ah (i:=4) Aa).trans (YY _ ((Ah (i:=2) Aa).trans (YY _ ((Ah (i:=2) Aa).trans (YY _ (Zb _))))))))))) ?_))));have h2:=EL h1 h9;exact Az (AJ (hj,hh++([hg]:List Int),hs) ⟨h2,H5 h6⟩ (AT.c Aa (AT.c Aa (AT.c Aa (AT.c Aa AT.nil)))) (sC (sC (sC (sC (sC (sC (sS sN))))))))
   ·have h3:=AN ho hr;refine A5 (Ba (WK.uncur (i:=3) Aa (BB (H2:=[.blk he [rI .i64 q.fPolicy.fVisible,rI .i64 q.fPolicy.fReceives,rv (.map (some ha)),rv hb,rI .i64 q.fNow,rI .i64 q.fArrived] 61,.mit ha b1 (AR (mP ha) q.fWaiting) (AR (mP ha) hj) none,.row hb 33 7 (List.map Ab q.fDead),.pool ha hf 71 (List.map Ai q_p2),.blk hd [rI .i64 now] 3,.row hi 69 1 (List.map (eP ha) hh)]) ((Ah (i:=2) Aa).trans (YY _ ((Ah (i:=2) Aa).trans (YY _ ((Ah (i:=2) Aa).trans (YY _ (Zb _))))))) ?_)));have h4:=EL h3 h9;exact Az (AJ (hj,hh,hi) ⟨h4,H5 h6⟩ (AT.c Aa (AT.c Aa (AT.c Aa (AT.c Aa AT.nil)))) (sC (sC (sC (sC (sC (sC sN)))))))
 ·rintro⟨hm,v55⟩ hn;refine C7 (l':=[(1,rv (.func (.func 28) #[] #[(.pointer (some ⟨hd,0,none⟩))])),(4,rv (.slice none 0 0)),(5,rv v55),(12,rv (.pointer (some ⟨b1,0,none⟩)))]) (H':=[.blk he [rI .i64 q.fPolicy.fVisible,rI .i64 q.fPolicy.fReceives,rv (.map (some ha)),rv hb,rI .i64 q.fNow,rI .i64 q.fArrived] 61,.map ha (AR (mP ha) q.fWaiting),.row hb 33 7 (List.map Ab q.fDead),.pool ha hf 71 (List.map Ai q_p2),.blk hd [rI .i64 now] 3,.row v55 69 1 (List.map (eP ha) hm)]) Aa Aa ?_;replace hn:EG q_p2 hm=some r:=hn;unfold EG at hn;refine Bh (Bb (As (wm Aa ?_)));obtain⟨h5,h8⟩:=AA hn;obtain⟨hA,hB⟩:=AA h8;obtain⟨hC,hD⟩:=AA hB;refine EA (rs:=[rv v55,rv (.func (.func 62) #[] #[])]) (Hin:=[.row v55 69 1 (List.map (eP ha) hm),.pool ha hf 71 (List.map Ai q_p2)]) (Hr:=[.blk he [rI .i64 q.fPolicy.fVisible,rI .i64 q.fPolicy.fReceives,rv (.map (some ha)),rv hb,rI .i64 q.fNow,rI .i64 q.fArrived] 61,.map ha (AR (mP ha) q.fWaiting),.row hb 33 7 (List.map Ab q.fDead),.blk hd [rI .i64 now] 3]) Tryz.call61 Aa ((Ah (i:=5) Aa).trans (YY _ ((Ah (i:=3) Aa).trans (YY _ (Zb _))))) (Me h5 hA hC) Aa ?_;rintro _ _ ⟨rfl,rfl⟩;refine BH (wm Aa (wa Aa (A0 (A1 (BB (H2:=[.row v55 69 1 (List.map (eP ha) (Gq (λx y:Int=>DU (Ac q_p2 x).fAt (Ac q_p2 y).fAt (Ac q_p2 x).fPlace (Ac q_p2 y).fPlace) hm)),.blk he [rI .i64 q.fPolicy.fVisible,rI .i64 q.fPolicy.fReceives,rv (.map (some ha)),rv hb,rI .i64 q.fNow,rI .i64 q.fArrived] 61,.map ha (AR (mP ha) q.fWaiting),.row hb 33 7 (List.map Ab q.fDead),.pool ha hf 71 (List.map Ai q_p2),.blk hd [rI .i64 now] 3]) ((Ah (i:=0) Aa).trans (YY _ ((Ah (i:=1) Aa).trans (YY _ ((Ah (i:=1) Aa).trans (YY _ ((Ah (i:=1) Aa).trans (YY _ (Zb _))))))))) ?_)))));obtain rfl:=A6 hD;exact A4 (B8 VA (AW Aa)) (sC (sC (sC (sC (sC (sC sN)))))) ⟨v55,Aa,Aa⟩
theorem Xj (k_x:Nat)(p_x:Value)(ha:Nat)(x:Int)(x_p:(List Ad))(now:Int)(r:Bool)(h:VP x x_p now=some r):Fn Tryz.prog GE 38 [Cw k_x x 0,rv (.pointer (some ⟨ha,0,none⟩))] [.pool k_x p_x 71 (List.map Ai x_p),.blk ha [rI .i64 now] 3] (λR H=>R=rB r∧H=[.pool k_x p_x 71 (List.map Ai x_p),.blk ha [rI .i64 now] 3]):=by
 refine enter (n:=10) Tryz.func38 Aa Tryz.ntmps38 Aa (λw Z=>?_);refine Bd (l':=[(0,Cw k_x x 0),(1,rv (.pointer (some ⟨ha,0,none⟩)))]) (H':=[.pool k_x p_x 71 (List.map Ai x_p),.blk ha [rI .i64 now] 3]) Aa Aa ?_;unfold VP at h;refine As (wv (r:=rB false) (Aj Aa) (A0 (Av ?_)));obtain⟨g1,h2⟩:=AA h;obtain⟨g3,h4⟩:=AA h2;refine CH [0,1] [⟨[],Cw k_x x 0,0⟩,⟨[0],Cw k_x x 0,0⟩,⟨[1],Cw k_x x 7,0⟩,⟨[2],rI .i64 ((Ac x_p x).fAt),1⟩,⟨[],rI .i64 now,1⟩,⟨[3,4],rB (decide (((Ac x_p x).fAt)≤now)),0⟩,⟨[5],rB (decide (((Ac x_p x).fAt)≤now)),0⟩] [3] ?_ ?_
 ·refine oq (At Aa) (oq (Bz Aa g1) (oq (C9 Hd Aa BG Aa g1 Aa) (of (De (enc:=Ai) (xs:=x_p) (j:=0) BO Aa Aa g3 Aa) (of (Ax (i:=1) BO Aa Aa Aa) (oq (GG Aa Aa) (oq (Aj Aa) ?_))))));exact CE
 refine Bb (A1 ?_);obtain rfl:=A6 h4;exact A4 (B8 Tryz.results38 (AW Aa)) (sC (sC sN)) ⟨Aa,Aa⟩
theorem QG (he:Nat)(ha:Nat)(hb:Value)(hf:Value)(hd:Nat)(q:An)(q_p2:(List Ad))(now:Int)(r:(List Int))(h:IL q q_p2 now=some r):Fn Tryz.prog GE 27 [rv (.pointer (some ⟨he,0,none⟩)),rv (.func (.func 38) #[] #[(.pointer (some ⟨hd,0,none⟩))])] [.blk he [rI .i64 q.fPolicy.fVisible,rI .i64 q.fPolicy.fReceives,rv (.map (some ha)),rv hb,rI .i64 q.fNow,rI .i64 q.fArrived] 61,.map ha (AR (mP ha) q.fWaiting),.row hb 33 7 (List.map Ab q.fDead),.pool ha hf 71 (List.map Ai q_p2),.blk hd [rI .i64 now] 3] (λR H=>∃u0:Value,R=rv u0∧H=[.row u0 69 1 (List.map (eP ha) r),.blk he [rI .i64 q.fPolicy.fVisible,rI .i64 q.fPolicy.fReceives,rv (.map (some ha)),rv hb,rI .i64 q.fNow,rI .i64 q.fArrived] 61,.map ha (AR (mP ha) q.fWaiting),.row hb 33 7 (List.map Ab q.fDead),.pool ha hf 71 (List.map Ai q_p2),.blk hd [rI .i64 now] 3]):=by
 refine enter (n:=27) Tryz.func27 Aa VB Aa (λw Z=>?_);refine Bd (l':=[(0,rv (.pointer (some ⟨he,0,none⟩))),(1,rv (.func (.func 38) #[] #[(.pointer (some ⟨hd,0,none⟩))]))]) (H':=[.blk he [rI .i64 q.fPolicy.fVisible,rI .i64 q.fPolicy.fReceives,rv (.map (some ha)),rv hb,rI .i64 q.fNow,rI .i64 q.fArrived] 61,.map ha (AR (mP ha) q.fWaiting),.row hb 33 7 (List.map Ab q.fDead),.pool ha hf 71 (List.map Ai q_p2),.blk hd [rI .i64 now] 3]) Aa Aa ?_;unfold IL at h;refine As (wv (r:=rv (.slice none 0 0)) (Aj Aa) (BH (wv (r:=rv (.slice none 0 0)) (Aj Aa) (A0 (Av (As (wm Aa (wv (AO Aa) (wv (Af ET Aa LV Aa Aa) (wv (Ax (i:=0) LW Aa Aa Aa) (Md (i:=1) LU Aa Aa Aa (λb1=>?_))))))))))));refine A0 (AV (WC.nilrow (e:=69) (sz:=1) (EV (H2:=[.blk he [rI .i64 q.fPolicy.fVisible,rI .i64 q.fPolicy.fReceives,rv (.map (some ha)),rv hb,rI .i64 q.fNow,rI .i64 q.fArrived] 61,.mit ha b1 (AR (mP ha) q.fWaiting) (AR (mP ha) q.fWaiting) none,.row hb 33 7 (List.map Ab q.fDead),.pool ha hf 71 (List.map Ai q_p2),.blk hd [rI .i64 now] 3,.row (.slice none 0 0                                                                     ) 69 1 (List.map (eP ha) ([]:List Int))]) ((Ah (i:=1) Aa).trans (YY _ ((Ah (i:=1) Aa).trans (YY _ ((Ah (i:=1) Aa).trans (YY _ ((Ah (i:=1) Aa).trans (YY _ ((Ah (i:=1) Aa).trans (YY _ (Zb _))))))))))) ?_)));have ht:=OB h;refine B6 (S:=(List (AE×Int))×((List Int))×(Value)) (V:=((List Int))×(Value)) 0 (λσ=>∀qo:List (AE×Int),qo.Perm σ.1→B7 (N1 (λpe τ=>G4 q_p2 now pe.1 pe.2 τ) qo σ.2.1) (BP λν=>EI q_p2 ν)=some r) (λσ=>[(1,rv (.func (.func 38) #[] #[(.pointer (some ⟨hd,0,none⟩))])),(4,rv (.slice none 0 0)),(5,rv σ.2.2),(12,rv (.pointer (some ⟨b1,0,none⟩)))]) (λσ=>[.blk he [rI .i64 q.fPolicy.fVisible,rI .i64 q.fPolicy.fReceives,rv (.map (some ha)),rv hb,rI .i64 q.fNow,rI .i64 q.fArrived] 61,.mit ha b1 (AR (mP ha) q.fWaiting) (AR (mP ha) σ.1) none,.row hb 33 7 (List.map Ab q.fDead),.pool ha hf 71 (List.map Ai q_p2),.blk hd [rI .i64 now] 3,.row σ.2.2 69 1 (List.map (eP ha) σ.2.1)]) (λσ=>σ.1.length) (q.fWaiting,([]:List Int),(.slice none 0 0                                                                     )) ht (AT.c Aa (AT.c Aa (AT.c Aa (AT.c Aa AT.nil)))) (sC (sC (sC (sC (sC (sC sN)))))) (λσ=>EI q_p2 σ.1=some r) (λσ=>[(1,rv (.func (.func 38) #[] #[(.pointer (some ⟨hd,0,none⟩))])),(4,rv (.slice none 0 0)),(5,rv σ.2),(12,rv (.pointer (some ⟨b1,0,none⟩)))]) (λσ=>[.blk he [rI .i64 q.fPolicy.fVisible,rI .i64 q.fPolicy.fReceives,rv (.map (some ha)),rv hb,rI .i64 q.fNow,rI .i64 q.fArrived] 61,.map ha (AR (mP ha) q.fWaiting),.row hb 33 7 (List.map Ab q.fDead),.pool ha hf 71 (List.map Ai q_p2),.blk hd [rI .i64 now] 3,.row σ.2 69 1 (List.map (eP ha) σ.1)]) ?_ ?_
 ·rintro⟨hp,hh,hi⟩ h7;refine Bd (l':=[(1,rv (.func (.func 38) #[] #[(.pointer (some ⟨hd,0,none⟩))])),(4,rv (.slice none 0 0)),(5,rv hi),(12,rv (.pointer (some ⟨b1,0,none⟩)))]) (H':=[.blk he [rI .i64 q.fPolicy.fVisible,rI .i64 q.fPolicy.fReceives,rv (.map (some ha)),rv hb,rI .i64 q.fNow,rI .i64 q.fArrived] 61,.mit ha b1 (AR (mP ha) q.fWaiting) (AR (mP ha) hp) none,.row hb 33 7 (List.map Ab q.fDead),.pool ha hf 71 (List.map Ai q_p2),.blk hd [rI .i64 now] 3,.row hi 69 1 (List.map (eP ha) hh)]) Aa Aa (As (Om (enc:=(mP ha)) (ys:=hp) (i:=1) Aa Aa Aa (λhy=>?_) (λp hj h6=>?_)))
  ·have hu:EI q_p2 hh=some r:=Mo h7 hy;exact wv (AL Aa Aa) (A0 (Av (D0 Aa Aa (B2 (A8 (WK.unmit (i:=1) Aa (A8 (Bj (AJ (hh,hi) hu (AT.c Aa (AT.c Aa (AT.c Aa (AT.c Aa AT.nil)))) (sC (sC (sC (sC (sC (sC sN)))))))))))))))
  ·obtain⟨hk,hg⟩:=p;obtain⟨t8,hl,h9⟩:=RU h7 h6;replace hl:G4 q_p2 now hk hg hh=some t8:=hl;unfold G4 at hl;refine Ok (H':=[.blk he [rI .i64 q.fPolicy.fVisible,rI .i64 q.fPolicy.fReceives,rv (.map (some ha)),rv hb,rI .i64 q.fNow,rI .i64 q.fArrived] 61,.mit ha b1 (AR (mP ha) q.fWaiting) (AR (mP ha) hj) (some (hk,(mP ha) hg)),.row hb 33 7 (List.map Ab q.fDead),.pool ha hf 71 (List.map Ai q_p2),.blk hd [rI .i64 now] 3,.row hi 69 1 (List.map (eP ha) hh)]) Aa (wv (AL Aa Aa) (A0 (Av (CW Aa Aa (A5 (Bb (AV (As (wv (r:=DY [rS hk,Cw ha hg 0]) (Mn (i:=1) Aa Aa) (wv (AL Aa Aa) (wa Aa (BH (wm Aa (wm Aa ?_))))))))))))));obtain⟨hq,hw,hr⟩:=AX hl;refine Kt (rs:=[Cw ha hg 0]) (Hin:=[.pool ha hf 71 (List.map Ai q_p2),.blk hd [rI .i64 now] 3]) (Hr:=[.blk he [rI .i64 q.fPolicy.fVisible,rI .i64 q.fPolicy.fReceives,rv (.map (some ha)),rv hb,rI .i64 q.fNow,rI .i64 q.fArrived] 61,.mit ha b1 (AR (mP ha) q.fWaiting) (AR (mP ha) hj) (some (hk,(mP ha) hg)),.row hb 33 7 (List.map Ab q.fDead),.row hi 69 1 (List.map (eP ha) hh)]) Tryz.call38 Aa Aa ((Ah (i:=3) Aa).trans (YY _ ((Ah (i:=3) Aa).trans (YY _ (Zb _))))) (Xj ha hf hd hg q_p2 now hq hw) Aa ?_;rintro _ _ ⟨rfl,rfl⟩;refine A0 (A2 (b:=hq) Aa (λho=>?_) (λho=>?_))
   ·have hx:=AM ho hr;refine Ao (wm Aa (wm Aa (C4 (ys:=([hg]:List Int)) (enc:=(eP ha)) (css:=[[Cw ha hg 0]]) (xs:=[.tmp 21]) Km Sv Ss Aa Aa Aa ⟨Pd.one Aa (Up.refl _),trivial⟩ Aa (Je ha) Aa Aa Aa (λhz=>?_))));obtain⟨h0,h1⟩:=AA hx;obtain⟨inf,hinf⟩:=OG;refine D1 (xs:=hh) (ys:=([hg]:List Int)) (enc:=(eP ha)) (i:=6) Km hinf.1 hinf.2.1 hinf.2.2.1 hinf.2.2.2 Aa Aa Aa Aa Aa (Mz.w (i:=0) Aa Aa) (Je ha) (OP ha) h0 Aa (λhs=>?_);refine wa Aa (Ap (Ba (WK.uncur (i:=5) Aa (BB (H2:=[.blk he [rI .i64 q.fPolicy.fVisible,rI .i64 q.fPolicy.fReceives,rv (.map (some ha)),rv hb,rI .i64 q.fNow,rI .i64 q.fArrived] 61,.mit ha b1 (AR (mP ha) q.fWaiting) (AR (mP ha) hj) none,.row hb 33 7 (List.map Ab q.fDead),.pool ha hf 71 (List.map Ai q_p2),.blk hd [rI .i64 now] 3,.row hs 69 1 (List.map (eP ha) (hh++([hg]:List Int))),.row (.slice (some ⟨hz,0,none⟩) 1 1) 69 1 (List.map (eP ha) ([hg]:List Int))]) ((Ah (i:=4) Aa).trans (YY _ ((Ah (i:=4) Aa).trans (YY _ ((Ah (i:=4) Aa).trans (YY _ ((Ah (i:=2) Aa).trans (YY _ ((Ah (i:=2) Aa).trans (YY _ (Zb _))))))))))) ?_))));have h2:=EL h1 h9;exact Az (AJ (hj,hh++([hg]:List Int),hs) ⟨h2,H5 h6⟩ (AT.c Aa (AT.c Aa (AT.c Aa (AT.c Aa AT.nil)))) (sC (sC (sC (sC (sC (sC (sS sN))))))))
   ·have h3:=AN ho hr;refine A5 (Ba (WK.uncur (i:=3) Aa (BB (H2:=[.blk he [rI .i64 q.fPolicy.fVisible,rI .i64 q.fPolicy.fReceives,rv (.map (some ha)),rv hb,rI .i64 q.fNow,rI .i64 q.fArrived] 61,.mit ha b1 (AR (mP ha) q.fWaiting) (AR (mP ha) hj) none,.row hb 33 7 (List.map Ab q.fDead),.pool ha hf 71 (List.map Ai q_p2),.blk hd [rI .i64 now] 3,.row hi 69 1 (List.map (eP ha) hh)]) ((Ah (i:=2) Aa).trans (YY _ ((Ah (i:=2) Aa).trans (YY _ ((Ah (i:=2) Aa).trans (YY _ (Zb _))))))) ?_)));have h4:=EL h3 h9;exact Az (AJ (hj,hh,hi) ⟨h4,H5 h6⟩ (AT.c Aa (AT.c Aa (AT.c Aa (AT.c Aa AT.nil)))) (sC (sC (sC (sC (sC (sC sN)))))))
 ·rintro⟨hm,v55⟩ hn;refine C7 (l':=[(1,rv (.func (.func 38) #[] #[(.pointer (some ⟨hd,0,none⟩))])),(4,rv (.slice none 0 0)),(5,rv v55),(12,rv (.pointer (some ⟨b1,0,none⟩)))]) (H':=[.blk he [rI .i64 q.fPolicy.fVisible,rI .i64 q.fPolicy.fReceives,rv (.map (some ha)),rv hb,rI .i64 q.fNow,rI .i64 q.fArrived] 61,.map ha (AR (mP ha) q.fWaiting),.row hb 33 7 (List.map Ab q.fDead),.pool ha hf 71 (List.map Ai q_p2),.blk hd [rI .i64 now] 3,.row v55 69 1 (List.map (eP ha) hm)]) Aa Aa ?_;replace hn:EI q_p2 hm=some r:=hn;unfold EI at hn;refine Bh (Bb (As (wm Aa ?_)));obtain⟨h5,h8⟩:=AA hn;obtain⟨hA,hB⟩:=AA h8;obtain⟨hC,hD⟩:=AA hB;refine EA (rs:=[rv v55,rv (.func (.func 62) #[] #[])]) (Hin:=[.row v55 69 1 (List.map (eP ha) hm),.pool ha hf 71 (List.map Ai q_p2)]) (Hr:=[.blk he [rI .i64 q.fPolicy.fVisible,rI .i64 q.fPolicy.fReceives,rv (.map (some ha)),rv hb,rI .i64 q.fNow,rI .i64 q.fArrived] 61,.map ha (AR (mP ha) q.fWaiting),.row hb 33 7 (List.map Ab q.fDead),.blk hd [rI .i64 now] 3]) Tryz.call61 Aa ((Ah (i:=5) Aa).trans (YY _ ((Ah (i:=3) Aa).trans (YY _ (Zb _))))) (Me h5 hA hC) Aa ?_;rintro _ _ ⟨rfl,rfl⟩;refine BH (wm Aa (wa Aa (A0 (A1 (BB (H2:=[.row v55 69 1 (List.map (eP ha) (Gq (λx y:Int=>DU (Ac q_p2 x).fAt (Ac q_p2 y).fAt (Ac q_p2 x).fPlace (Ac q_p2 y).fPlace) hm)),.blk he [rI .i64 q.fPolicy.fVisible,rI .i64 q.fPolicy.fReceives,rv (.map (some ha)),rv hb,rI .i64 q.fNow,rI .i64 q.fArrived] 61,.map ha (AR (mP ha) q.fWaiting),.row hb 33 7 (List.map Ab q.fDead),.pool ha hf 71 (List.map Ai q_p2),.blk hd [rI .i64 now] 3]) ((Ah (i:=0) Aa).trans (YY _ ((Ah (i:=1) Aa).trans (YY _ ((Ah (i:=1) Aa).trans (YY _ ((Ah (i:=1) Aa).trans (YY _ (Zb _))))))))) ?_)))));obtain rfl:=A6 hD;exact A4 (B8 VA (AW Aa)) (sC (sC (sC (sC (sC (sC sN)))))) ⟨v55,Aa,Aa⟩
theorem Xi (k_x:Nat)(p_x:Value)(hb:Nat)(ha:Nat)(he:Nat)(hf:Value)(hd:Nat)(x:Int)(x_p:(List Ad))(q:An)(now:Int)(r:Bool)(h:VO x x_p q now=some r):Fn Tryz.prog GE 39 [Cw k_x x 0,rv (.pointer (some ⟨hb,0,none⟩)),rv (.pointer (some ⟨hd,0,none⟩))] [.pool k_x p_x 71 (List.map Ai x_p),.blk hb [rv (.pointer (some ⟨ha,0,none⟩))] 27,.blk ha [rI .i64 q.fPolicy.fVisible,rI .i64 q.fPolicy.fReceives,rv (.map (some he)),rv hf,rI .i64 q.fNow,rI .i64 q.fArrived] 61,.blk hd [rI .i64 now] 3] (λR H=>R=rB r∧H=[.pool k_x p_x 71 (List.map Ai x_p),.blk hb [rv (.pointer (some ⟨ha,0,none⟩))] 27,.blk ha [rI .i64 q.fPolicy.fVisible,rI .i64 q.fPolicy.fReceives,rv (.map (some he)),rv hf,rI .i64 q.fNow,rI .i64 q.fArrived] 61,.blk hd [rI .i64 now] 3]):=by
 refine enter (n:=9) Tryz.func39 Aa Tryz.ntmps39 Aa (λw Z=>?_);refine Bd (l':=[(0,Cw k_x x 0),(1,rv (.pointer (some ⟨hb,0,none⟩))),(2,rv (.pointer (some ⟨hd,0,none⟩)))]) (H':=[.pool k_x p_x 71 (List.map Ai x_p),.blk hb [rv (.pointer (some ⟨ha,0,none⟩))] 27,.blk ha [rI .i64 q.fPolicy.fVisible,rI .i64 q.fPolicy.fReceives,rv (.map (some he)),rv hf,rI .i64 q.fNow,rI .i64 q.fArrived] 61,.blk hd [rI .i64 now] 3]) Aa Aa ?_;unfold VO at h;refine As (wv (r:=rB false) (Aj Aa) (BH (wv (Ax (i:=1) J3 Aa Aa Aa) (wm Aa (wv (Ax (i:=3) BO Aa Aa Aa) ?_)))));obtain⟨r1,e3,h2⟩:=AX h;refine D6 (Hr:=[.blk hb [rv (.pointer (some ⟨ha,0,none⟩))] 27,.blk hd [rI .i64 now] 3]) Tryz.call40 (R1 ha he hf k_x p_x (An.mk q.fPolicy [] ([]:List Ay) q.fNow q.fArrived) x x_p now r1 e3) Aa ((Ah (i:=2) Aa).trans (YY _ (Zb _))) Aa ?_;rintro _ _ ⟨rfl,rfl⟩;refine wa Aa (A0 (A1 (BB (H2:=[.pool k_x p_x 71 (List.map Ai x_p),.blk hb [rv (.pointer (some ⟨ha,0,none⟩))] 27,.blk ha [rI .i64 q.fPolicy.fVisible,rI .i64 q.fPolicy.fReceives,rv (.map (some he)),rv hf,rI .i64 q.fNow,rI .i64 q.fArrived] 61,.blk hd [rI .i64 now] 3]) ((Ah (i:=1) Aa).trans (YY _ ((Ah (i:=1) Aa).trans (YY _ (Zb _))))) ?_)));obtain rfl:=A6 h2;exact A4 (B8 Tryz.results39 (AW Aa)) (sC (sC (sC (sC sN)))) ⟨Aa,Aa⟩
theorem QF (hb:Nat)(ha:Nat)(hd:Value)(hg:Value)(he:Nat)(hf:Nat)(q:An)(q_p2:(List Ad))(now:Int)(r:(List Int))(h:IK q q_p2 now=some r):Fn Tryz.prog GE 27 [rv (.pointer (some ⟨hb,0,none⟩)),rv (.func (.func 39) #[] #[(.pointer (some ⟨he,0,none⟩)),(.pointer (some ⟨hf,0,none⟩))])] [.blk hb [rI .i64 q.fPolicy.fVisible,rI .i64 q.fPolicy.fReceives,rv (.map (some ha)),rv hd,rI .i64 q.fNow,rI .i64 q.fArrived] 61,.map ha (AR (mP ha) q.fWaiting),.row hd 33 7 (List.map Ab q.fDead),.pool ha hg 71 (List.map Ai q_p2),.blk he [rv (.pointer (some ⟨hb,0,none⟩))] 27,.blk hf [rI .i64 now] 3] (λR H=>∃u0:Value,R=rv u0∧H=[.row u0 69 1 (List.map (eP ha) r),.blk hb [rI .i64 q.fPolicy.fVisible,rI .i64 q.fPolicy.fReceives,rv (.map (some ha)),rv hd,rI .i64 q.fNow,rI .i64 q.fArrived] 61,.map ha (AR (mP ha) q.fWaiting),.row hd 33 7 (List.map Ab q.fDead),.pool ha hg 71 (List.map Ai q_p2),.blk he [rv (.pointer (some ⟨hb,0,none⟩))] 27,.blk hf [rI .i64 now] 3]):=by
 refine enter (n:=27) Tryz.func27 Aa VB Aa (λw Z=>?_);refine Bd (l':=[(0,rv (.pointer (some ⟨hb,0,none⟩))),(1,rv (.func (.func 39) #[] #[(.pointer (some ⟨he,0,none⟩)),(.pointer (some ⟨hf,0,none⟩))]))]) (H':=[.blk hb [rI .i64 q.fPolicy.fVisible,rI .i64 q.fPolicy.fReceives,rv (.map (some ha)),rv hd,rI .i64 q.fNow,rI .i64 q.fArrived] 61,.map ha (AR (mP ha) q.fWaiting),.row hd 33 7 (List.map Ab q.fDead),.pool ha hg 71 (List.map Ai q_p2),.blk he [rv (.pointer (some ⟨hb,0,none⟩))] 27,.blk hf [rI .i64 now] 3]) Aa Aa ?_;unfold IK at h;refine As (wv (r:=rv (.slice none 0 0)) (Aj Aa) (BH (wv (r:=rv (.slice none 0 0)) (Aj Aa) (A0 (Av (As (wm Aa (wv (AO Aa) (wv (Af ET Aa LV Aa Aa) (wv (Ax (i:=0) LW Aa Aa Aa) (Md (i:=1) LU Aa Aa Aa (λb1=>?_))))))))))));refine A0 (AV (WC.nilrow (e:=69) (sz:=1) (EV (H2:=[.blk hb [rI .i64 q.fPolicy.fVisible,rI .i64 q.fPolicy.fReceives,rv (.map (some ha)),rv hd,rI .i64 q.fNow,rI .i64 q.fArrived] 61,.mit ha b1 (AR (mP ha) q.fWaiting) (AR (mP ha) q.fWaiting) none,.row hd 33 7 (List.map Ab q.fDead),.pool ha hg 71 (List.map Ai q_p2),.blk he [rv (.pointer (some ⟨hb,0,none⟩))] 27,.blk hf [rI .i64 now] 3,.row (.slice none 0 0                                                                     ) 69 1 (List.map (eP ha) ([]:List Int))]) ((Ah (i:=1) Aa).trans (YY _ ((Ah (i:=1) Aa).trans (YY _ ((Ah (i:=1) Aa).trans (YY _ ((Ah (i:=1) Aa).trans (YY _ ((Ah (i:=1) Aa).trans (YY _ ((Ah (i:=1) Aa).trans (YY _ (Zb _))))))))))))) ?_)));have hu:=OB h;refine B6 (S:=(List (AE×Int))×((List Int))×(Value)) (V:=((List Int))×(Value)) 0 (λσ=>∀qo:List (AE×Int),qo.Perm σ.1→B7 (N1 (λpe τ=>G3 q q_p2 now pe.1 pe.2 τ) qo σ.2.1) (BP λν=>EH q_p2 ν)=some r) (λσ=>[(1,rv (.func (.func 39) #[] #[(.pointer (some ⟨he,0,none⟩)),(.pointer (some ⟨hf,0,none⟩))])),(4,rv (.slice none 0 0)),(5,rv σ.2.2),(12,rv (.pointer (some ⟨b1,0,none⟩)))]) (λσ=>[.blk hb [rI .i64 q.fPolicy.fVisible,rI .i64 q.fPolicy.fReceives,rv (.map (some ha)),rv hd,rI .i64 q.fNow,rI .i64 q.fArrived] 61,.mit ha b1 (AR (mP ha) q.fWaiting) (AR (mP ha) σ.1) none,.row hd 33 7 (List.map Ab q.fDead),.pool ha hg 71 (List.map Ai q_p2),.blk he [rv (.pointer (some ⟨hb,0,none⟩))] 27,.blk hf [rI .i64 now] 3,.row σ.2.2 69 1 (List.map (eP ha) σ.2.1)]) (λσ=>σ.1.length) (q.fWaiting,([]:List Int),(.slice none 0 0                                                                     )) hu (AT.c Aa (AT.c Aa (AT.c Aa (AT.c Aa AT.nil)))) (sC (sC (sC (sC (sC (sC (sC sN))))))) (λσ=>EH q_p2 σ.1=some r) (λσ=>[(1,rv (.func (.func 39) #[] #[(.pointer (some ⟨he,0,none⟩)),(.pointer (some ⟨hf,0,none⟩))])),(4,rv (.slice none 0 0)),(5,rv σ.2),(12,rv (.pointer (some ⟨b1,0,none⟩)))]) (λσ=>[.blk hb [rI .i64 q.fPolicy.fVisible,rI .i64 q.fPolicy.fReceives,rv (.map (some ha)),rv hd,rI .i64 q.fNow,rI .i64 q.fArrived] 61,.map ha (AR (mP ha) q.fWaiting),.row hd 33 7 (List.map Ab q.fDead),.pool ha hg 71 (List.map Ai q_p2),.blk he [rv (.pointer (some ⟨hb,0,none⟩))] 27,.blk hf [rI .i64 now] 3,.row σ.2 69 1 (List.map (eP ha) σ.1)]) ?_ ?_
 ·rintro⟨hq,hi,hj⟩ h7;refine Bd (l':=[(1,rv (.func (.func 39) #[] #[(.pointer (some ⟨he,0,none⟩)),(.pointer (some ⟨hf,0,none⟩))])),(4,rv (.slice none 0 0)),(5,rv hj),(12,rv (.pointer (some ⟨b1,0,none⟩)))]) (H':=[.blk hb [rI .i64 q.fPolicy.fVisible,rI .i64 q.fPolicy.fReceives,rv (.map (some ha)),rv hd,rI .i64 q.fNow,rI .i64 q.fArrived] 61,.mit ha b1 (AR (mP ha) q.fWaiting) (AR (mP ha) hq) none,.row hd 33 7 (List.map Ab q.fDead),.pool ha hg 71 (List.map Ai q_p2),.blk he [rv (.pointer (some ⟨hb,0,none⟩))] 27,.blk hf [rI .i64 now] 3,.row hj 69 1 (List.map (eP ha) hi)]) Aa Aa (As (Om (enc:=(mP ha)) (ys:=hq) (i:=1) Aa Aa Aa (λhy=>?_) (λp hk h6=>?_)))
  ·have hw:EH q_p2 hi=some r:=Mo h7 hy;exact wv (AL Aa Aa) (A0 (Av (D0 Aa Aa (B2 (A8 (WK.unmit (i:=1) Aa (A8 (Bj (AJ (hi,hj) hw (AT.c Aa (AT.c Aa (AT.c Aa (AT.c Aa AT.nil)))) (sC (sC (sC (sC (sC (sC (sC sN))))))))))))))))
  ·obtain⟨hl,hh⟩:=p;obtain⟨t8,hm,h9⟩:=RU h7 h6;replace hm:G3 q q_p2 now hl hh hi=some t8:=hm;unfold G3 at hm;refine Ok (H':=[.blk hb [rI .i64 q.fPolicy.fVisible,rI .i64 q.fPolicy.fReceives,rv (.map (some ha)),rv hd,rI .i64 q.fNow,rI .i64 q.fArrived] 61,.mit ha b1 (AR (mP ha) q.fWaiting) (AR (mP ha) hk) (some (hl,(mP ha) hh)),.row hd 33 7 (List.map Ab q.fDead),.pool ha hg 71 (List.map Ai q_p2),.blk he [rv (.pointer (some ⟨hb,0,none⟩))] 27,.blk hf [rI .i64 now] 3,.row hj 69 1 (List.map (eP ha) hi)]) Aa (wv (AL Aa Aa) (A0 (Av (CW Aa Aa (A5 (Bb (AV (As (wv (r:=DY [rS hl,Cw ha hh 0]) (Mn (i:=1) Aa Aa) (wv (AL Aa Aa) (wa Aa (BH (wm Aa (wm Aa ?_))))))))))))));obtain⟨hr,hx,hs⟩:=AX hm;refine Kt (rs:=[Cw ha hh 0]) (Hin:=[.pool ha hg 71 (List.map Ai q_p2),.blk he [rv (.pointer (some ⟨hb,0,none⟩))] 27,.blk hb [rI .i64 q.fPolicy.fVisible,rI .i64 q.fPolicy.fReceives,rv (.map (some ha)),rv hd,rI .i64 q.fNow,rI .i64 q.fArrived] 61,.blk hf [rI .i64 now] 3]) (Hr:=[.mit ha b1 (AR (mP ha) q.fWaiting) (AR (mP ha) hk) (some (hl,(mP ha) hh)),.row hd 33 7 (List.map Ab q.fDead),.row hj 69 1 (List.map (eP ha) hi)]) Tryz.call39 Aa Aa ((Ah (i:=3) Aa).trans (YY _ ((Ah (i:=3) Aa).trans (YY _ ((Ah (i:=0) Aa).trans (YY _ ((Ah (i:=2) Aa).trans (YY _ (Zb _))))))))) (Xi ha hg he hb ha hd hf hh q_p2 q now hr hx) Aa ?_;rintro _ _ ⟨rfl,rfl⟩;refine A0 (A2 (b:=hr) Aa (λhp=>?_) (λhp=>?_))
   ·have hz:=AM hp hs;refine Ao (wm Aa (wm Aa (C4 (ys:=([hh]:List Int)) (enc:=(eP ha)) (css:=[[Cw ha hh 0]]) (xs:=[.tmp 21]) Km Sv Ss Aa Aa Aa ⟨Pd.one Aa (Up.refl _),trivial⟩ Aa (Je ha) Aa Aa Aa (λh0=>?_))));obtain⟨h1,h2⟩:=AA hz;obtain⟨inf,hinf⟩:=OG;refine D1 (xs:=hi) (ys:=([hh]:List Int)) (enc:=(eP ha)) (i:=7) Km hinf.1 hinf.2.1 hinf.2.2.1 hinf.2.2.2 Aa Aa Aa Aa Aa (Mz.w (i:=0) Aa Aa) (Je ha) (OP ha) h1 Aa (λht=>?_);refine wa Aa (Ap (Ba (WK.uncur (i:=6) Aa (BB (H2:=[.blk hb [rI .i64 q.fPolicy.fVisible,rI .i64 q.fPolicy.fReceives,rv (.map (some ha)),rv hd,rI .i64 q.fNow,rI .i64 q.fArrived] 61,.mit ha b1 (AR (mP ha) q.fWaiting) (AR (mP ha) hk) none,.row hd 33 7 (List.map Ab q.fDead),.pool ha hg 71 (List.map Ai q_p2),.blk he [rv (.pointer (some ⟨hb,0,none⟩))] 27,.blk hf [rI .i64 now] 3,.row ht 69 1 (List.map (eP ha) (hi++([hh]:List Int))),.row (.slice (some ⟨h0,0,none⟩) 1 1) 69 1 (List.map (eP ha) ([hh]:List Int))]) ((Ah (i:=4) Aa).trans (YY _ ((Ah (i:=5) Aa).trans (YY _ ((Ah (i:=5) Aa).trans (YY _ ((Ah (i:=2) Aa).trans (YY _ ((Ah (i:=2) Aa).trans (YY _ ((Ah (i:=2) Aa).trans (YY _ (Zb _))))))))))))) ?_))));have h3:=EL h2 h9;exact Az (AJ (hk,hi++([hh]:List Int),ht) ⟨h3,H5 h6⟩ (AT.c Aa (AT.c Aa (AT.c Aa (AT.c Aa AT.nil)))) (sC (sC (sC (sC (sC (sC (sC (sS sN)))))))))
   ·have h4:=AN hp hs;refine A5 (Ba (WK.uncur (i:=4) Aa (BB (H2:=[.blk hb [rI .i64 q.fPolicy.fVisible,rI .i64 q.fPolicy.fReceives,rv (.map (some ha)),rv hd,rI .i64 q.fNow,rI .i64 q.fArrived] 61,.mit ha b1 (AR (mP ha) q.fWaiting) (AR (mP ha) hk) none,.row hd 33 7 (List.map Ab q.fDead),.pool ha hg 71 (List.map Ai q_p2),.blk he [rv (.pointer (some ⟨hb,0,none⟩))] 27,.blk hf [rI .i64 now] 3,.row hj 69 1 (List.map (eP ha) hi)]) ((Ah (i:=2) Aa).trans (YY _ ((Ah (i:=3) Aa).trans (YY _ ((Ah (i:=3) Aa).trans (YY _ (Zb _))))))) ?_)));have h5:=EL h4 h9;exact Az (AJ (hk,hi,hj) ⟨h5,H5 h6⟩ (AT.c Aa (AT.c Aa (AT.c Aa (AT.c Aa AT.nil)))) (sC (sC (sC (sC (sC (sC (sC sN))))))))
 ·rintro⟨hn,v55⟩ ho;refine C7 (l':=[(1,rv (.func (.func 39) #[] #[(.pointer (some ⟨he,0,none⟩)),(.pointer (some ⟨hf,0,none⟩))])),(4,rv (.slice none 0 0)),(5,rv v55),(12,rv (.pointer (some ⟨b1,0,none⟩)))]) (H':=[.blk hb [rI .i64 q.fPolicy.fVisible,rI .i64 q.fPolicy.fReceives,rv (.map (some ha)),rv hd,rI .i64 q.fNow,rI .i64 q.fArrived] 61,.map ha (AR (mP ha) q.fWaiting),.row hd 33 7 (List.map Ab q.fDead),.pool ha hg 71 (List.map Ai q_p2),.blk he [rv (.pointer (some ⟨hb,0,none⟩))] 27,.blk hf [rI .i64 now] 3,.row v55 69 1 (List.map (eP ha) hn)]) Aa Aa ?_;replace ho:EH q_p2 hn=some r:=ho;unfold EH at ho;refine Bh (Bb (As (wm Aa ?_)));obtain⟨h8,hA⟩:=AA ho;obtain⟨hB,hC⟩:=AA hA;obtain⟨hD,hE⟩:=AA hC;refine EA (rs:=[rv v55,rv (.func (.func 62) #[] #[])]) (Hin:=[.row v55 69 1 (List.map (eP ha) hn),.pool ha hg 71 (List.map Ai q_p2)]) (Hr:=[.blk hb [rI .i64 q.fPolicy.fVisible,rI .i64 q.fPolicy.fReceives,rv (.map (some ha)),rv hd,rI .i64 q.fNow,rI .i64 q.fArrived] 61,.map ha (AR (mP ha) q.fWaiting),.row hd 33 7 (List.map Ab q.fDead),.blk he [rv (.pointer (some ⟨hb,0,none⟩))] 27,.blk hf [rI .i64 now] 3]) Tryz.call61 Aa ((Ah (i:=6) Aa).trans (YY _ ((Ah (i:=3) Aa).trans (YY _ (Zb _))))) (Me h8 hB hD) Aa ?_;rintro _ _ ⟨rfl,rfl⟩;refine BH (wm Aa (wa Aa (A0 (A1 (BB (H2:=[.row v55 69 1 (List.map (eP ha) (Gq (λx y:Int=>DU (Ac q_p2 x).fAt (Ac q_p2 y).fAt (Ac q_p2 x).fPlace (Ac q_p2 y).fPlace) hn)),.blk hb [rI .i64 q.fPolicy.fVisible,rI .i64 q.fPolicy.fReceives,rv (.map (some ha)),rv hd,rI .i64 q.fNow,rI .i64 q.fArrived] 61,.map ha (AR (mP ha) q.fWaiting),.row hd 33 7 (List.map Ab q.fDead),.pool ha hg 71 (List.map Ai q_p2),.blk he [rv (.pointer (some ⟨hb,0,none⟩))] 27,.blk hf [rI .i64 now] 3]) ((Ah (i:=0) Aa).trans (YY _ ((Ah (i:=1) Aa).trans (YY _ ((Ah (i:=1) Aa).trans (YY _ ((Ah (i:=1) Aa).trans (YY _ (Zb _))))))))) ?_)))));obtain rfl:=A6 hE;exact A4 (B8 VA (AW Aa)) (sC (sC (sC (sC (sC (sC (sC sN))))))) ⟨v55,Aa,Aa⟩
end Go.Proofs.YthbbedliepkakaaGreatDoor.Q
