/-
  Texts of the proof, put together: AL, FwA, FwB, FwC, FwD, FwE, PlA, FwF, ShelfN, FwG, Row, QA, QB, PQ0, QC, FwH, FwK, QD, QE, QR, IdA, PlB, IdB, PlC, IdC, ShelfV, QG, QS, QO, RowQ, PQB, WQB, PVa, WVa, PVb.
-/
import Derived.Test.YtkoiaconljdbeaaDoorProg
import Derived.WalkKit
import Derived.Deep.QuietTactic
import Derived.Deep.LoopGhost
import Derived.Lib.Strings
import Derived.Lib.Bytealg
import Derived.Shelf.Strconv.Itoa3
import Derived.Shelf.LaysM
import Derived.Shelf.LaysC
import Derived.Shelf.Strconv.AtoiAll
import Derived.Shelf.Strconv.ErrVarAll
import Derived.Lib.SmallJoins
import Derived.Lib.AppendIntMem
import Derived.Test.YtkoiaconljdbeaaDoorCards
import Derived.Test.YtkoiaconljdbeaaDoorTie
import Derived.Carry
import Derived.ChangeSame
import Derived.ProofKit
import Derived.OpenShut
import Derived.Deep.DeepHandedRow
import Derived.Deep.DeepWitnessRowRef
import Derived.Lib.LaidTab
import Derived.Lib.LaidIn
import Derived.Stop.LaidErr
import Derived.Scope
import GoSem.Core.View
import GoSem.Op.String
import Derived.IntWalk
import Derived.Laws.AppendOwn
import Derived.Laws.OwnMore
import Derived.Great.FillDense
import Derived.Lib.AtoiAllCases
import Derived.Lib.ItoaNum
import Derived.Lib.ItoaLen
import Derived.Shelf.Strings.Builder1
import Derived.Shelf.Strings.Count
import Derived.Shelf.Strings.Search1
import Derived.Shelf.Strings.Search2
import Derived.Shelf.Strings.Search3
import Derived.Shelf.Small.Strs
import Derived.Laws.BytesString
import Derived.Lib.Builder
import Derived.Lib.UnsafeStr
import Derived.Lib.AppendStr
import Derived.Laws.Externs
import Derived.Deep.Slices
import Derived.ChangeArms
import Derived.DataReads
import Derived.Laws.Tables
namespace Go.Proofs.YtkoiaconljdbeaaDoor
open Go
abbrev CM:=@Tryd.isAgg3
abbrev In:=@Tryd.isAgg31
abbrev Gd:=@Tryd.isAgg33
abbrev Mm:=@Tryd.isAgg4
abbrev H5:=@Tryd.isAgg43
abbrev IK:=@Tryd.isAgg68
abbrev Ml:=@Tryd.isAgg70
abbrev DR:=@Tryd.isAgg9
abbrev Im:=@Tryd.isAgg95
abbrev Ln:=@Tryd.call10
abbrev Ki:=@Tryd.call11
abbrev Mk:=@Tryd.call13
abbrev Mj:=@Tryd.call15
abbrev Mi:=@Tryd.call21
abbrev Lm:=@Tryd.results15
abbrev N2:=@Tryd.results20
abbrev O9:=@Tryd.results3
abbrev N1:=@Tryd.results33
abbrev N0:=@Tryd.results45
abbrev Mh:=@Tryd.results59
abbrev Kh:=@Tryd.results65
abbrev Mg:=@Tryd.results67
abbrev Jp:=@Tryd.sizeOf107
abbrev Cu:=@Tryd.sizeOf3
abbrev Hd:=@Tryd.sizeOf31
abbrev Bp:=@Tryd.sizeOf33
abbrev E3:=@Tryd.sizeOf4
abbrev Kg:=@Tryd.sizeOf41
abbrev H4:=@Tryd.sizeOf43
abbrev Mf:=@Tryd.sizeOf53
abbrev IJ:=@Tryd.sizeOf68
abbrev Hc:=@Tryd.sizeOf70
abbrev DA:=@Tryd.sizeOf9
abbrev EG:=@Tryd.sizeOf95
abbrev Eb:=@Tryd.underlying104
abbrev Ea:=@Tryd.underlying107
abbrev Jo:=@Tryd.underlying22
abbrev Nz:=@Tryd.underlying25
abbrev Bs:=@Tryd.underlying27
abbrev PJ:=@Tryd.underlying3
abbrev El:=@Tryd.underlying31
abbrev Bx:=@Tryd.underlying33
abbrev Pk:=@Tryd.underlying4
abbrev Il:=@Tryd.underlying41
abbrev Ik:=@Tryd.underlying43
abbrev H3:=@Tryd.underlying45
abbrev Ll:=@Tryd.underlying53
abbrev BE:=@Tryd.underlying70
abbrev Hb:=@Tryd.underlying9
abbrev DC:=@Tryd.underlying95
abbrev Me:=@Tryd.zeroValue33
abbrev Jn:=@Tryd.zeroValue53
abbrev O8:=@Tryd.zeroValue70
abbrev O7:=@Tryd.zeroValue95
abbrev Qh:=@decide_eq_true_eq
abbrev Qi:=@decide_eq_false_iff_not
abbrev Qj:=@List.Perm.refl
abbrev Qk:=@List.getElem?_eq_getElem
abbrev Ql:=@decide_eq_false
abbrev Qm:=@Bool.and_eq_true
abbrev Qn:=@decide_eq_true
abbrev Qp:=@List.getD_eq_getElem?_getD
abbrev Qq:=@List.Perm.cons
abbrev Qr:=@cond_false
abbrev Qs:=@List.length_map
abbrev Qt:=@List.length_cons
abbrev Qu:=@List.mem_of_getElem?
abbrev Qv:=@cond_true
abbrev Qw:=@Bool.not_true
abbrev Qx:=@Nat.le_refl
abbrev Qy:=@List.length_append
abbrev Qz:=@Bool.false_or
abbrev Q0:=@List.all_eq_true
abbrev Q1:=@List.mem_singleton
abbrev Q2:=@Bool.eq_iff_iff
abbrev Q3:=@List.eq_nil_of_length_eq_zero
abbrev Q4:=@Bool.true_and
abbrev Q5:=@Bool.not_false
abbrev Q6:=@Bool.false_and
abbrev Q7:=@Bool.and_false
abbrev Q8:=@Bool.or_false
abbrev Q9:=@Bool.and_true
abbrev QA:=@Nat.lt_succ_self
abbrev QB:=@List.map_cons
abbrev QC:=@Nat.zero_add
abbrev QD:=@Bool.true_or
abbrev QE:=@List.getElem?_take
abbrev QF:=@Int.le_refl
abbrev QG:=@Bool.or_true
abbrev QH:=@Bool.false_eq_true
abbrev QI:=@Option.getD_some
abbrev QJ:=@Nat.zero_le
abbrev QK:=@List.getElem?_map
abbrev QL:=@Bool.not_eq_true'
abbrev QM:=@List.map_map
abbrev QN:=@List.length_take
abbrev QO:=@List.mem_cons
abbrev QP:=@List.append_assoc
abbrev QQ:=@List.length_singleton
abbrev QR:=@if_neg
abbrev QS:=@List.length_nil
abbrev QT:=@Bool.or_eq_true
open Go Go.RowKit
set_option linter.unusedVariables false
abbrev Fr:=List (Nat×Value)
def look:Fr→Nat→Option Value
 | [],_=>none
 | p::l,i=>bif Nat.beq p.1 i then some p.2 else look l i
theorem Bz (j:Nat)(v:Value)(l:Fr)(i:Nat):look ((j,v)::l) i=if j=i then some v else look l i:=by
 by_cases h:j=i
 ·subst h;simp[look]
 ·have:Nat.beq j i=false:=by
   cases hb:Nat.beq j i
   ·rfl
   ·exact absurd (Nat.eq_of_beq_eq_true hb) h
  simp[look,this,h]
structure BI (n:Nat) (l:Fr) (a:Act):Prop where
 size:a.tmps.size=n
 defers:a.defers=[]
 tm:∀i v,look l i=some v→a.tmps[i]? =some v
def ev:Fr→Operand→Option Value
 | l,.tmp t=>look l t
 | _,.const v=>some v
 | _,.global g=>some (.pointer (some ⟨g,0,none⟩))
 | _,.func f=>some (.func (.func f) #[] #[])
section
variable {n : Nat} {l l' : Fr} {a : Act}
theorem BI.eval (h:BI n l a){x:Operand}{v:Value}(hx:ev l x=some v):a.eval x=v:=by
 cases x with
 | tmp t=>simp[Act.eval,Array.getD_eq_getD_getElem?,h.tm t v hx]
 | const u=>simp only[ev,Option.some.injEq] at hx;subst hx;rfl
 | global g=>simpa[ev,Act.eval] using hx
 | func f=>simpa[ev,Act.eval] using hx
theorem BI.put (h:BI n l a){d:Nat}(hd:Nat.blt d n=true)(v:Value):BI n ((d,v)::l) (a.put (some d) v):=by
 have hd':d<n:=by simpa using hd
 refine⟨by simp[Act.put,h.size],by simp[Act.put,h.defers],λi u hi=>?_⟩;rw[Bz] at hi;simp only[Act.put,Array.getElem?_setIfInBounds]
 split at hi
 ·rename_i e;subst e;simp at hi;subst hi;simp[h.size,hd']
 ·rename_i e;rw[QR e];exact h.tm i u hi
theorem BI.put_none (h:BI n l a)(v:Value):BI n l (a.put none v):=h
def AM:Fr→Fr→Prop
 | [],_=>True
 | p::r,l=>look l p.1=some p.2∧AM r l
theorem AM.look:∀{l' l:Fr},AM l' l→∀i v,look l' i=some v→Proofs.YtkoiaconljdbeaaDoor.look l i=some v
 | [],_,_,i,v,h=>by simp[Proofs.YtkoiaconljdbeaaDoor.look] at h
 | p::r,l,⟨h1,h2⟩,i,v,h=>by
  obtain⟨j,u⟩:=p;rw[Bz] at h
  split at h
  ·rename_i e;subst e;simp at h;subst h;exact h1
  ·exact AM.look h2 i v h
theorem BI.sub (h:BI n l a)(hs:AM l' l):BI n l' a:=⟨h.size,h.defers,λi v hi=>h.tm i v (hs.look i v hi)⟩
end
inductive Ent where
 | blk (b:Nat) (o:Obj)
 | row (v:Value) (e:TypeId) (sz:Nat) (n:Nat) (xs:List Value)
def Ent.foot:Ent→List Nat
 | .blk b _=>[b]
 | .row v _ _ _ _=>v.ownBlock.toList
def Ent.holds (w:World):Ent→Prop
 | .blk b o=>w.heap[b]? =some o
 | .row v e sz n xs=>w.ownsRow 0 e sz v n xs
theorem Ent.lt {w:World}{e:Ent}(h:e.holds w){k:Nat}(hk:k∈e.foot):k<w.heap.size:=by
 cases e with
 | blk b o=>simp[Ent.foot] at hk;subst hk;exact(Array.getElem?_eq_some_iff.1 h).1
 | row v e sz n xs=>simp[Ent.foot,Option.mem_toList] at hk;exact(World.ownsRow.lt h k hk).2
theorem Ent.keep {w w':World}{e:Ent}(h:e.holds w)(hk:∀k∈e.foot,w'.heap[k]? =w.heap[k]?):e.holds w':=by
 cases e with
 | blk b o=>exact(hk b (by simp[Ent.foot])).trans h
 | row v e sz n xs=>
  refine⟨h.1,?_⟩;rcases h.2 with hn | ⟨g,cap,cur,rfl,hb,hgg,rest⟩
  ·exact .inl hn
  ·exact .inr ⟨g,cap,cur,rfl,hb,(hk g (by simp[Ent.foot,Value.ownBlock])).trans hgg,rest⟩
structure St (w0:World) (M:List Nat) (H:List Ent) (w:World):Prop where
 os:w.os=w0.os
 tape:w.tape=w0.tape
 output:w.output=w0.output
 size:w0.heap.size≤w.heap.size
 old:∀k,k<w0.heap.size→k ∉ M→w.heap[k]? =w0.heap[k]?
 has:∀e∈H,e.holds w
 own:∀e∈H,∀k∈e.foot,w0.heap.size≤k∨k∈M
 dis:H.Pairwise (λe e'=>∀k∈e.foot,k ∉ e'.foot)
section
variable {w0 w w' : World} {M M2 : List Nat} {H H' Hr Hin Hout : List Ent}
theorem St.refl (w:World)(M:List Nat):St w M [] w:=⟨rfl,rfl,rfl,Qx _,λ_ _ _=>rfl,by simp,by simp,.nil⟩
theorem St.enter (h:St w0 M H w):St w (H.flatMap Ent.foot) H w:=
 ⟨rfl,rfl,rfl,Qx _,λ_ _ _=>rfl,h.has,λe he k hk=>.inr (List.mem_flatMap.2 ⟨e,he,hk⟩),h.dis⟩
theorem St.below (h:St w0 [] H w):Below w0.heap.size w0 w:=⟨h.os,h.tape,h.output,h.size,λk hk=>h.old k hk (by simp)⟩
theorem St.of_below (h:Below w0.heap.size w0 w):St w0 [] [] w:=⟨h.os,h.tape,h.output,h.size,λk hk _=>h.block k hk,by simp,by simp,.nil⟩
theorem St.sub (h:St w0 M H w)(hs:H'.Sublist H):St w0 M H' w:=
 ⟨h.os,h.tape,h.output,h.size,h.old,λe he=>h.has e (hs.subset he),λe he=>h.own e (hs.subset he),h.dis.sublist hs⟩
theorem St.perm (h:St w0 M H w)(hp:H.Perm H'):St w0 M H' w:=
 ⟨h.os,h.tape,h.output,h.size,h.old,λe he=>h.has e (hp.mem_iff.2 he),λe he=>h.own e (hp.mem_iff.2 he),
  (hp.pairwise_iff (λhxy k hk hk'=>hxy k hk' hk)).1 h.dis⟩
theorem A1:∀{H:List Ent} {i:Nat} {e:Ent},H[i]? =some e→H.Perm (e::H.eraseIdx i)
 | x::r,0,e,h=>by simp at h;subst h;simp
 | x::r,i+1,e,h=>by
  simp at h;exact((A1 h).cons x).trans (List.Perm.swap e x _)
theorem St.front (h:St w0 M H w){i:Nat}{e:Ent}(hi:H[i]? =some e):St w0 M (e::H.eraseIdx i) w:=h.perm (A1 hi)
theorem St.drew (h:St w0 M H w):St w0 M H w.drew:=
 ⟨h.os,h.tape,h.output,h.size,h.old,λe he=>Ent.keep (h.has e he) λ_ _=>rfl,h.own,h.dis⟩
theorem St.drawn (h:St w0 M H w)(k:Nat):St w0 M H { w with drawn:=k }:=
 ⟨h.os,h.tape,h.output,h.size,h.old,λe he=>Ent.keep (h.has e he) λ_ _=>rfl,h.own,h.dis⟩
theorem St.mem_lt (h:St w0 M H w){e:Ent}(he:e∈H){k:Nat}(hk:k∈e.foot):k<w.heap.size:=Ent.lt (h.has e he) hk
theorem St.call (h:St w0 M (Hin++Hr) w)(h':St w M2 Hout w')(hM:∀k∈M2,∃e∈Hin,k∈e.foot):St w0 M (Hout++Hr) w':=by
 have hd:=List.pairwise_append.1 h.dis;have hM2:∀k,k<w0.heap.size→k ∉ M→k ∉ M2:=λk hk hkM hkM2=>by
  obtain⟨e,he,hke⟩:=hM k hkM2;rcases h.own e (List.mem_append_left _ he) k hke with h1 | h1
  ·omega
  ·exact hkM h1
 have hr:∀e∈Hr,∀k∈e.foot,k<w.heap.size∧k ∉ M2:=λe he k hk=>by
  refine⟨h.mem_lt (List.mem_append_right _ he) hk,λhkM2=>?_⟩;obtain⟨e',he',hke'⟩:=hM k hkM2;exact hd.2.2 e' he' e he k hke' hk
 refine⟨h'.os.trans h.os,h'.tape.trans h.tape,h'.output.trans h.output,Nat.le_trans h.size h'.size,λk hk hkM=>?_,λe he=>?_,λe he k hk=>?_,?_⟩
 ·exact(h'.old k (Nat.lt_of_lt_of_le hk h.size) (hM2 k hk hkM)).trans (h.old k hk hkM)
 ·rcases List.mem_append.1 he with he | he
  ·exact h'.has e he
  ·exact Ent.keep (h.has e (List.mem_append_right _ he)) λk hk=>h'.old k (hr e he k hk).1 (hr e he k hk).2
 ·rcases List.mem_append.1 he with he | he
  ·rcases h'.own e he k hk with h1 | h1
   ·exact .inl (Nat.le_trans h.size h1)
   ·obtain⟨e',he',hke'⟩:=hM k h1;exact h.own e' (List.mem_append_left _ he') k hke'
  ·exact h.own e (List.mem_append_right _ he) k hk
 ·refine List.pairwise_append.2 ⟨h'.dis,hd.2.1,λe he e' he' k hk hk'=>?_⟩;rcases h'.own e he k hk with h1 | h1
  ·have:=(hr e' he' k hk').1;omega
  ·exact(hr e' he' k hk').2 h1
theorem St.call0 (h:St w0 M H w)(h':St w [] Hout w'):St w0 M (Hout++H) w':=
 St.call (Hin:=[]) (by simpa using h) h' (by simp)
theorem St.set (h:St w0 M H w){i:Nat}{e e':Ent}(hi:H[i]? =some e)(os:w'.os=w.os)(tape:w'.tape=w.tape)(output:w'.output=w.output)(size:w.heap.size≤w'.heap.size)
  (hb:∀k,k<w.heap.size→k ∉ e.foot→w'.heap[k]? =w.heap[k]?) (he:e'.holds w') (hf:∀k∈e'.foot,k∈e.foot∨w.heap.size≤k):St w0 M (H.set i e') w':=by
 have hp:(e::H.eraseIdx i).Perm H:=(A1 hi).symm;have h1:St w0 M ([e]++H.eraseIdx i) w:=h.perm (A1 hi);have hil:i<H.length:=(List.getElem?_eq_some_iff.1 hi).1;have h2:St w e.foot [e'] w':=
  ⟨os,tape,output,size,hb,by simpa using he,by simpa using λk hk=>(hf k hk).symm,by simp⟩
 have h3:=h1.call h2 (λk hk=>⟨e,by simp,hk⟩);have hq:(H.set i e')[i]? =some e':=by simp[hil]
 have:=A1 hq;rw[List.eraseIdx_set_eq] at this;exact h3.perm this.symm
theorem St.alloc (h:St w0 M H w)(o:Obj):St w0 M (.blk w.heap.size o::H) (w.alloc o):=by
 have h2:St w [] [.blk w.heap.size o] (w.alloc o):=
  ⟨rfl,rfl,rfl,by simp,λk hk _=>Below.heap_alloc w o k hk,by simpa[Ent.holds] using heap_alloc_new w o,by simp[Ent.foot],by simp⟩
 exact h.call0 h2
end
section
variable (P : Program) (n : Nat) (w0 : World) (M : List Nat)
def WL (ops:Array Oper)(Q:Exit→Act→World→Prop)(rest:List Oper)(l:Fr)(H:List Ent):Prop:=∀a w,BI n l a→St w0 M H w→wpList P ops Q rest a w
def WC (c:Code)(Q:Exit→Act→World→Prop)(l:Fr)(H:List Ent):Prop:=∀a w,BI n l a→St w0 M H w→c.wp P Q a w
def WK (K:Act→World→Prop)(l:Fr)(H:List Ent):Prop:=∀a w,BI n l a→St w0 M H w→K a w
def Eh {S:Type}(inv:S→Prop)(fr:S→Fr)(hp:S→List Ent):Act→World→Prop:=λa w=>∃s,inv s∧BI n (fr s) a∧St w0 M (hp s) w
def AS (l:Fr)(H:List Ent)(o:Oper)(v:Value):Prop:=∀a w,BI n l a→St w0 M H w→(execOp a.eval o).run P w = .ok (.value v) w
end
def PF (w:World)(M:List Nat)(Φ:Value→List Ent→Prop):Ending→World→Prop:=λe w'=>∃v H,e = .returned v∧St w M H w'∧Φ v H
def It (w:World)(v:Value):Ending→World→Prop:=λe w'=>e = .returned v∧St w [] [] w'
section
variable {P : Program} {n : Nat} {w0 : World} {M : List Nat} {ops : Array Oper} {Q : Exit → Act → World → Prop} {rest : List Oper} {l l' : Fr} {H H' : List Ent} {x y c : Code} {K : Act → World → Prop}
theorem WC.sub (hl:AM l' l)(hH:H'.Sublist H)(h:WC P n w0 M c Q l' H'):WC P n w0 M c Q l H:=λa w ha hw=>h a w (ha.sub hl) (hw.sub hH)
theorem WK.sub (hl:AM l' l)(hH:H'.Sublist H)(h:WK n w0 M K l' H'):WK n w0 M K l H:=λa w ha hw=>h a w (ha.sub hl) (hw.sub hH)
theorem WL.sub (hl:AM l' l)(hH:H'.Sublist H)(h:WL P n w0 M ops Q rest l' H'):WL P n w0 M ops Q rest l H:=λa w ha hw=>h a w (ha.sub hl) (hw.sub hH)
theorem WL.front {i:Nat}{e:Ent}(hi:H[i]? =some e)(h:WL P n w0 M ops Q rest l (e::H.eraseIdx i)):WL P n w0 M ops Q rest l H:=λa w ha hw=>h a w ha (hw.front hi)
theorem Ax (h:WC P n w0 M x (Exit.then (λa w=>y.wp P Q a w) Q) l H):WC P n w0 M (x.seq y) Q l H:=λa w ha hw=>wp_seq (h a w ha hw)
theorem CO {S:Type}(inv:S→Prop)(fr:S→Fr)(hp:S→List Ent)(h:WC P n w0 M x (Exit.then (Eh n w0 M inv fr hp) Q) l H)(h2:∀s,inv s→WC P n w0 M y Q (fr s) (hp s)) :
  WC P n w0 M (x.seq y) Q l H:=λa w ha hw=>wp_seq (wp_mono (h a w ha hw) λe a w q=>by
   cases e with
   | normal=>obtain⟨s,hi,hs,ht⟩:=q;exact h2 s hi a w hs ht
   | _=>exact q)
theorem AQ {S:Type}{inv:S→Prop}{fr:S→Fr}{hp:S→List Ent}(s:S)(hi:inv s)(hl:AM (fr s) l)(hH:(hp s).Sublist H):WK n w0 M (Eh n w0 M inv fr hp) l H:=
 λ_ _ ha hw=>⟨s,hi,ha.sub hl,hw.sub hH⟩
theorem A0 (h:WK n w0 M K l H):WK n w0 M (Exit.then K Q .normal) l H:=h
theorem AA {id:Nat}(h:WK n w0 M (Q (.exit id)) l H):WK n w0 M (Exit.then K Q (.exit id)) l H:=h
theorem Al (h:WK n w0 M (Q .ret) l H):WK n w0 M (Exit.then K Q .ret) l H:=h
theorem AT {id:Nat}(h:WK n w0 M (Q .normal) l H):WK n w0 M (Exit.inBlock id Q .normal) l H:=h
theorem A9 {id:Nat}(h:WK n w0 M (Q .ret) l H):WK n w0 M (Exit.inBlock id Q .ret) l H:=h
theorem AG {J:Prop}(b:Bool)(h1:b=true→J)(h2:b=false→J):J:=by cases b;exact h2 rfl;exact h1 rfl
def Pf (n:Nat)(w0:World)(M:List Nat)(φ:Prop)(l:Fr)(H:List Ent):Act→World→Prop:=λa w=>φ∧BI n l a∧St w0 M H w
theorem AI (l1:Fr)(H1:List Ent){φ:Prop}(h:WC P n w0 M x (Exit.then (Pf n w0 M φ l1 H1) Q) l H)(h2:φ→WC P n w0 M y Q l1 H1):WC P n w0 M (x.seq y) Q l H:=λa w ha hw=>
 wp_seq (wp_mono (h a w ha hw) λe a w q=>by
  cases e with
  | normal=>exact h2 q.1 a w q.2.1 q.2.2
  | _=>exact q)
theorem Bu {φ:Prop}{l1:Fr}{H1:List Ent}(hφ:φ)(hl:AM l1 l)(hH:H1.Sublist H):WK n w0 M (Pf n w0 M φ l1 H1) l H:=λ_ _ ha hw=>⟨hφ,ha.sub hl,hw.sub hH⟩
theorem fb {a b:Bool}(h:a=b):some (Value.bool a)=some (Value.bool b):=by rw[h]
theorem Bl (h:WC P n w0 M y Q l H):WK n w0 M (λa w=>y.wp P Q a w) l H:=h
theorem AC (h:WK n w0 M (Q .normal) l H):WC P n w0 M .skip Q l H:=λa w ha hw=>wp_skip (h a w ha hw)
theorem B6 {id:Nat}(h:WK n w0 M (Q (.exit id)) l H):WC P n w0 M (.exit id) Q l H:=λa w ha hw=>wp_exit (h a w ha hw)
theorem A4 (h:WK n w0 M (Q .ret) l H):WC P n w0 M .ret Q l H:=λa w ha hw=>wp_ret (h a w ha hw)
theorem AN {id:Nat}(h:WC P n w0 M c (Exit.inBlock id Q) l H):WC P n w0 M (.block id c) Q l H:=λa w ha hw=>wp_block (h a w ha hw)
theorem Bq {id:Nat}(h:WK n w0 M (Q .normal) l H):WK n w0 M (Exit.inBlock id Q (.exit id)) l H:=λa w ha hw=>by
 show if id=id then _ else _
 rw[if_pos rfl];exact h a w ha hw
theorem A6 {o:Operand}{b:Bool}(ho:ev l o=some (.bool b))(h1:b=true→WC P n w0 M x Q l H)(h2:b=false→WC P n w0 M y Q l H):WC P n w0 M (.cond o x y) Q l H:=
 λa w ha hw=>wp_cond_split (ha.eval ho) (λe=>h1 e a w ha hw) (λe=>h2 e a w ha hw)
theorem DE {o:Operand}{b:Bool}(ho:ev l o=some (.bool b))(hb:b=true)(h:WC P n w0 M x Q l H):WC P n w0 M (.cond o x y) Q l H:=
 λa w ha hw=>by subst hb;exact wp_cond_true (ha.eval ho) (h a w ha hw)
theorem CP {o:Operand}{b:Bool}(ho:ev l o=some (.bool b))(hb:b=false)(h:WC P n w0 M y Q l H):WC P n w0 M (.cond o x y) Q l H:=
 λa w ha hw=>by subst hb;exact wp_cond_false (ha.eval ho) (h a w ha hw)
theorem Hk {S:Type}(inv:S→Prop)(fr:S→Fr)(hp:S→List Ent)(μ:S→Nat)(s0:S)(h0:inv s0)(hl:AM (fr s0) l)(hH:(hp s0).Sublist H)
  (round:∀s,inv s→WC P n w0 M c (Exit.then (Eh n w0 M (λs'=>inv s'∧μ s'<μ s) fr hp) Q) (fr s) (hp s)):WC P n w0 M (.loop c) Q l H:=λa w ha hw=>by
 refine wp_loop_ghost (λk a w=>∃s,μ s=k∧inv s∧BI n (fr s) a∧St w0 M (hp s) w) (μ s0) ⟨s0,rfl,h0,ha.sub hl,hw.sub hH⟩ ?_;rintro k a w ⟨s,rfl,hi,ha,hw⟩;refine wp_mono (round s hi a w ha hw) λe a' w' q=>?_
 cases e with
 | normal=>
  obtain⟨s',⟨hi',hlt⟩,ha',hw'⟩:=q;exact⟨μ s',hlt,s',rfl,hi',ha',hw'⟩
 | _=>exact q
theorem Av {id:Nat}{ops:List Oper}(h:WL P n w0 M ops.toArray Q ops l H):WC P n w0 M (.region id ops.toArray false) Q l H:=λa w ha hw=>wp_region_lit (h a w ha hw)
theorem Au (h:WK n w0 M (Q .normal) l H):WL P n w0 M ops Q [] l H:=λa w ha hw=>wpList_nil (h a w ha hw)
def Cf (ops:Array Oper)(j:Nat):Option Nat:=(ops[j]?).bind (·.dst)
theorem BR {a:Act}{j d:Nat}{b:Bool}(ha:BI n l a)(hj:Cf ops j=some d)(hv:look l d=some (.bool b)):yielded ops a.tmps j=some b:=by
 unfold Cf at hj;simp[yielded,hj,ha.tm d _ hv]
theorem CU {a:Act}{j d:Nat}(ha:BI n l a)(hj:Cf ops j=some d)(hv:look l d=some undef):yielded ops a.tmps j=none:=by
 unfold Cf at hj;simp[yielded,hj,ha.tm d _ hv,undef]
theorem AF {d:Option Nat}{op:Op}{ty:TypeId}{pos:String}{af:Array Edge}{j dj:Nat}{want b:Bool}(hj:Cf ops j=some dj)(hv:look l dj=some (.bool b))(hb:b=want)
  (h:WL P n w0 M ops Q ({ dst:=d,op:=op,type:=ty,pos:=pos,after:=af,guard:=none }::rest) l H) :
  WL P n w0 M ops Q ({ dst:=d,op:=op,type:=ty,pos:=pos,after:=af,guard:=some (j,want) }::rest) l H:=λa w ha hw=>by
 have h1:=h a w ha hw;have hy:=BR ha hj hv;subst hb;simp only[wpList,Region.wanted,hy,beq_self_eq_true,if_true] at h1 ⊢;exact h1
theorem Am {d:Nat}{op:Op}{ty:TypeId}{pos:String}{af:Array Edge}{j dj:Nat}{want b:Bool}(hj:Cf ops j=some dj)(hv:look l dj=some (.bool b))(hb:b = !want)(hn:Nat.blt d n=true)
  (h:WL P n w0 M ops Q rest ((d,undef)::l) H) :
  WL P n w0 M ops Q ({ dst:=some d,op:=op,type:=ty,pos:=pos,after:=af,guard:=some (j,want) }::rest) l H:=λa w ha hw=>by
 have hy:=BR ha hj hv;subst hb;refine wpList_skip ?_ (h _ w (ha.put hn _) hw);simp[Region.wanted,hy]
theorem Br {d:Nat}{op:Op}{ty:TypeId}{pos:String}{af:Array Edge}{j dj:Nat}{want:Bool}(hj:Cf ops j=some dj)(hv:look l dj=some undef)(hn:Nat.blt d n=true)
  (h:WL P n w0 M ops Q rest ((d,undef)::l) H) :
  WL P n w0 M ops Q ({ dst:=some d,op:=op,type:=ty,pos:=pos,after:=af,guard:=some (j,want) }::rest) l H:=λa w ha hw=>by
 have hy:=CU ha hj hv;refine wpList_skip ?_ (h _ w (ha.put hn _) hw);simp[Region.wanted,hy]
theorem Aw {d:Nat}{op:Op}{ty:TypeId}{pos:String}{af:Array Edge}{v:Value}(hr:AS P n w0 M l H { dst:=some d,op:=op,type:=ty,pos:=pos,after:=af,guard:=none } v)
  (hn:Nat.blt d n=true) (h:WL P n w0 M ops Q rest ((d,v)::l) H):WL P n w0 M ops Q ({ dst:=some d,op:=op,type:=ty,pos:=pos,after:=af,guard:=none }::rest) l H:=λa w ha hw=>
 wpList_plain rfl λK hK=>by
  unfold Oper.wp;rw[hr a w ha hw];exact hK _ _ (h _ w (ha.put hn v) hw)
theorem EQ {d:Nat}{op:Op}{ty:TypeId}{pos:String}{af:Array Edge}
  (hr:∀a w,BI n l a→St w0 M H w→∃v w' H',(execOp a.eval { dst:=some d,op:=op,type:=ty,pos:=pos,after:=af,guard:=none }).run P w = .ok (.value v) w'∧St w0 M H' w'∧WL P n w0 M ops Q rest ((d,v)::l) H')
  (hn:Nat.blt d n=true):WL P n w0 M ops Q ({ dst:=some d,op:=op,type:=ty,pos:=pos,after:=af,guard:=none }::rest) l H:=λa w ha hw=>
 wpList_plain rfl λK hK=>by
  obtain⟨v,w',H',h1,h2,h3⟩:=hr a w ha hw;unfold Oper.wp;rw[h1];exact hK _ _ (h3 _ w' (ha.put hn v) h2)
theorem IL {op:Op}{ty:TypeId}{pos:String}{af:Array Edge}
  (hr:∀a w,BI n l a→St w0 M H w→∃w' H',(execOp a.eval { dst:=none,op:=op,type:=ty,pos:=pos,after:=af,guard:=none }).run P w = .ok .skip w'∧St w0 M H' w'∧WL P n w0 M ops Q rest l H') :
  WL P n w0 M ops Q ({ dst:=none,op:=op,type:=ty,pos:=pos,after:=af,guard:=none }::rest) l H:=λa w ha hw=>
 wpList_plain rfl λK hK=>by
  obtain⟨w',H',h1,h2,h3⟩:=hr a w ha hw;unfold Oper.wp;rw[h1];exact hK _ _ (h3 _ w' (ha.put_none _) h2)
theorem Hi {d:Nat}{op:Op}{ty:TypeId}{pos:String}{af:Array Edge}{f:FuncId}{args:Array Value}
  (hr:∀a w,BI n l a→St w0 M H w→(execOp a.eval { dst:=some d,op:=op,type:=ty,pos:=pos,after:=af,guard:=none }).run P w = .ok (.enter f args) w)
  (hc:∀w,St w0 M H w→Calls P f args w (λe w'=>∃v H',e = .returned v∧St w0 M H' w'∧WL P n w0 M ops Q rest ((d,v)::l) H'))
  (hn:Nat.blt d n=true):WL P n w0 M ops Q ({ dst:=some d,op:=op,type:=ty,pos:=pos,after:=af,guard:=none }::rest) l H:=λa w ha hw=>
 wpList_plain rfl λK hK=>by
  unfold Oper.wp;rw[hr a w ha hw];refine(hc w hw).mono ?_;rintro e w' ⟨v,H',rfl,h2,h3⟩;exact hK _ _ (h3 _ w' (ha.put hn v) h2)
end
def B (l:List UInt8):ByteArray:=⟨l.toArray⟩
theorem Ch (l:List UInt8):(B l).toList=l:=by
 rw[Go.ByteArray.toList_eq];rfl
theorem GR (l:List UInt8):(B l).size=l.length:=by simp[B,ByteArray.size]
theorem PV (s:ByteArray):s=B s.data.toList:=by cases s;simp[B]
theorem fs {a b:List UInt8}(h:a=b):some (Value.string (B a))=some (Value.string (B b)):=by rw[h]
theorem O6 (l:List UInt8)(i:Nat):(B l)[i]? =l[i]?:=by
 by_cases h:i<(B l).size
 ·have h':i<l.length:=by rw[GR] at h;exact h
  rw[Go.ByteArray.getElem?_lt' _ _ h,Qk h'];rfl
 ·have h' : ¬ i<l.length:=by rw[GR] at h;exact h
  rw[Go.ByteArray.getElem?_ge' _ _ h,List.getElem?_eq_none (by omega)]
section
variable {P : Program} {n : Nat} {w0 : World} {M : List Nat} {l : Fr} {H : List Ent} {d : Option Nat} {x y c : Operand} {ty t t' : TypeId} {pos : String} {af : Array Edge} {g : Option (Nat × Bool)} {v u : Value}
theorem Aj (h:ev l x=some v):AS P n w0 M l H { dst:=d,op:=.move x,type:=ty,pos:=pos,after:=af,guard:=g } v:=λa w ha _=>by
 simp[execOp,ha.eval h]
theorem An (h:ev l x=some v):AS P n w0 M l H { dst:=d,op:=.assign x,type:=ty,pos:=pos,after:=af,guard:=g } v:=λa w ha _=>by
 simp[execOp,ha.eval h]
theorem Aq {b:Bool}(hc:ev l c=some (.bool b))(hb:b=true)(h:ev l x=some v):AS P n w0 M l H { dst:=d,op:=.pick c x y,type:=ty,pos:=pos,after:=af,guard:=g } v:=λa w ha _=>by
 subst hb;simp[execOp,ha.eval h,ha.eval hc,asBool]
theorem Ay {b:Bool}(hc:ev l c=some (.bool b))(hb:b=false)(h:ev l y=some v):AS P n w0 M l H { dst:=d,op:=.pick c x y,type:=ty,pos:=pos,after:=af,guard:=g } v:=λa w ha _=>by
 subst hb;simp[execOp,ha.eval h,ha.eval hc,asBool]
theorem Bm {vs:Array Value}{i:Nat}(h:ev l x=some (.tuple vs))(hi:vs[i]? =some v):AS P n w0 M l H { dst:=d,op:=.extract x i,type:=ty,pos:=pos,after:=af,guard:=g } v:=λa w ha _=>by
 simp[execOp,ha.eval h,Instr.extract,hi]
theorem BX {b:Bool}(h:ev l x=some (.bool b)):AS P n w0 M l H { dst:=d,op:=.unOp .not t x,type:=ty,pos:=pos,after:=af,guard:=g } (.bool (!b)):=λa w ha _=>by
 simp[execOp,ha.eval h,Op.unary]
theorem Bc (op:BinOp)(k k':IntKind)(p q:Int)(w:World):(eqGuard op t x y (.int k p) (.int k' q)).run P w = .ok () w:=by
 unfold eqGuard;split<;>simp
theorem CA (op:BinOp)(p q:ByteArray)(w:World):(eqGuard op t x y (.string p) (.string q)).run P w = .ok () w:=by
 unfold eqGuard;split<;>simp
theorem G2 (op:BinOp)(p q:Bool)(w:World):(eqGuard op t x y (.bool p) (.bool q)).run P w = .ok () w:=by
 unfold eqGuard;split<;>simp
section
variable {k : IntKind} {p q z : Int} (hx : ev l x = some (.int k p)) (hy : ev l y = some (.int k q))
include hx hy
theorem Cc (hz:k.wrap (p+q)=z):AS P n w0 M l H { dst:=d,op:=.binOp .add t x y t',type:=ty,pos:=pos,after:=af,guard:=g } (.int k z):=λa w ha _=>by
 simp[execOp,ha.eval hx,ha.eval hy,Bc,binOp,Op.intArith,hz]
theorem DK (hz:k.wrap (p-q)=z):AS P n w0 M l H { dst:=d,op:=.binOp .sub t x y t',type:=ty,pos:=pos,after:=af,guard:=g } (.int k z):=λa w ha _=>by
 simp[execOp,ha.eval hx,ha.eval hy,Bc,binOp,Op.intArith,hz]
theorem Dw:AS P n w0 M l H { dst:=d,op:=.binOp .lss t x y t',type:=ty,pos:=pos,after:=af,guard:=g } (.bool (decide (p<q))):=λa w ha _=>by
 simp[execOp,ha.eval hx,ha.eval hy,Bc,binOp,Op.intCmp]
theorem EW:AS P n w0 M l H { dst:=d,op:=.binOp .leq t x y t',type:=ty,pos:=pos,after:=af,guard:=g } (.bool (decide (p≤q))):=λa w ha _=>by
 simp[execOp,ha.eval hx,ha.eval hy,Bc,binOp,Op.intCmp]
theorem Dh:AS P n w0 M l H { dst:=d,op:=.binOp .gtr t x y t',type:=ty,pos:=pos,after:=af,guard:=g } (.bool (decide (q<p))):=λa w ha _=>by
 simp[execOp,ha.eval hx,ha.eval hy,Bc,binOp,Op.intCmp]
theorem HR:AS P n w0 M l H { dst:=d,op:=.binOp .geq t x y t',type:=ty,pos:=pos,after:=af,guard:=g } (.bool (decide (q≤p))):=λa w ha _=>by
 simp[execOp,ha.eval hx,ha.eval hy,Bc,binOp,Op.intCmp]
theorem B4:AS P n w0 M l H { dst:=d,op:=.binOp .eql t x y t',type:=ty,pos:=pos,after:=af,guard:=g } (.bool (decide (p=q))):=λa w ha _=>by
 have e:(p ==q)=decide (p=q):=by rw[Q2];simp
 simp[execOp,ha.eval hx,ha.eval hy,Bc,binOp,Op.intCmp,e]
theorem D7:AS P n w0 M l H { dst:=d,op:=.binOp .neq t x y t',type:=ty,pos:=pos,after:=af,guard:=g } (.bool (!decide (p=q))):=λa w ha _=>by
 have e:(p !=q) = !decide (p=q):=by rw[Q2];simp
 simp[execOp,ha.eval hx,ha.eval hy,Bc,binOp,Op.intCmp,e]
end
section
variable {p q : List UInt8} (hx : ev l x = some (.string (B p))) (hy : ev l y = some (.string (B q)))
include hx hy
theorem MK:AS P n w0 M l H { dst:=d,op:=.binOp .leq t x y t',type:=ty,pos:=pos,after:=af,guard:=g } (.bool (Op.bytesLess p q||decide (p=q))):=λa w ha _=>by
 have e:(p ==q)=decide (p=q):=by rw[Q2];simp
 simp[execOp,ha.eval hx,ha.eval hy,CA,binOp,Op.stringOp,Ch,e]
theorem HQ:AS P n w0 M l H { dst:=d,op:=.binOp .eql t x y t',type:=ty,pos:=pos,after:=af,guard:=g } (.bool (decide (p=q))):=λa w ha _=>by
 have e:(p ==q)=decide (p=q):=by rw[Q2];simp
 simp[execOp,ha.eval hx,ha.eval hy,CA,binOp,Op.stringOp,Ch,e]
theorem I2:AS P n w0 M l H { dst:=d,op:=.binOp .neq t x y t',type:=ty,pos:=pos,after:=af,guard:=g } (.bool (!decide (p=q))):=λa w ha _=>by
 have e:(p ==q)=decide (p=q):=by rw[Q2];simp
 simp[execOp,ha.eval hx,ha.eval hy,CA,binOp,Op.stringOp,Ch,e]
end
theorem I4 {p q:Bool}(ht:P.underlying t=some .bool)(hx:ev l x=some (.bool p))(hy:ev l y=some (.bool q)):AS P n w0 M l H { dst:=d,op:=.binOp .neq t x y t',type:=ty,pos:=pos,after:=af,guard:=g } (.bool (!(p ==q))):=λa w ha _=>by
 have h1:∀dd:Nat,(Op.equalIn (dd+1) t (.bool p) (.bool q)).run P w = .ok (p ==q) w:=λdd=>by simp[Op.equalIn,run_underlying ht]
 have h2:(Op.equal t (.bool p) (.bool q)).run P w = .ok (p ==q) w:=h1 9999;simp only[execOp,ha.eval hx,ha.eval hy,Sem.run_bind,G2,Result.andThen_ok,binOp,h2,Sem.run_pure]
theorem BY {p:List UInt8}(ht:P.underlying t=some .string)(h:ev l x=some (.string (B p))):AS P n w0 M l H { dst:=d,op:=.call { callee:=.builtin .len,args:=#[x],argTypes:=#[t] },type:=ty,pos:=pos,after:=af,guard:=g } (.int .i64 p.length):=λa w ha _=>by
 simp[execOp,resolve,invoke,builtin,ha.eval h,Builtin.len_,run_underlying ht,goInt,GR]
theorem J9 {A:Option Addr}{m cp:Nat}{e:TypeId}(ht:P.underlying t=some (.slice e))(h:ev l x=some (.slice A m cp)):AS P n w0 M l H { dst:=d,op:=.call { callee:=.builtin .len,args:=#[x],argTypes:=#[t] },type:=ty,pos:=pos,after:=af,guard:=g } (.int .i64 m):=λa w ha _=>by
 simp[execOp,resolve,invoke,builtin,ha.eval h,Builtin.len_,run_underlying ht,goInt]
theorem L4 {p:List UInt8}{k:IntKind}{i:Int}{c:UInt8}(ht:P.underlying t=some .string)(h:ev l x=some (.string (B p)))(hi:ev l y=some (.int k i))(h0:0≤i)(hc:p[i.toNat]? =some c) :
  AS P n w0 M l H { dst:=d,op:=.index t x y,type:=ty,pos:=pos,after:=af,guard:=g } (.int .u8 c.toNat):=λa w ha _=>by
 simp[execOp,ha.eval h,ha.eval hi,Instr.index,asIntOf,run_underlying ht,h0,O6,hc]
theorem BO {k:IntKind}{i:Int}{m:Nat}(code:BoundsCode)(w:World)(h0:0≤i)(h1:i≤m):(Instr.sliceBound (.int k i) m code).run P w = .ok i.toNat w:=by
 simp[Instr.sliceBound,asIntOf,h0,h1]
end
theorem E0 (b o j:Nat):(⟨b,o,none⟩:Addr).add j=⟨b,o+j,none⟩:=by unfold Addr.add;split<;>simp_all
section
variable {P : Program} {n : Nat} {w0 : World} {M : List Nat} {ops : Array Oper} {Q : Exit → Act → World → Prop} {rest : List Oper} {l : Fr} {H H' : List Ent} {d : Nat} {x y c : Operand} {ty t t' e : TypeId} {pos : String} {af : Array Edge} {g : Option (Nat × Bool)} {v u : Value}
theorem St.ent {w:World}(h:St w0 M H w){i:Nat}{en:Ent}(hi:H[i]? =some en):en.holds w:=h.has en (Qu hi)
theorem CH {z:Value}{cs:Array Value}(hz:∀w,(zeroValue e).run P w = .ok z w)(hcs:z.cells=cs)(hn:Nat.blt d n=true)
  (h:∀b,WL P n w0 M ops Q rest ((d,.pointer (some ⟨b,0,none⟩))::l) (.blk b (.cells cs e (0,0))::H)) :
  WL P n w0 M ops Q ({ dst:=some d,op:=.alloc e,type:=ty,pos:=pos,after:=af,guard:=none }::rest) l H:=
 EQ (λa w ha hw=>⟨_,w.alloc (.cells cs e),_,by subst hcs;simp[execOp,Instr.alloc,hz,newVar,newRow,newObj,Sem.run,Sem.run_bind],hw.alloc _,h w.heap.size⟩) hn
theorem Oz {cs:Array Value}(hx:ev l x=some v)(hcs:v.cells=cs)(hn:Nat.blt d n=true)
  (h:∀b,WL P n w0 M ops Q rest ((d,.pointer (some ⟨b,0,none⟩))::l) (.blk b (.cells cs e (0,0))::H)) :
  WL P n w0 M ops Q ({ dst:=some d,op:=.box e x,type:=ty,pos:=pos,after:=af,guard:=none }::rest) l H:=
 EQ (λa w ha hw=>⟨_,w.alloc (.cells cs e),_,by subst hcs;simp[execOp,ha.eval hx,Instr.box,newVar,newRow,newObj,Sem.run],hw.alloc _,h w.heap.size⟩) hn
theorem Ka {w:World}{i b off:Nat}{cs:Array Value}{fz:Nat×Nat}(hw:St w0 M H w)(hi:H[i]? =some (.blk b (.cells cs e fz))):w.cell? ⟨b,off,none⟩=cs[off]?:=
 cell_of_row w b off cs e fz (hw.ent hi)
theorem Az {i b off:Nat}{cs:Array Value}{fz:Nat×Nat}{dd:Option Nat}(hag:∀w,(isAgg t).run P w = .ok false w)(hx:ev l x=some (.pointer (some ⟨b,off,none⟩)))
  (hi:H[i]? =some (.blk b (.cells cs e fz))) (hc:cs[off]? =some v):AS P n w0 M l H { dst:=dd,op:=.load t x,type:=ty,pos:=pos,after:=af,guard:=g } v:=λa w ha hw=>by
 simp[execOp,ha.eval hx,Instr.loadAt,Instr.sureAddr,loadVar,hag,Ka hw hi,hc]
theorem Bo {i b off sz:Nat}{cs:Array Value}{fz:Nat×Nat}{dd:Option Nat}{r:List Value}(hag:∀w,(isAgg t).run P w = .ok true w)(hsz:∀w,(sizeOf t).run P w = .ok sz w)
  (hx:ev l x=some (.pointer (some ⟨b,off,none⟩))) (hi:H[i]? =some (.blk b (.cells cs e fz))) (hr:(cs.toList.drop off).take sz=r) (hl:r.length=sz) :
  AS P n w0 M l H { dst:=dd,op:=.load t x,type:=ty,pos:=pos,after:=af,guard:=g } (.agg r.toArray):=λa w ha hw=>by
 have h1:=run_loadCells_list (P:=P) w ⟨b,off,none⟩ r (λj u hj=>by
  rw[E0,Ka hw hi];subst hr;rw[QE] at hj
  split at hj
  ·simpa using hj
  ·cases hj)
 rw[hl] at h1;simp[execOp,ha.eval hx,Instr.loadAt,Instr.sureAddr,loadVar,hag,hsz,h1]
theorem St.setBlk {w:World}(h:St w0 M H w){i b:Nat}{cs cs':Array Value}(hi:H[i]? =some (.blk b (.cells cs e (0,0)))):St w0 M (H.set i (.blk b (.cells cs' e (0,0)))) (w.setRow b cs'):=by
 have hb:w.heap[b]? =some (.cells cs e (0,0)):=h.ent hi;refine h.set hi rfl rfl rfl (by simp[World.setRow]) (λk _ hk=>?_) ?_ (by simp[Ent.foot])
 ·simp only[Ent.foot,Q1] at hk;simp only[World.setRow,Array.getElem?_modify];rw[QR (λe=>hk e.symm)]
 ·exact setRow_heap w b cs cs' e (0,0) hb
theorem Cv {i b off:Nat}{cs cs':Array Value}(hag:∀w,(sizeOf t).run P w = .ok 1 w)(hx:ev l x=some (.pointer (some ⟨b,off,none⟩)))(hy:ev l y=some v)(hv:v.oneCell'=true)
  (hi:H[i]? =some (.blk b (.cells cs e (0,0)))) (hlt:Nat.blt off cs.size=true) (hcs:cs.setIfInBounds off v=cs') (hH:H.set i (.blk b (.cells cs' e (0,0)))=H')
  (h:WL P n w0 M ops Q rest l H'):WL P n w0 M ops Q ({ dst:=none,op:=.store t x y,type:=ty,pos:=pos,after:=af,guard:=none }::rest) l H:=
 IL λa w ha hw=>by
  have hb:w.heap[b]? =some (.cells cs e (0,0)):=hw.ent hi;have hlt':off<cs.size:=by simpa using hlt
  have h1:=run_storeCells_at P b off e [v] 0 cs w hb (by simp;omega) (by simpa using hv);have hcv:v.cells = #[v]:=by cases v<;>first | rfl | simp[Value.oneCell'] at hv
  have h2:(cs.toList.take off++[v]++cs.toList.drop (off+1)).toArray=cs':=by
   subst hcs;apply Array.ext';simp[Array.toList_setIfInBounds,List.set_eq_take_append_cons_drop,hlt']
  simp only[Nat.add_zero,Qt,QS,QC] at h1;rw[h2] at h1;refine⟨w.setRow b cs',H',?_,?_,h⟩
  ·simp[execOp,ha.eval hx,ha.eval hy,Instr.storeAt,Instr.sureAddr,storeVar,hag,hcv,h1]
  ·subst hH;exact hw.setBlk hi
theorem BA {i b off sz:Nat}{cs:Array Value}{r r':List Value}(hsz:∀w,(sizeOf t).run P w = .ok sz w)(hx:ev l x=some (.pointer (some ⟨b,off,none⟩)))(hy:ev l y=some (.agg r.toArray))
  (hl:r.length=sz) (hv:r.all (·.oneCell')=true) (hi:H[i]? =some (.blk b (.cells cs e (0,0)))) (hlt:off+sz≤cs.size)
  (hcs:cs.toList.take off++r++cs.toList.drop (off+sz)=r') (hH:H.set i (.blk b (.cells r'.toArray e (0,0)))=H')
  (h:WL P n w0 M ops Q rest l H'):WL P n w0 M ops Q ({ dst:=none,op:=.store t x y,type:=ty,pos:=pos,after:=af,guard:=none }::rest) l H:=
 IL λa w ha hw=>by
  have hb:w.heap[b]? =some (.cells cs e (0,0)):=hw.ent hi;have h1:=run_storeCells_at P b off e r 0 cs w hb (by omega) (by simpa[Q0] using hv);simp only[Nat.add_zero,hl,hcs] at h1;refine⟨w.setRow b r'.toArray,H',?_,?_,h⟩
  ·simp[execOp,ha.eval hx,ha.eval hy,Instr.storeAt,Instr.sureAddr,storeVar,hsz,Value.cells,hl,h1]
  ·subst hH;exact hw.setBlk hi
theorem B2 {p:Addr}{dd:Option Nat}(hx:ev l x=some (.pointer (some p))):AS P n w0 M l H { dst:=dd,op:=.nilCheck x,type:=ty,pos:=pos,after:=af,guard:=g } (.pointer (some p)):=λa w ha hw=>by
 simp[execOp,ha.eval hx]
theorem Af {b off off' i sz:Nat}{fs:Array Field}{f:Field}{dd:Option Nat}(hu:P.underlying t=some (.struct fs))(hf:fs[i]? =some f)(hsz:∀w,(sizeOf f.type).run P w = .ok (sz+1) w)
  (hx:ev l x=some (.pointer (some ⟨b,off,none⟩))) (ho:off+f.offset=off'):AS P n w0 M l H { dst:=dd,op:=.fieldAddr t x i,type:=ty,pos:=pos,after:=af,guard:=g } (.pointer (some ⟨b,off',none⟩)):=λa w ha hw=>by
 subst ho;simp[execOp,ha.eval hx,Instr.fieldAt,run_underlying hu,hf,Instr.sureAddr,fieldPlace,hsz,E0]
end
def Ha:Nat→List Value→Fr
 | _,[]=>[]
 | i,v::r=>(i,v)::Ha (i+1) r
theorem Dy:∀(args:List Value) (k i:Nat) (v:Value),look (Ha k args) i=some v→k≤i∧args[i-k]? =some v
 | [],k,i,v,h=>by simp[Ha,look] at h
 | u::r,k,i,v,h=>by
  rw[Ha,Bz] at h
  split at h
  ·rename_i e;subst e;simp at h;subst h;simp
  ·rename_i e
   have:=Dy r (k+1) i v h;refine⟨by omega,?_⟩;rw[show i-k=(i-(k+1))+1 from by omega];simpa using this.2
section
variable {P : Program} {n : Nat} {w0 w : World} {M : List Nat} {ops : Array Oper} {Q : Exit → Act → World → Prop} {rest : List Oper} {l l' : Fr} {H H' : List Ent} {d : Nat} {ty t : TypeId} {pos : String} {af : Array Edge} {v u : Value}
theorem Pc {f:FuncId}{fn:Func}{c:Code}{args:List Value}{R:Ending→World→Prop}(hf:P.funcs[f]? =some fn)(hb:fn.body=some c)(hn:fn.ntmps=n)(hle:Nat.ble args.length n=true)
  (hw:St w0 M H w) (h:WC P n w0 M c (bodyPost P fn R) (Ha 0 args) H):Calls P f args.toArray w R:=by
 have hle':args.length≤n:=by simpa using hle
 refine calls_of_wp hf hb (h _ w ⟨?_,rfl,λi v hi=>?_⟩ hw)
 ·simp[hn];omega
 ·have:=(Dy args 0 i v hi).2;simp only[Nat.sub_zero] at this;have hlt:i<args.length:=(List.getElem?_eq_some_iff.1 this).1;rw[Array.getElem?_append_left (by simpa using hlt)];simpa using this
theorem GM {f:FuncId}{fn:Func}{c:Code}{args:List Value}{R:Ending→World→Prop}(hf:P.funcs[f]? =some fn)(hb:fn.body=some c)(hn:fn.ntmps=n)(hle:Nat.ble args.length n=true)
  (h:WC P n w [] c (bodyPost P fn R) (Ha 0 args) []):Calls P f args.toArray w R:=Pc hf hb hn hle (St.refl w []) h
theorem A3 {fn:Func}{R:Ending→World→Prop}(hr:∀a w,BI n l a→St w0 M H w→(results fn a.tmps).run P w = .ok v w)(h:∀w,St w0 M H w→R (.returned v) w):WK n w0 M (bodyPost P fn R .ret) l H:=
 λa w ha hw=>⟨ha.defers,v,hr a w ha hw,h w hw⟩
theorem DH {a:Act}(ha:BI n l a){i:Nat}(h:look l i=some v):a.tmps[i]?.getD undef=v:=by
 rw[ha.tm i v h];rfl
theorem BF {fn:Func}{i:Nat}(hr:fn.results = #[.tmp i])(h:look l i=some v):∀a w,BI n l a→St w0 M H w→(results fn a.tmps).run P w = .ok v w:=λa w ha hw=>by
 have e:=DH ha h;simp[results,hr,e]
theorem PM {fn:Func}{i j:Nat}(hr:fn.results = #[.tmp i,.tmp j])(h:look l i=some v)(h2:look l j=some u):∀a w,BI n l a→St w0 M H w→(results fn a.tmps).run P w = .ok (.tuple #[v,u]) w:=λa w ha hw=>by
 have e:=DH ha h;have e2:=DH ha h2;simp[results,hr,e,e2]
theorem Pi {fn:Func}{i j k:Nat}{u':Value}(hr:fn.results = #[.tmp i,.tmp j,.tmp k])(h:look l i=some v)(h2:look l j=some u)(h3:look l k=some u'):∀a w,BI n l a→St w0 M H w→(results fn a.tmps).run P w = .ok (.tuple #[v,u,u']) w:=λa w ha hw=>by
 have e:=DH ha h;have e2:=DH ha h2;have e3:=DH ha h3;simp[results,hr,e,e2,e3]
theorem J1 (e:v=u):∀w,St w0 [] H w→It w0 u (.returned v) w:=λw hw=>⟨by rw[e],hw.sub (List.nil_sublist _)⟩
theorem DU {f:FuncId}{args:Array Operand}{ats:Array TypeId}{o:Oper}{a:Act}{vs:List Value}(ho:o.op = .call { callee:=.value (.func f),args:=args,argTypes:=ats })
  (hcall:∀(as1:Array Value) (w:World),(callFunc f as1).run P w = .ok (.enter f as1) w) (hv:(args.map a.eval)=vs.toArray) (w:World):(execOp a.eval o).run P w = .ok (.enter f vs.toArray) w:=by
 simp[execOp,ho,resolve,Act.eval,Deferred.ofValue,invoke,hv,hcall]
def Jc (l:Fr):List Operand→Option (List Value)
 | []=>some []
 | x::r=>match ev l x,Jc l r with
  | some v,some vs=>some (v::vs)
  | _,_=>none
theorem Le {a:Act}(ha:BI n l a):∀{xs:List Operand} {vs:List Value},Jc l xs=some vs→xs.map a.eval=vs
 | [],vs,h=>by simp[Jc] at h;subst h;rfl
 | x::r,vs,h=>by
  simp only[Jc] at h
  split at h
  ·rename_i v vs' h1 h2
   simp at h;subst h;simp[ha.eval h1,Le ha h2]
  ·cases h
theorem Db {f:FuncId}{args:List Operand}{ats:Array TypeId}{vs:List Value}(hcall:∀(as1:Array Value) (w:World),(callFunc f as1).run P w = .ok (.enter f as1) w)(hv:Jc l args=some vs)
  (hc:∀w,St w0 M H w→Calls P f vs.toArray w (It w u)) (hn:Nat.blt d n=true) (h:WL P n w0 M ops Q rest ((d,u)::l) H) :
  WL P n w0 M ops Q ({ dst:=some d,op:=.call { callee:=.value (.func f),args:=args.toArray,argTypes:=ats },type:=ty,pos:=pos,after:=af,guard:=none }::rest) l H:=
 Hi (λa w ha hw=>DU rfl hcall (by simp[Le ha hv]) w) (λw hw=>(hc w hw).mono λe w' ⟨he,hs⟩=>⟨u,H,he,by simpa using hw.call0 hs,h⟩) hn
end
theorem O2 (p:List UInt8)(i:Nat)(u:UInt8)(h:p[i]? =some u):(B p).get! i=u:=by
 have h':i<p.length:=(List.getElem?_eq_some_iff.1 h).1;have h2:p[i]=u:=(List.getElem?_eq_some_iff.1 h).2;subst h2;show(B p).data[i]! =_;simp[B,getElem!_pos,h']
theorem IC (p:List UInt8)(i:Nat)(u:UInt8)(h:p[i]? =some u)(hu:u.toNat<128):Utf8.decode (B p) i=(u.toNat,1):=by
 have e:=O2 p i u h;simp[Utf8.decode,e,hu]
theorem ID (p:List UInt8)(i:Nat)(u:UInt8)(h:p[i]? =some u)(hu:128≤u.toNat):128≤(Utf8.decode (B p) i).1∧1≤(Utf8.decode (B p) i).2:=by
 have e:=O2 p i u h;simp only[Utf8.decode,Nat.add_zero,e];rw[QR (by omega)]
 split
 ·split
  ·exact⟨by assumption,by simp⟩
  ·exact⟨by decide,by decide⟩
 ·split
  ·split
   ·rename_i h1;simp at h1;exact⟨by have:=h1.1;simp only;omega,by simp⟩
   ·exact⟨by decide,by decide⟩
  ·split
   ·split
    ·rename_i h1;simp at h1;exact⟨by have:=h1.1;simp only;omega,by simp⟩
    ·exact⟨by decide,by decide⟩
   ·exact⟨by decide,by decide⟩
section
variable {P : Program} {n : Nat} {w0 : World} {M : List Nat} {ops : Array Oper} {Q : Exit → Act → World → Prop} {rest : List Oper} {l : Fr} {H H' : List Ent} {d : Nat} {x y c : Operand} {ty t t' e : TypeId} {pos : String} {af : Array Edge} {g : Option (Nat × Bool)} {v u : Value}
theorem Iv {p:List UInt8}(hu:P.underlying t=some .string)(hx:ev l x=some (.string (B p)))(hn:Nat.blt d n=true)
  (h:∀b,WL P n w0 M ops Q rest ((d,.pointer (some ⟨b,0,none⟩))::l) (.blk b (.stringIter (B p) 0)::H)) :
  WL P n w0 M ops Q ({ dst:=some d,op:=.range t x,type:=ty,pos:=pos,after:=af,guard:=none }::rest) l H:=
 EQ (λa w ha hw=>⟨_,w.alloc (.stringIter (B p) 0),_,by simp[execOp,ha.eval hx,Instr.range,run_underlying hu],hw.alloc _,h w.heap.size⟩) hn
theorem St.setObj {w:World}(h:St w0 M H w){i b:Nat}{o o':Obj}(hi:H[i]? =some (.blk b o)):St w0 M (H.set i (.blk b o')) { w with heap:=w.heap.setIfInBounds b o' }:=by
 have hb:w.heap[b]? =some o:=h.ent hi;have hlt:b<w.heap.size:=(Array.getElem?_eq_some_iff.1 hb).1;refine h.set hi rfl rfl rfl (by simp) (λk _ hk=>?_) ?_ (by simp[Ent.foot])
 ·simp only[Ent.foot,Q1] at hk;simp only[Array.getElem?_setIfInBounds];rw[QR (λe=>hk e.symm)]
 ·show(w.heap.setIfInBounds b o')[b]? =some o';simp[hlt]
theorem Jr {p:List UInt8}{i b k:Nat}(hx:ev l x=some (.pointer (some ⟨b,0,none⟩)))(hi:H[i]? =some (.blk b (.stringIter (B p) k)))(hn:Nat.blt d n=true)
  (hend:p.length≤k→WL P n w0 M ops Q rest ((d,.tuple #[.bool false])::l) H)
  (hgo:∀(u:UInt8) (c wd:Nat),p[k]? =some u→(u.toNat<128→c=u.toNat∧wd=1)→(128≤u.toNat→128≤c)→1≤wd→
   WL P n w0 M ops Q rest ((d,.tuple #[.bool true,.int .i64 k,.int .i32 c])::l) (H.set i (.blk b (.stringIter (B p) (k+wd))))) :
  WL P n w0 M ops Q ({ dst:=some d,op:=.next x true,type:=ty,pos:=pos,after:=af,guard:=none }::rest) l H:=
 EQ (λa w ha hw=>by
  have hb:w.heap[b]? =some (.stringIter (B p) k):=hw.ent hi
  by_cases hlt:k<p.length
  ·have hu:p[k]? =some p[k]:=Qk hlt;have hs:k<(B p).size:=by rw[GR];exact hlt
   refine⟨_,{ w with heap:=w.heap.setIfInBounds b (.stringIter (B p) (k+(Utf8.decode (B p) k).2)) },_,?_,hw.setObj hi,hgo p[k] (Utf8.decode (B p) k).1 (Utf8.decode (B p) k).2 hu ?_ ?_ ?_⟩
   ·simp[execOp,ha.eval hx,Instr.next,getObj,setObj,Sem.run,hb,hs,goInt]
   ·intro h;rw[IC p k _ hu h];exact⟨rfl,rfl⟩
   ·intro h;exact(ID p k _ hu h).1
   ·rcases Nat.lt_or_ge (p[k]).toNat 128 with h | h
    ·rw[IC p k _ hu h];exact Qx 1
    ·exact(ID p k _ hu h).2
  ·have hs : ¬ k<(B p).size:=by rw[GR];exact hlt
   exact⟨_,w,H,by simp[execOp,ha.eval hx,Instr.next,getObj,Sem.run,hb,hs],hw,hend (by omega)⟩) hn
end
def BV (c:Int):Bool:=decide (97≤c)&&decide (c≤122)
def C5 (c:Int):Bool:=decide (48≤c)&&decide (c≤57)
def CK (c:Int):Bool:=BV c||C5 c||(decide (65≤c)&&decide (c≤90))||decide (c=45)||decide (c=95)||decide (c=46)||decide (c=58)||decide (c=47)
def Kd (p:List UInt8)(i:Int):Int:=((p[i.toNat]?).getD 0).toNat
def Ba (f:Nat→UInt8→Bool):Nat→List UInt8→Bool
 | _,[]=>true
 | i,u::r=>f i u&&Ba f (i+1) r
def C3 (i:Nat)(u:UInt8):Bool:=BV u.toNat||(!decide (i=0)&&(C5 u.toNat||decide ((u.toNat:Int)=45)||decide ((u.toNat:Int)=95)))
def Hf (_:Nat)(u:UInt8):Bool:=CK u.toNat
def C7 (p:List UInt8):Bool:=Ba C3 0 p&&decide (1≤p.length)&&decide (p.length≤24)
def Nf (p:List UInt8):Bool:=Ba Hf 0 p&&decide (1≤p.length)&&decide (p.length≤64)
theorem IB {p:List UInt8}{k:Nat}{u:UInt8}(h:p[k]? =some u):p.drop k=u::p.drop (k+1):=by
 obtain⟨h1,h2⟩:=List.getElem?_eq_some_iff.1 h;rw[List.drop_eq_getElem_cons h1,h2]
theorem M6 {f:Nat→UInt8→Bool}{p:List UInt8}{k:Nat}{u:UInt8}(hi:k≤p.length∧Ba f 0 p=Ba f k (p.drop k))(h:p[k]? =some u)(ht:f k u=false):Ba f 0 p=false:=by
 rw[hi.2,IB h];simp[Ba,ht]
theorem J0 {f:Nat→UInt8→Bool}{p:List UInt8}{k:Nat}{u:UInt8}(hi:k≤p.length∧Ba f 0 p=Ba f k (p.drop k))(h:p[k]? =some u)(ht:f k u=true) :
  (k+1≤p.length∧Ba f 0 p=Ba f (k+1) (p.drop (k+1)))∧p.length-(k+1)<p.length-k:=by
 have hk:k<p.length:=(List.getElem?_eq_some_iff.1 h).1;refine⟨⟨hk,?_⟩,by omega⟩;rw[hi.2,IB h];simp[Ba,ht]
theorem KL {f:Nat→UInt8→Bool}{p:List UInt8}{k:Nat}(hi:k≤p.length∧Ba f 0 p=Ba f k (p.drop k))(h:p.length≤k):Ba f 0 p=true:=by
 rw[hi.2,List.drop_of_length_le h];rfl
def HS (k c:Nat):Bool:=!(BV c)&&(decide ((k:Int)=0)||(!(C5 c)&&(!(decide ((c:Int)=45))&&!(decide ((c:Int)=95)))))
theorem I5 {k:Nat}{u:UInt8}{c wd:Nat}(hl:u.toNat<128→c=u.toNat∧wd=1)(hh:128≤u.toNat→128≤c):HS k c = !C3 k u:=by
 rcases Nat.lt_or_ge u.toNat 128 with h | h
 ·rw[(hl h).1];have e:decide ((k:Int)=0)=decide (k=0):=by simp
  simp only[HS,C3,e]
  cases BV u.toNat<;>cases decide (k=0)<;>cases C5 u.toNat<;>simp
 ·have h2:=hh h;have e:∀m:Nat,128≤m→HS k m=true:=λm hm=>by
   simp[HS,BV,C5];omega
  have e2:C3 k u=false:=by simp[C3,BV,C5];omega
  rw[e c h2,e2];rfl
theorem L5 {p:List UInt8}{k:Nat}{u:UInt8}{c wd:Nat}(hi:k≤p.length∧Ba C3 0 p=Ba C3 k (p.drop k))(h:p[k]? =some u)(hl:u.toNat<128→c=u.toNat∧wd=1)(hh:128≤u.toNat→128≤c)
  (ht:HS k c=false):(k+wd≤p.length∧Ba C3 0 p=Ba C3 (k+wd) (p.drop (k+wd)))∧p.length-(k+wd)<p.length-k:=by
 rcases Nat.lt_or_ge u.toNat 128 with hu | hu
 ·rw[(hl hu).2];rw[I5 hl hh] at ht;exact J0 hi h (by simpa using ht)
 ·have h2:=hh hu;simp[HS,BV,C5] at ht;omega
theorem NU {p:List UInt8}{k:Nat}{u:UInt8}{c wd:Nat}(hi:k≤p.length∧Ba C3 0 p=Ba C3 k (p.drop k))(h:p[k]? =some u)(hl:u.toNat<128→c=u.toNat∧wd=1)(hh:128≤u.toNat→128≤c)
  (ht:HS k c=true):C7 p=false:=by
 rw[I5 hl hh] at ht;simp[C7,M6 hi h (by simpa using ht)]
theorem MN {p:List UInt8}{k:Nat}(hi:k≤p.length∧Ba C3 0 p=Ba C3 k (p.drop k))(h:p.length≤k):C7 p=((decide ((1:Int)≤p.length))&&(decide ((p.length:Int)≤24))):=by
 simp[C7,KL hi h];grind
theorem Lb {k:Nat}{u:UInt8}{c wd:Nat}(hl:u.toNat<128→c=u.toNat∧wd=1)(hh:128≤u.toNat→128≤c):CK c=Hf k u:=by
 rcases Nat.lt_or_ge u.toNat 128 with h | h
 ·rw[(hl h).1];rfl
 ·have h2:=hh h;have e:∀m:Nat,128≤m→CK m=false:=λm hm=>by
   simp[CK,BV,C5];omega
  rw[e c h2];exact(e _ h).symm
theorem Oc {p:List UInt8}{k:Nat}{u:UInt8}{c wd:Nat}(hi:k≤p.length∧Ba Hf 0 p=Ba Hf k (p.drop k))(h:p[k]? =some u)(hl:u.toNat<128→c=u.toNat∧wd=1)(hh:128≤u.toNat→128≤c)
  (ht:(!CK c)=false):(k+wd≤p.length∧Ba Hf 0 p=Ba Hf (k+wd) (p.drop (k+wd)))∧p.length-(k+wd)<p.length-k:=by
 have ht':CK c=true:=by simpa using ht
 rcases Nat.lt_or_ge u.toNat 128 with hu | hu
 ·rw[(hl hu).2];rw[Lb (k:=k) hl hh] at ht';exact J0 hi h ht'
 ·have h2:=hh hu;simp[CK,BV,C5] at ht';omega
theorem P3 {p:List UInt8}{k:Nat}{u:UInt8}{c wd:Nat}(hi:k≤p.length∧Ba Hf 0 p=Ba Hf k (p.drop k))(h:p[k]? =some u)(hl:u.toNat<128→c=u.toNat∧wd=1)(hh:128≤u.toNat→128≤c)
  (ht:(!CK c)=true):Nf p=false:=by
 rw[Lb (k:=k) hl hh] at ht;simp[Nf,M6 hi h (by simpa using ht)]
theorem OX {p:List UInt8}{k:Nat}(hi:k≤p.length∧Ba Hf 0 p=Ba Hf k (p.drop k))(h:p.length≤k):Nf p=((decide ((1:Int)≤p.length))&&(decide ((p.length:Int)≤64))):=by
 simp[Nf,KL hi h];grind
section
variable {P : Program} {n : Nat} {w0 : World} {M : List Nat} {ops : Array Oper} {Q : Exit → Act → World → Prop} {rest : List Oper} {l : Fr} {H H' : List Ent} {x y c : Operand} {ty t t' e : TypeId} {pos : String} {af : Array Edge} {g : Option (Nat × Bool)} {v u : Value}
theorem GD {d:Option Nat}{p:List UInt8}{k:IntKind}{i:Int}(ht:P.underlying t=some .string)(h:ev l x=some (.string (B p)))(hi:ev l y=some (.int k i))(h0:0≤i)(h1:i<p.length) :
  AS P n w0 M l H { dst:=d,op:=.index t x y,type:=ty,pos:=pos,after:=af,guard:=g } (.int .u8 (Kd p i)):=by
 have hl:i.toNat<p.length:=by omega
 have hc:p[i.toNat]? =some p[i.toNat]:=Qk hl;have e:Kd p i=p[i.toNat].toNat:=by simp[Kd,hc]
 rw[e];exact L4 ht h hi h0 hc
variable (P n w0 M) in
def WQ (opsA:Array Oper)(K:Act→World→Prop)(rest:List Oper)(l:Fr)(H:List Ent):Prop:=∀a,BI n l a→wpQuiet P opsA (St w0 M H) (λa'=>∀w',St w0 M H w'→K a' w') rest a
variable {K : Act → World → Prop}
end
end Go.Proofs.YtkoiaconljdbeaaDoor
namespace Go.Proofs
open Go.Shelf
def Tryd.laysM171_ren:Go.Shelf.Ren:=⟨fun | 171=>77 | 243=>79 | 246=>84 | 283=>87 | 284=>88 | 285=>89 | 286=>90 | 129=>55 | 317=>91 | 318=>92 | 319=>93 | 320=>94 | 337=>95 | 338=>96 | n=>n,fun | 3=>3 | 9=>9 | 2=>2 | 4=>4 | 171=>121 | 0=>0 | 53=>92 | 37=>123 | 5=>5 | 173=>124 | 212=>127 | 51=>90 | 20=>20 | 213=>128 | 46=>76 | 232=>129 | 233=>130 | n=>n,fun | 17=>1 | 18=>2 | 19=>3 | n=>n⟩
theorem Tryd.laysM171:Go.Proofs.LaysM.n171 Tryd.prog Tryd.laysM171_ren:={
 mixed:=by kernel_rfl
 f129:=Tryd.func55.trans (congrArg some (by kernel_rfl))
 f171:=Tryd.func77.trans (congrArg some (by kernel_rfl))
 f243:=Tryd.func79.trans (congrArg some (by kernel_rfl))
 f246:=Tryd.func84.trans (congrArg some (by kernel_rfl))
 f283:=Tryd.func87.trans (congrArg some (by kernel_rfl))
 f284:=Tryd.func88.trans (congrArg some (by kernel_rfl))
 f285:=Tryd.func89.trans (congrArg some (by kernel_rfl))
 f286:=Tryd.func90.trans (congrArg some (by kernel_rfl))
 f317:=Tryd.func91.trans (congrArg some (by kernel_rfl))
 f318:=Tryd.func92.trans (congrArg some (by kernel_rfl))
 f319:=Tryd.func93.trans (congrArg some (by kernel_rfl))
 f320:=Tryd.func94.trans (congrArg some (by kernel_rfl))
 f337:=Tryd.func95.trans (congrArg some (by kernel_rfl))
 f338:=Tryd.func96.trans (congrArg some (by kernel_rfl))
 t0:=Tryd.underlying0
 a0:=Tryd.isAgg0
 z0:=Tryd.sizeOf0
 v0:=Tryd.zeroValue0
 t2:=Tryd.underlying2
 a2:=Tryd.isAgg2
 z2:=Tryd.sizeOf2
 v2:=Tryd.zeroValue2
 t3:=Tryd.underlying3
 a3:=Tryd.isAgg3
 z3:=Tryd.sizeOf3
 v3:=Tryd.zeroValue3
 t4:=Tryd.underlying4
 a4:=Tryd.isAgg4
 z4:=Tryd.sizeOf4
 v4:=Tryd.zeroValue4
 t5:=Tryd.underlying5
 a5:=Tryd.isAgg5
 z5:=Tryd.sizeOf5
 v5:=Tryd.zeroValue5
 t9:=Tryd.underlying9
 a9:=Tryd.isAgg9
 z9:=Tryd.sizeOf9
 v9:=Tryd.zeroValue9
 t20:=Tryd.underlying20
 a20:=Tryd.isAgg20
 z20:=Tryd.sizeOf20
 v20:=Tryd.zeroValue20
 t37:=Tryd.underlying123
 a37:=Tryd.isAgg123
 z37:=Tryd.sizeOf123
 v37:=Tryd.zeroValue123
 t46:=Tryd.underlying76
 a46:=Tryd.isAgg76
 z46:=Tryd.sizeOf76
 v46:=Tryd.zeroValue76
 t51:=Tryd.underlying90
 a51:=Tryd.isAgg90
 z51:=Tryd.sizeOf90
 v51:=Tryd.zeroValue90
 t53:=Tryd.underlying92
 a53:=Tryd.isAgg92
 z53:=Tryd.sizeOf92
 v53:=Tryd.zeroValue92
 t171:=Tryd.underlying121
 a171:=Tryd.isAgg121
 z171:=Tryd.sizeOf121
 v171:=Tryd.zeroValue121
 t173:=Tryd.underlying124
 a173:=Tryd.isAgg124
 z173:=Tryd.sizeOf124
 v173:=Tryd.zeroValue124
 t212:=Tryd.underlying127
 a212:=Tryd.isAgg127
 z212:=Tryd.sizeOf127
 v212:=Tryd.zeroValue127
 t213:=Tryd.underlying128
 a213:=Tryd.isAgg128
 z213:=Tryd.sizeOf128
 t232:=Tryd.underlying129
 a232:=Tryd.isAgg129
 z232:=Tryd.sizeOf129
 v232:=Tryd.zeroValue129
 t233:=Tryd.underlying130
 a233:=Tryd.isAgg130
 z233:=Tryd.sizeOf130
 v233:=Tryd.zeroValue130
 g17:=by kernel_rfl
 g18:=by kernel_rfl
 g19:=by kernel_rfl
 i0:=by kernel_rfl
 i2:=by kernel_rfl
 i3:=by kernel_rfl
 i4:=by kernel_rfl
 i5:=by kernel_rfl
 i9:=by kernel_rfl
 i20:=by kernel_rfl
 i37:=by kernel_rfl
 i46:=by kernel_rfl
 i51:=by kernel_rfl
 i53:=by kernel_rfl
 i171:=by kernel_rfl
 i173:=by kernel_rfl
 i212:=by kernel_rfl
 i232:=by kernel_rfl
 i233:=by kernel_rfl
 m17:=by kernel_rfl
 m18:=by kernel_rfl
 m19:=by kernel_rfl }
open Go.RowKit Go.Sort Go.Lib in
theorem Tryd.strconv_Itoa (n : Int) (h0 : -9223372036854775808 ≤ n) (h1 : n ≤ 9223372036854775807) (w : World) (htab : Lib.TabIs Tryd.prog w "internal/strconv.uint64pow10" .u64 Lib.pow10Tab) :
  Calls Tryd.prog 77 #[.int .i64 n] w λe w'=>e = .returned (.string ⟨(Lib.itoa n).toArray⟩)∧∃k os,w'=grow (w.drewN k) os:=Any.strconv_Itoa Tryd.laysM171 n h0 h1 w htab
end Go.Proofs
namespace Go.Proofs.YtkoiaconljdbeaaDoor
open Go Go.RowKit
set_option linter.unusedVariables false
noncomputable def GW:Nat:=1+1
structure Ji (w:World):Prop where
 pow : Lib.TabIs Tryd.prog w "internal/strconv.uint64pow10" .u64 Lib.pow10Tab
theorem OY : Tryd.prog.globalNamed "internal/strconv.uint64pow10" = some 1 := by kernel_rfl
theorem L6:1<GW:=by decide +kernel
theorem Ji.block (w w':World)(h:∀k,k<GW→w'.heap[k]? =w.heap[k]?)(hT:Ji w):Ji w':=by
 have hp:=hT.pow;unfold Lib.TabIs at hp;refine⟨?_⟩;unfold Lib.TabIs;unfold World.var? at hp ⊢;rw[OY] at hp ⊢;simp only[Option.bind_some] at hp ⊢;rw[h _ L6];exact hp
def Ns (w:World)(M:List Nat):Prop:=GW≤w.heap.size∧∀k∈M,GW≤k
theorem Ji.st {w0 w:World}{M:List Nat}{H:List Ent}(hT:Ji w0)(hG:Ns w0 M)(hw:St w0 M H w):Ji w:=
 Ji.block w0 w (λk hk=>hw.old k (Nat.lt_of_lt_of_le hk hG.1) (λhm=>by have:=hG.2 k hm;omega)) hT
theorem Ns.nil {w:World}(h:GW≤w.heap.size):Ns w []:=⟨h,by simp⟩
theorem Ns.st {w0 w:World}{M:List Nat}{H:List Ent}(hG:Ns w0 M)(hw:St w0 M H w):GW≤w.heap.size:=Nat.le_trans hG.1 hw.size
structure Md (w:World):Prop where
 tabs:Ji w
 size:GW≤w.heap.size
theorem Md.st {w0 w:World}{M:List Nat}{H:List Ent}(hE:Md w0)(hM:∀k∈M,GW≤k)(hw:St w0 M H w):Md w:=
 ⟨hE.tabs.st ⟨hE.size,hM⟩ hw,Nat.le_trans hE.size hw.size⟩
theorem Md.st0 {w0 w:World}{H:List Ent}(hE:Md w0)(hw:St w0 [] H w):Md w:=hE.st (by simp) hw
theorem Pg (p:List UInt8):(B p).data.toList=p:=by simp[B]
theorem OS (m:Int)(h0 : -9223372036854775808≤m)(h1:m≤9223372036854775807)(w:World)(hE:Md w):Calls Tryd.prog 77 [.int .i64 m].toArray w (It w (.string (B (Lib.itoa m)))):=
 (Tryd.strconv_Itoa m h0 h1 w hE.tabs.pow).mono λe w' ⟨he,k,os,hw⟩=>⟨he,by rw[hw];exact St.of_below (Lib.below_grow _ _ (Qx _) _ _)⟩
open Go Go.ChangeShapes Go.WideShapes Go.ChangeAt Go.RowKit Go.WideElems
theorem own:ownKnob Tryd.prog.godebug=none:=by kernel_rfl
theorem NX:laidOutB Tryd.prog=true:=by kernel_rfl
section
variable {H : Type} {enc : TypeId × Value → H} {P : Program}
theorem EI (hl:laidOutB P=true){W W':World}(hb:Below W.heap.size W W'){sp:Nat→Bool}:∀{ts:List TypeId} {vs:List Value} {ds:List (DataW H)} {ps:List MemPlace},ts.all (λt=>P.readableRec t&&decide (t<P.types.size))=true→
  DataW.TrodAll enc P W 0 (λ_=>true) true ts vs ds ps→(∀p∈ps,p.block<W.heap.size)→(∀p∈ps,sp p.block=true)→DataW.TrodAll enc P W' 0 sp true ts vs ds ps
 | [],[],[],_,_,h,_,_=>h
 | [],_::_,_,_,_,h,_,_=>h.elim
 | [],[],_::_,_,_,h,_,_=>h.elim
 | _::_,[],_,_,_,h,_,_=>h.elim
 | _::_,_::_,[],_,_,h,_,_=>h.elim
 | t::ts,v::vs,d::ds,ps,ht,⟨p,q,h1,h2,e⟩,hlt,hs=>by
  simp only[List.all_cons,Qm,Qh] at ht;refine⟨p,q,?_,EI hl hb ht.2 h2 (λx hx=>hlt x (by rw[e];exact List.mem_append_right _ hx)) (λx hx=>hs x (by rw[e];exact List.mem_append_right _ hx)),e⟩;exact Trod_stays hl ht.1.1 ht.1.2 h1 (λx hx=>hb.same (hlt x (by rw[e];exact List.mem_append_left _ hx))) (λx hx=>hs x (by rw[e];exact List.mem_append_left _ hx))
theorem Ly (hl:laidOutB P=true){f:Func}{s:ChangeSpec}{apart fresh handsOn:Bool}{W W':World}{args:Array Value}{ds gs:List (DataW H)}{before:List MemPlace}{tb:TypeId}(hp:f.params.toList.all (λt=>P.readableRec t&&decide (t<P.types.size))=true)
  (hv:s.vars=[]) (hr:f.resultTypes = #[tb]) (hb4:P.underlying tb=some .bool) (hW:DataW.Whole enc P f.params.toList s.vars apart W args.toList ds gs before)
  (h1:(s.fn H (ds++gs)).results=[.lit (.bool true)]) (h2:(s.fn H (ds++gs)).args=ds) (h3:(s.fn H (ds++gs)).vars=[]) (hb:Below W.heap.size W W') :
  s.post enc P f apart fresh handsOn false W args (.bool true) W':=by
 have hlt:∀p∈before,p.block<W.heap.size:=λp hp=>hW.lt p hp;have hW':=hW;obtain⟨p,q,hA,hV,hbf,_,_⟩:=hW';have hq:q=[]:=by
  rw[hv] at hV
  cases gs with
  | nil=>exact hV
  | cons _ _=>exact hV.elim
 subst hq;rw[List.append_nil] at hbf;subst hbf;refine⟨ds,gs,before,[],before,[],hW,?_,?_,?_,World.keptBut_mono (λp hp=>⟨hp,.inr (.inl hp)⟩) (hb.frame (·∈before)),λh=>by cases h⟩
 ·rw[h1,hr];exact trodAll_mk1 (shut_bool hb4 true)
 ·rw[h2];exact EI hl hb hp hA hlt (λx hx=>by simpa using hlt x hx)
 ·rw[hv,h3];exact rfl
end
theorem K7:Tryd.prog.underlying 4=some .bool:=Tryd.underlying4
def HV : List (String × DataW Unit) := [("math/bits.deBruijn32tab", Rows.laid_math_bits_deBruijn32tab), ("math/bits.deBruijn64tab", Rows.laid_math_bits_deBruijn64tab), ("internal/strconv.uint64pow10", Rows.laid_internal_strconv_uint64pow10)]
theorem Ng:(Tryd.prog.globals[1]?).map (·.type)=some 127:=by kernel_rfl
theorem LU:Tryd.prog.cellsOf 92=1:=by kernel_rfl
theorem LV:Tryd.prog.cellsOf 127=20:=by kernel_rfl
theorem Od {W:World}{n:String}{g:Nat}{cs:Array Value}(hg:Tryd.prog.globalNamed n=some g)(h:W.var? Tryd.prog n=some cs):g<W.heap.size:=by
 unfold World.var? at h;rw[hg] at h;simp only[Option.bind_some] at h
 cases hh:W.heap[g]? with
 | none=>rw[hh] at h;cases h
 | some o=>exact(Array.getElem?_eq_some_iff.1 hh).1
theorem Pb {W:World}(h:laidMet Tryd.prog HV W):Md W:=by
 have h3:=laidMet.tail (laidMet.tail h);have hp : Lib.TabIs Tryd.prog W "internal/strconv.uint64pow10" .u64 Lib.pow10Tab := Lib.tabIs_of_head OY Ng Tryd.underlying127 Tryd.underlying92 LU LV h3
 exact⟨⟨hp⟩,Od OY hp⟩
noncomputable def ED (os:Os):World:=
 let w0:=World.holding Tryd.prog os ⟨#[],#[],[]⟩
 let put (h:Array Obj) (g:Nat) (cs:Array Value):Array Obj:=h.modify g fun
  | .cells _ t frozen=>.cells cs t frozen
  | o=>o
 let nums (d:DataW Unit):Array Value:=match d with
  | .agg ds=>(ds.map fun | .lit (.int k n)=>Value.int k n | _=>undef).toArray
  | _=>#[]
 let h1:=put w0.heap 2 (nums Rows.laid_math_bits_deBruijn32tab)
 let h2:=put h1 3 (nums Rows.laid_math_bits_deBruijn64tab)
 let h3:=put h2 1 (nums Rows.laid_internal_strconv_uint64pow10)
 { w0 with heap:=h3 }
set_option maxRecDepth 100000 in
theorem Na (os:Os)(args:Array Value):laidMet Tryd.prog HV ((ED os).forCall (λ_ _=>0) ⟨#[],args,[]⟩).memory:=
 laidMet_of_run' 8 (by kernel_rfl) (by kernel_rfl)
end Go.Proofs.YtkoiaconljdbeaaDoor
namespace Go.Proofs.YtkoiaconljdbeaaDoor.Q
open Go Go.RowKit
set_option linter.unusedVariables false
abbrev Fz:=Nat→Option Obj
def Fz.le (Z Z':Fz):Prop:=∀b o,Z b=some o→Z' b=some o
theorem Fz.le.refl (Z:Fz):Fz.le Z Z:=λ_ _ h=>h
theorem Fz.le.trans {Z Z' Z'':Fz}(h:Fz.le Z Z')(h':Fz.le Z' Z''):Fz.le Z Z'':=λb o e=>h' b o (h b o e)
def Ny (Z:Fz)(w:World):Prop:=∀b o,Z b=some o→w.heap[b]? =some o
def DZ (Z:Fz)(b o:Nat):Option Value:=match Z b with
 | some (.cells cs _ _)=>cs[o]?
 | _=>none
theorem H0 {Z Z':Fz}(h:Fz.le Z Z'){b o:Nat}{v:Value}(e:DZ Z b o=some v):DZ Z' b o=some v:=by
 unfold DZ at *
 cases hz:Z b with
 | none=>simp[hz] at e
 | some ob=>rw[h b ob hz];simpa[hz] using e
theorem EP {Z:Fz}{w:World}(h:Ny Z w){b o:Nat}{v:Value}(e:DZ Z b o=some v):w.cell? ⟨b,o,none⟩=some v:=by
 unfold DZ at e
 cases hz:Z b with
 | none=>simp[hz] at e
 | some ob=>
  rw[hz] at e
  cases ob with
  | cells cs t fz=>rw[cell_of_row w b o cs t fz (h b _ hz)];exact e
  | _=>cases e
structure Rp where
 p:Fz→Value→Prop
 mono:∀{Z Z':Fz} {v:Value},Fz.le Z Z'→p Z v→p Z' v
 one:Bool
 hone:one=true→∀Z v,p Z v→v.oneCell'=true
def rv (x:Value):Rp:=⟨λ_ y=>y=x,λ_ h=>h,x.oneCell',λh _ _ e=>by rw[e];exact h⟩
abbrev rI (k:IntKind)(n:Int):Rp:=rv (.int k n)
abbrev rB (b:Bool):Rp:=rv (.bool b)
abbrev rS (s:List UInt8):Rp:=rv (.string (B s))
def AB (Z:Fz):List Rp→List Value→Prop
 | [],[]=>True
 | r::rs,v::vs=>r.p Z v∧AB Z rs vs
 | _,_=>False
theorem AB.mono {Z Z':Fz}(h:Fz.le Z Z'):∀{rs:List Rp} {vs:List Value},AB Z rs vs→AB Z' rs vs
 | [],[],_=>trivial
 | r::rs,v::vs,⟨h1,h2⟩=>⟨r.mono h h1,AB.mono h h2⟩
theorem AB.length {Z:Fz}:∀{rs:List Rp} {vs:List Value},AB Z rs vs→vs.length=rs.length
 | [],[],_=>rfl
 | r::rs,v::vs,⟨_,h2⟩=>by simp[AB.length h2]
theorem AB.at {Z:Fz}:∀{rs:List Rp} {vs:List Value},AB Z rs vs→∀{i:Nat} {r:Rp},rs[i]? =some r→∃v,vs[i]? =some v∧r.p Z v
 | [],[],_,i,r,h=>by simp at h
 | r::rs,v::vs,⟨h1,h2⟩,0,r',h=>by simp at h;subst h;exact⟨v,rfl,h1⟩
 | r::rs,v::vs,⟨h1,h2⟩,i+1,r',h=>by simpa using AB.at h2 (by simpa using h)
theorem AB.of {Z:Fz}:∀{rs:List Rp} {vs:List Value},vs.length=rs.length→(∀(i:Nat) r,rs[i]? =some r→∃v,vs[i]? =some v∧r.p Z v)→AB Z rs vs
 | [],[],_,_=>trivial
 | r::rs,v::vs,hl,h=>by
  refine⟨?_,AB.of (by simpa using hl) λi r' hi=>by simpa using h (i+1) r' (by simpa using hi)⟩;obtain⟨u,hu,hp⟩:=h 0 r rfl;simp at hu;subst hu;exact hp
 | [],_::_,hl,_=>by simp at hl
 | _::_,[],hl,_=>by simp at hl
theorem AB.append {Z:Fz}:∀{rs:List Rp} {vs:List Value} {rs':List Rp} {vs':List Value},AB Z rs vs→AB Z rs' vs'→AB Z (rs++rs') (vs++vs')
 | [],[],_,_,_,h=>h
 | r::rs,v::vs,_,_,⟨h1,h2⟩,h=>⟨h1,AB.append h2 h⟩
theorem AB.take {Z:Fz}:∀{rs:List Rp} {vs:List Value} (k:Nat),AB Z rs vs→AB Z (rs.take k) (vs.take k)
 | _,_,0,_=>by simp[AB]
 | [],[],k+1,_=>by simp[AB]
 | r::rs,v::vs,k+1,⟨h1,h2⟩=>⟨h1,AB.take k h2⟩
theorem AB.drop {Z:Fz}:∀{rs:List Rp} {vs:List Value} (k:Nat),AB Z rs vs→AB Z (rs.drop k) (vs.drop k)
 | _,_,0,h=>by simpa using h
 | [],[],k+1,_=>by simp[AB]
 | r::rs,v::vs,k+1,⟨h1,h2⟩=>by simpa using AB.drop k h2
theorem AB.set {Z:Fz}:∀{rs:List Rp} {vs:List Value} (k:Nat) {r:Rp} {v:Value},AB Z rs vs→r.p Z v→AB Z (rs.set k r) (vs.set k v)
 | [],[],k,_,_,h,_=>by simp[AB]
 | r::rs,v::vs,0,_,_,⟨h1,h2⟩,h=>⟨h,h2⟩
 | r::rs,v::vs,k+1,_,_,⟨h1,h2⟩,h=>⟨h1,AB.set k h2 h⟩
theorem AB.one {Z:Fz}:∀{rs:List Rp} {vs:List Value},rs.all (·.one)=true→AB Z rs vs→∀v∈vs,v.oneCell'=true
 | [],[],_,_,_,h=>by simp at h
 | r::rs,v::vs,ho,⟨h1,h2⟩,u,h=>by
  simp only[List.all_cons,Qm] at ho;rcases List.mem_cons.1 h with rfl | h
  ·exact r.hone ho.1 Z _ h1
  ·exact AB.one ho.2 h2 u h
theorem AB.eq_rv {Z:Fz}:∀{us vs:List Value},AB Z (us.map Q.rv) vs→vs=us
 | [],[],_=>rfl
 | u::us,v::vs,⟨h1,h2⟩=>by rw[show v=u from h1,AB.eq_rv h2]
def Bh (rs:List Rp):Rp:=⟨λZ v=>∃us:List Value,v = .agg us.toArray∧AB Z rs us,λh ⟨us,e,hu⟩=>⟨us,e,hu.mono h⟩,false,λh=>by cases h⟩
def EV (rs:List Rp):Rp:=⟨λZ v=>∃us:List Value,v = .tuple us.toArray∧AB Z rs us,λh ⟨us,e,hu⟩=>⟨us,e,hu.mono h⟩,false,λh=>by cases h⟩
def Ke (sz:Nat)(xs:List (List Rp))(Z:Fz)(v:Value):Prop:=
 ∃A cap,v = .slice A xs.length cap∧xs.length≤cap∧cap≤maxLen∧(A=none→cap=0)∧
  ∀i c,xs[i]? =some c→c.length=sz∧∃a:Addr,A=some a∧a.spot=none∧∀j r,c[j]? =some r→∃u,DZ Z a.block (a.off+(i*sz+j))=some u∧r.p Z u
theorem Ke.mono {sz:Nat}{xs:List (List Rp)}{Z Z':Fz}{v:Value}(h:Fz.le Z Z'):Ke sz xs Z v→Ke sz xs Z' v:=λ⟨A,cap,e,h1,h2,h3,h4⟩=>
 ⟨A,cap,e,h1,h2,h3,λi c hi=>by
  obtain⟨hl,a,ha,hs,hc⟩:=h4 i c hi;exact⟨hl,a,ha,hs,λj r hj=>by
   obtain⟨u,hu,hr⟩:=hc j r hj;exact⟨u,H0 h hu,r.mono h hr⟩⟩⟩
def AV (sz:Nat)(xs:List (List Rp)):Rp:=⟨Ke sz xs,Ke.mono,true,λ_ Z v ⟨A,cap,e,_⟩=>by rw[e];rfl⟩
theorem Ke.nil (sz:Nat)(Z:Fz):Ke sz [] Z (.slice none 0 0):=⟨none,0,rfl,Qx _,by simp[maxLen],λ_=>rfl,λi c h=>by simp at h⟩
def Kf (r r':Rp):Prop:=∀Z v,r.p Z v→r'.p Z v
theorem Kf.refl (r:Rp):Kf r r:=λ_ _ h=>h
theorem Kf.nil (sz:Nat):Kf (rv (.slice none 0 0)) (AV sz []):=λZ v h=>by rw[show v=_ from h];exact Ke.nil sz Z
abbrev Fr:=List (Nat×Rp)
def look:Fr→Nat→Option Rp
 | [],_=>none
 | p::l,i=>bif Nat.beq p.1 i then some p.2 else look l i
theorem Bz (j:Nat)(v:Rp)(l:Fr)(i:Nat):look ((j,v)::l) i=if j=i then some v else look l i:=by
 by_cases h:j=i
 ·subst h;simp[look]
 ·have:Nat.beq j i=false:=by
   cases hb:Nat.beq j i
   ·rfl
   ·exact absurd (Nat.eq_of_beq_eq_true hb) h
  simp[look,this,h]
structure BI (n:Nat) (l:Fr) (a:Act) (Z:Fz):Prop where
 size:a.tmps.size=n
 defers:a.defers=[]
 tm:∀i r,look l i=some r→∃v,a.tmps[i]? =some v∧r.p Z v
def ev:Fr→Operand→Option Rp
 | l,.tmp t=>look l t
 | _,.const v=>some (rv v)
 | _,.global g=>some (rv (.pointer (some ⟨g,0,none⟩)))
 | _,.func f=>some (rv (.func (.func f) #[] #[]))
section
variable {n : Nat} {l l' : Fr} {a : Act} {Z Z' : Fz}
theorem BI.ev (h:BI n l a Z){x:Operand}{r:Rp}(hx:Q.ev l x=some r):r.p Z (a.eval x):=by
 cases x with
 | tmp t=>obtain⟨v,hv,hp⟩:=h.tm t r hx;simpa[Act.eval,Array.getD_eq_getD_getElem?,hv] using hp
 | const u=>simp only[Q.ev,Option.some.injEq] at hx;subst hx;rfl
 | global g=>simp only[Q.ev,Option.some.injEq] at hx;subst hx;rfl
 | func f=>simp only[Q.ev,Option.some.injEq] at hx;subst hx;rfl
theorem BI.eval (h:BI n l a Z){x:Operand}{v:Value}(hx:Q.ev l x=some (rv v)):a.eval x=v:=h.ev hx
theorem BI.put (h:BI n l a Z){d:Nat}(hd:Nat.blt d n=true){r:Rp}{v:Value}(hv:r.p Z v):BI n ((d,r)::l) (a.put (some d) v) Z:=by
 have hd':d<n:=by simpa using hd
 refine⟨by simp[Act.put,h.size],by simp[Act.put,h.defers],λi u hi=>?_⟩;rw[Bz] at hi;simp only[Act.put,Array.getElem?_setIfInBounds]
 split at hi
 ·rename_i e;subst e;simp at hi;subst hi;exact⟨v,by simp[h.size,hd'],hv⟩
 ·rename_i e;rw[QR e];exact h.tm i u hi
theorem BI.put_none (h:BI n l a Z)(v:Value):BI n l (a.put none v) Z:=h
theorem BI.mono (h:BI n l a Z)(hz:Fz.le Z Z'):BI n l a Z':=⟨h.size,h.defers,λi r hi=>let ⟨v,hv,hp⟩:=h.tm i r hi;⟨v,hv,r.mono hz hp⟩⟩
def AM:Fr→Fr→Prop
 | [],_=>True
 | p::r,l=>(∃q,look l p.1=some q∧Kf q p.2)∧AM r l
theorem AM.look:∀{l' l:Fr},AM l' l→∀i v,Q.look l' i=some v→∃q,Q.look l i=some q∧Kf q v
 | [],_,_,i,v,h=>by simp[Q.look] at h
 | p::r,l,⟨h1,h2⟩,i,v,h=>by
  obtain⟨j,u⟩:=p;rw[Bz] at h
  split at h
  ·rename_i e;subst e;simp at h;subst h;exact h1
  ·exact AM.look h2 i v h
theorem AM.nil:AM [] l:=trivial
theorem AM.c {i:Nat}{r:Rp}{t:Fr}(h:Q.look l i=some r)(ht:AM t l):AM ((i,r)::t) l:=⟨⟨r,h,Kf.refl r⟩,ht⟩
theorem AM.w {i:Nat}{r q:Rp}{t:Fr}(h:Q.look l i=some q)(hr:Kf q r)(ht:AM t l):AM ((i,r)::t) l:=⟨⟨q,h,hr⟩,ht⟩
theorem AM.c5 {i1 i2 i3 i4 i5:Nat}{r1 r2 r3 r4 r5:Rp}{t:Fr}(h1:Q.look l i1=some r1)(h2:Q.look l i2=some r2)(h3:Q.look l i3=some r3)(h4:Q.look l i4=some r4)(h5:Q.look l i5=some r5)(ht:AM t l):AM ((i1,r1)::(i2,r2)::(i3,r3)::(i4,r4)::(i5,r5)::t) l:=
 AM.c h1 (AM.c h2 (AM.c h3 (AM.c h4 (AM.c h5 ht))))
theorem BI.sub (h:BI n l a Z)(hs:AM l' l):BI n l' a Z:=⟨h.size,h.defers,λi v hi=>by
 obtain⟨q,hq,hle⟩:=hs.look i v hi;obtain⟨u,hu,hp⟩:=h.tm i q hq;exact⟨u,hu,hle Z u hp⟩⟩
end
inductive Ent where
 | obj (b:Nat) (o:Obj)
 | blk (b:Nat) (cs:List Rp) (e:TypeId)
 | row (v:Value) (e:TypeId) (sz:Nat) (xs:List (List Rp))
 | map (b:Nat) (m:List (List UInt8×Rp))
 | fact (v:Value) (r:Rp)
 | bld (T e:TypeId) (b:Nat) (v:Value) (l:List UInt8)
 | mit (b it:Nat) (m rest:List (List UInt8×Rp)) (cur:Option (List UInt8×Rp))
def Ent.foot:Ent→List Nat
 | .obj b _=>[b]
 | .blk b _ _=>[b]
 | .row v _ _ _=>v.ownBlock.toList
 | .map b _=>[b]
 | .fact _ _=>[]
 | .bld _ _ b v _=>b::v.ownBlock.toList
 | .mit b it _ _ _=>[b,it]
def Ek (Z:Fz):List (List UInt8×Rp)→List MapEntry→Prop
 | [],[]=>True
 | p::f,e::es=>(e.key = .string (B p.1)∧p.2.p Z e.val)∧Ek Z f es
 | _,_=>False
theorem Ek.mono {Z Z':Fz}(h:Fz.le Z Z'):∀{f:List (List UInt8×Rp)} {es:List MapEntry},Ek Z f es→Ek Z' f es
 | [],[],_=>trivial
 | p::f,e::es,⟨⟨h1,h2⟩,h3⟩=>⟨⟨h1,p.2.mono h h2⟩,Ek.mono h h3⟩
def CL (Z:Fz)(m:List (List UInt8×Rp))(es:List MapEntry)(ck:Nat):Prop:=
 (m.map (·.1)).Nodup∧(es.map (·.born)).Nodup∧(∀e∈es,e.born<ck)∧∃f:List (List UInt8×Rp),f.Perm m∧Ek Z f es
theorem CL.mono {Z Z':Fz}(h:Fz.le Z Z'){m:List (List UInt8×Rp)}{es:List MapEntry}{ck:Nat}:CL Z m es ck→CL Z' m es ck:=λ⟨h1,h2,h3,f,h4,h5⟩=>⟨h1,h2,h3,f,h4,h5.mono h⟩
def PU (Z:Fz)(rest:List (List UInt8×Rp))(es:List MapEntry)(seen:Array Nat):Prop:=∃f,f.Perm rest∧Ek Z f (es.filter λe=>!seen.contains e.born)
def PI (Z:Fz)(es:List MapEntry)(ck:Nat)(seen:Array Nat)(c0:Nat):Option (List UInt8×Rp)→Prop
 | none=>True
 | some kr=>c0=ck∧∃s0 e,seen=Array.push s0 e.born∧e∈es∧e.key = .string (B kr.1)∧kr.2.p Z e.val
theorem PI.mono {Z Z':Fz}(h:Fz.le Z Z'){es:List MapEntry}{ck:Nat}{seen:Array Nat}{c0:Nat}:∀{cur:Option (List UInt8×Rp)},PI Z es ck seen c0 cur→PI Z' es ck seen c0 cur
 | none,_=>trivial
 | some kr,⟨h1,s0,e,h2,h3,h4,h5⟩=>⟨h1,s0,e,h2,h3,h4,kr.2.mono h h5⟩
def Ent.holds (Z:Fz)(w:World):Ent→Prop
 | .obj b o=>w.heap[b]? =some o
 | .blk b cs e=>∃us:List Value,w.heap[b]? =some (.cells us.toArray e (0,0))∧AB Z cs us
 | .row v e sz xs=>(∀c∈xs,c.length=sz)∧∃us:List Value,w.ownsRow 0 e sz v xs.length us∧AB Z xs.flatten us
 | .map b m=>∃es ck,w.heap[b]? =some (.map es ck)∧CL Z m es.toList ck
 | .fact v r=>r.p Z v
 | .bld T e b v l=>∃p,(p = .pointer none∨p = .pointer (some ⟨b,0,none⟩))∧w.heap[b]? =some (.cells #[p,v] T (0,0))∧w.ownsRow 0 e 1 v l.length (l.map λc=>Value.int .u8 c.toNat)∧v.ownBlock≠some b
 | .mit b it m rest cur=>∃es ck seen since c0,w.heap[b]? =some (.map es ck)∧w.heap[it]? =some (.mapIter (some b) since seen c0)∧CL Z m es.toList ck∧(∀e∈es.toList,e.born<since)∧since≤c0∧c0≤ck∧b≠it∧PU Z rest es.toList seen∧PI Z es.toList ck seen c0 cur
theorem Ent.lt {Z:Fz}{w:World}{e:Ent}(h:e.holds Z w){k:Nat}(hk:k∈e.foot):k<w.heap.size:=by
 cases e with
 | obj b o=>simp[Ent.foot] at hk;subst hk;exact(Array.getElem?_eq_some_iff.1 h).1
 | blk b cs e=>simp[Ent.foot] at hk;subst hk;obtain⟨us,h,_⟩:=h;exact(Array.getElem?_eq_some_iff.1 h).1
 | row v e sz xs=>simp[Ent.foot,Option.mem_toList] at hk;obtain⟨_,us,h,_⟩:=h;exact(World.ownsRow.lt h k hk).2
 | map b m=>simp[Ent.foot] at hk;subst hk;obtain⟨es,ck,h,_⟩:=h;exact(Array.getElem?_eq_some_iff.1 h).1
 | fact v r=>simp[Ent.foot] at hk
 | bld T e b v l=>
  obtain⟨p,_,h1,h2,_⟩:=h;simp only[Ent.foot,QO,Option.mem_toList] at hk;rcases hk with rfl | hk
  ·exact(Array.getElem?_eq_some_iff.1 h1).1
  ·exact(World.ownsRow.lt h2 k hk).2
 | mit b it m rest cur=>
  obtain⟨es,ck,seen,since,c0,h1,h2,_⟩:=h;simp only[Ent.foot,QO,List.not_mem_nil,or_false] at hk;rcases hk with rfl | rfl
  ·exact(Array.getElem?_eq_some_iff.1 h1).1
  ·exact(Array.getElem?_eq_some_iff.1 h2).1
theorem Gs {w w':World}{e:TypeId}{sz n:Nat}{v:Value}{us:List Value}(h:w.ownsRow 0 e sz v n us)(hk:∀k∈v.ownBlock.toList,w'.heap[k]? =w.heap[k]?):w'.ownsRow 0 e sz v n us:=by
 refine⟨h.1,?_⟩;rcases h.2 with hn | ⟨g,cap,cur,rfl,hb,hgg,rest⟩
 ·exact .inl hn
 ·exact .inr ⟨g,cap,cur,rfl,hb,(hk g (by simp[Value.ownBlock])).trans hgg,rest⟩
theorem Ent.keep {Z Z':Fz}{w w':World}{e:Ent}(h:e.holds Z w)(hz:Fz.le Z Z')(hk:∀k∈e.foot,w'.heap[k]? =w.heap[k]?):e.holds Z' w':=by
 cases e with
 | obj b o=>exact(hk b (by simp[Ent.foot])).trans h
 | blk b cs e=>obtain⟨us,h1,h2⟩:=h;exact⟨us,(hk b (by simp[Ent.foot])).trans h1,h2.mono hz⟩
 | row v e sz xs=>obtain⟨h0,us,h1,h2⟩:=h;exact⟨h0,us,Gs h1 hk,h2.mono hz⟩
 | map b m=>obtain⟨es,ck,h1,h2⟩:=h;exact⟨es,ck,(hk b (by simp[Ent.foot])).trans h1,h2.mono hz⟩
 | fact v r=>exact r.mono hz h
 | bld T e b v l=>obtain⟨p,h0,h1,h2,h3⟩:=h;exact⟨p,h0,(hk b (by simp[Ent.foot])).trans h1,Gs h2 (λk hk'=>hk k (by simp only[Ent.foot,QO];exact .inr hk')),h3⟩
 | mit b it m rest cur=>
  obtain⟨es,ck,seen,since,c0,h1,h2,h3,h4,h5,h6,h7,⟨f,h8,h9⟩,ha⟩:=h;exact⟨es,ck,seen,since,c0,(hk b (by simp[Ent.foot])).trans h1,(hk it (by simp[Ent.foot])).trans h2,h3.mono hz,h4,h5,h6,h7,⟨f,h8,h9.mono hz⟩,ha.mono hz⟩
structure Cx where
 w0:World
 Z0:Fz
 M:List Nat
 E:Fz→Prop
structure St (c:Cx) (H:List Ent) (Z:Fz) (w:World):Prop where
 os:w.os=c.w0.os
 tape:w.tape=c.w0.tape
 output:w.output=c.w0.output
 size:c.w0.heap.size≤w.heap.size
 old:∀k,k<c.w0.heap.size→k ∉ c.M→w.heap[k]? =c.w0.heap[k]?
 has:∀e∈H,e.holds Z w
 own:∀e∈H,∀k∈e.foot,c.w0.heap.size≤k∨k∈c.M
 dis:H.Pairwise (λe e'=>∀k∈e.foot,k ∉ e'.foot)
 frz:Ny Z w
 le:Fz.le c.Z0 Z
 new:∀b o,Z b=some o→c.Z0 b=some o∨c.w0.heap.size≤b∨b∈c.M
 zdis:∀e∈H,∀k∈e.foot,Z k=none
 env:c.E Z
 emono:∀{Z Z':Fz},Fz.le Z Z'→c.E Z→c.E Z'
section
variable {c : Cx} {w w' : World} {Z Z' : Fz} {H H' Hr Hin Hout : List Ent}
theorem Ny.lt (h:Ny Z w){b:Nat}{o:Obj}(e:Z b=some o):b<w.heap.size:=(Array.getElem?_eq_some_iff.1 (h b o e)).1
theorem St.enter (h:St c (Hin++Hr) Z w):St ⟨w,Z,Hin.flatMap Ent.foot,c.E⟩ Hin Z w:=
 ⟨rfl,rfl,rfl,Qx _,λ_ _ _=>rfl,λe he=>h.has e (List.mem_append_left _ he),λe he k hk=>.inr (List.mem_flatMap.2 ⟨e,he,hk⟩),(List.pairwise_append.1 h.dis).1,
  h.frz,Fz.le.refl _,λ_ _ e=>.inl e,λe he=>h.zdis e (List.mem_append_left _ he),h.env,h.emono⟩
theorem St.sub (h:St c H Z w)(hs:H'.Sublist H):St c H' Z w:=
 { h with has:=λe he=>h.has e (hs.subset he),own:=λe he=>h.own e (hs.subset he),dis:=h.dis.sublist hs,zdis:=λe he=>h.zdis e (hs.subset he) }
theorem St.perm (h:St c H Z w)(hp:H.Perm H'):St c H' Z w:=
 { h with has:=λe he=>h.has e (hp.mem_iff.2 he),own:=λe he=>h.own e (hp.mem_iff.2 he),dis:=(hp.pairwise_iff (λhxy k hk hk'=>hxy k hk' hk)).1 h.dis,zdis:=λe he=>h.zdis e (hp.mem_iff.2 he) }
theorem A1:∀{H:List Ent} {i:Nat} {e:Ent},H[i]? =some e→H.Perm (e::H.eraseIdx i)
 | x::r,0,e,h=>by simp at h;subst h;simp
 | x::r,i+1,e,h=>by
  simp at h;exact((A1 h).cons x).trans (List.Perm.swap e x _)
theorem St.front (h:St c H Z w){i:Nat}{e:Ent}(hi:H[i]? =some e):St c (e::H.eraseIdx i) Z w:=h.perm (A1 hi)
theorem St.ent (h:St c H Z w){i:Nat}{en:Ent}(hi:H[i]? =some en):en.holds Z w:=h.has en (Qu hi)
theorem St.drawn (h:St c H Z w)(k:Nat):St c H Z { w with drawn:=k }:=
 { h with has:=λe he=>Ent.keep (h.has e he) (Fz.le.refl _) λ_ _=>rfl,frz:=h.frz }
theorem St.mem_lt (h:St c H Z w){e:Ent}(he:e∈H){k:Nat}(hk:k∈e.foot):k<w.heap.size:=Ent.lt (h.has e he) hk
theorem St.call (h:St c (Hin++Hr) Z w){E:Fz→Prop}(h':St ⟨w,Z,Hin.flatMap Ent.foot,E⟩ Hout Z' w'):St c (Hout++Hr) Z' w':=by
 have hd:=List.pairwise_append.1 h.dis;have hM:∀k∈Hin.flatMap Ent.foot,∃e∈Hin,k∈e.foot:=λk hk=>List.mem_flatMap.1 hk;have hM2:∀k,k<c.w0.heap.size→k ∉ c.M→k ∉ Hin.flatMap Ent.foot:=λk hk hkM hkM2=>by
  obtain⟨e,he,hke⟩:=hM k hkM2;rcases h.own e (List.mem_append_left _ he) k hke with h1 | h1
  ·omega
  ·exact hkM h1
 have hr:∀e∈Hr,∀k∈e.foot,k<w.heap.size∧k ∉ Hin.flatMap Ent.foot:=λe he k hk=>by
  refine⟨h.mem_lt (List.mem_append_right _ he) hk,λhkM2=>?_⟩;obtain⟨e',he',hke'⟩:=hM k hkM2;exact hd.2.2 e' he' e he k hke' hk
 refine⟨h'.os.trans h.os,h'.tape.trans h.tape,h'.output.trans h.output,Nat.le_trans h.size h'.size,λk hk hkM=>?_,λe he=>?_,λe he k hk=>?_,?_,h'.frz,h.le.trans h'.le,λb o hb=>?_,λe he k hk=>?_,h.emono h'.le h.env,h.emono⟩
 ·exact(h'.old k (Nat.lt_of_lt_of_le hk h.size) (hM2 k hk hkM)).trans (h.old k hk hkM)
 ·rcases List.mem_append.1 he with he | he
  ·exact h'.has e he
  ·exact Ent.keep (h.has e (List.mem_append_right _ he)) h'.le λk hk=>h'.old k (hr e he k hk).1 (hr e he k hk).2
 ·rcases List.mem_append.1 he with he | he
  ·rcases h'.own e he k hk with h1 | h1
   ·exact .inl (Nat.le_trans h.size h1)
   ·obtain⟨e',he',hke'⟩:=hM k h1;exact h.own e' (List.mem_append_left _ he') k hke'
  ·exact h.own e (List.mem_append_right _ he) k hk
 ·refine List.pairwise_append.2 ⟨h'.dis,hd.2.1,λe he e' he' k hk hk'=>?_⟩;rcases h'.own e he k hk with h1 | h1
  ·have h2:=(hr e' he' k hk').1;simp only at h1;omega
  ·exact(hr e' he' k hk').2 h1
 ·rcases h'.new b o hb with h1 | h1 | h1
  ·exact h.new b o h1
  ·exact .inr (.inl (Nat.le_trans h.size h1))
  ·obtain⟨e',he',hke'⟩:=hM b h1;exact .inr (h.own e' (List.mem_append_left _ he') b hke')
 ·rcases List.mem_append.1 he with he | he
  ·exact h'.zdis e he k hk
  ·have h2:=hr e he k hk
   cases hz:Z' k with
   | none=>rfl
   | some o=>
    rcases h'.new k o hz with h1 | h1 | h1
    ·have:=h.zdis e (List.mem_append_right _ he) k hk;simp only at h1;rw[this] at h1;cases h1
    ·simp only at h1;omega
    ·exact absurd h1 h2.2
theorem St.call0 (h:St c H Z w){E:Fz→Prop}(h':St ⟨w,Z,[],E⟩ Hout Z' w'):St c (Hout++H) Z' w':=St.call (Hin:=[]) (by simpa using h) h'
theorem St.callF {e:Ent}(h:St c H Z w){i:Nat}(hi:H[i]? =some e){E:Fz→Prop}(h':St ⟨w,Z,e.foot,E⟩ Hout Z' w'):St c (Hout++H.eraseIdx i) Z' w':=
 St.call (Hin:=[e]) (Hr:=H.eraseIdx i) (h.front hi) (by simpa using h')
theorem St.one {M:List Nat}{E:Fz→Prop}{e':Ent}(hz:Ny Z w)(he0:E Z)(hm:∀{Z Z':Fz},Fz.le Z Z'→E Z→E Z')(os:w'.os=w.os)(tape:w'.tape=w.tape)(output:w'.output=w.output)(size:w.heap.size≤w'.heap.size)
  (hb:∀k,k<w.heap.size→k ∉ M→w'.heap[k]? =w.heap[k]?) (hM:∀k∈M,Z k=none) (he:e'.holds Z w') (hf:∀k∈e'.foot,k∈M∨w.heap.size≤k):St ⟨w,Z,M,E⟩ [e'] Z w':=by
 refine⟨os,tape,output,size,hb,by simpa using he,by simpa using λk hk=>(hf k hk).symm,by simp,λb o hbo=>?_,Fz.le.refl _,λ_ _ e=>.inl e,?_,he0,hm⟩
 ·rw[hb b (hz.lt hbo) (λh=>by rw[hM b h] at hbo;cases hbo)];exact hz b o hbo
 ·simp only[Q1,forall_eq];intro k hk;rcases hf k hk with h | h
  ·exact hM k h
  ·cases hz':Z k with
   | none=>rfl
   | some o=>have:=hz.lt hz';omega
theorem St.set (h:St c H Z w){i:Nat}{e e':Ent}(hi:H[i]? =some e)(os:w'.os=w.os)(tape:w'.tape=w.tape)(output:w'.output=w.output)(size:w.heap.size≤w'.heap.size)
  (hb:∀k,k<w.heap.size→k ∉ e.foot→w'.heap[k]? =w.heap[k]?) (he:e'.holds Z w') (hf:∀k∈e'.foot,k∈e.foot∨w.heap.size≤k):St c (H.set i e') Z w':=by
 have hmem:=Qu hi;have h3:=h.callF hi (St.one (e':=e') h.frz h.env h.emono os tape output size hb (h.zdis e hmem) he hf);have hil:i<H.length:=(List.getElem?_eq_some_iff.1 hi).1;have hq:(H.set i e')[i]? =some e':=by simp[hil]
 have:=A1 hq;rw[List.eraseIdx_set_eq] at this;exact h3.perm this.symm
theorem St.add (h:St c H Z w){e':Ent}(os:w'.os=w.os)(tape:w'.tape=w.tape)(output:w'.output=w.output)(size:w.heap.size≤w'.heap.size)
  (hb:∀k,k<w.heap.size→w'.heap[k]? =w.heap[k]?) (he:e'.holds Z w') (hf:∀k∈e'.foot,w.heap.size≤k):St c (e'::H) Z w':=
 h.call0 (St.one (e':=e') (M:=[]) h.frz h.env h.emono os tape output size (λk hk _=>hb k hk) (by simp) he (λk hk=>.inr (hf k hk)))
theorem St.alloc (h:St c H Z w)(o:Obj){e:Ent}(he:e.holds Z (w.alloc o))(hf:e.foot=[w.heap.size]):St c (e::H) Z (w.alloc o):=
 h.add rfl rfl rfl (by simp) (λk hk=>Below.heap_alloc w o k hk) he (by simp[hf])
theorem DO {α:Type}{sz:Nat}:∀{vs:List (List α)} (hs:∀c∈vs,c.length=sz) {i:Nat} {c:List α} (hi:vs[i]? =some c) {j:Nat} {u:α} (hj:c[j]? =some u),vs.flatten[i*sz+j]? =some u
 | [],hs,i,c,hi,j,u,hj=>by simp at hi
 | x::r,hs,0,c,hi,j,u,hj=>by
  simp at hi;subst hi;simp only[List.flatten_cons,Nat.zero_mul,QC];rw[List.getElem?_append_left (by have:=(List.getElem?_eq_some_iff.1 hj).1;exact this)];exact hj
 | x::r,hs,i+1,c,hi,j,u,hj=>by
  have hx:x.length=sz:=hs x (by simp);simp only[List.flatten_cons];rw[List.getElem?_append_right (by rw[hx,Nat.succ_mul];omega)];have e:(i+1)*sz+j-x.length=i*sz+j:=by rw[hx,Nat.succ_mul];omega
  rw[e];exact DO (vs:=r) (λc hc=>hs c (by simp[hc])) (by simpa using hi) hj
theorem CS {α:Type}{sz:Nat}:∀{vs:List (List α)} (hs:∀c∈vs,c.length=sz),vs.flatten.length=vs.length*sz
 | [],_=>by simp
 | x::r,hs=>by
  have:=CS (vs:=r) (λc hc=>hs c (by simp[hc]));have hx:=hs x (by simp);simp only[List.flatten_cons,Qy,Qt] at this ⊢;rw[this,hx,Nat.succ_mul];omega
theorem St.freeze (h:St c H Z w){i:Nat}{v:Value}{e:TypeId}{sz:Nat}{xs:List (List Rp)}(hi:H[i]? =some (.row v e sz xs)):∃Z',Fz.le Z Z'∧St c (H.eraseIdx i) Z' w∧Ke sz xs Z' v:=by
 obtain⟨h0,us,⟨h1,h2⟩,h3⟩:=h.ent hi;have hlen:=h3.length;rcases h2 with⟨rfl,hn⟩ | ⟨g,cap,cur,rfl,_,hg,hc,hm,hsz,htk⟩
 ·have:xs=[]:=Q3 hn;subst this;exact⟨Z,Fz.le.refl _,h.sub (List.eraseIdx_sublist _ _),Ke.nil _ _⟩
 ·have hmem:=Qu hi;have hgz:Z g=none:=h.zdis _ hmem g (by simp[Ent.foot,Value.ownBlock])
  let Z':Fz:=λb=>if b=g then some (.cells cur e (0,0)) else Z b
  have hle:Fz.le Z Z':=λb o hb=>by
   have:b≠g:=λe=>by subst e;rw[hgz] at hb;cases hb
   simpa[Z',this] using hb
  have hfr:=h.front hi;have hd:=List.pairwise_cons.1 hfr.dis;refine⟨Z',hle,?_,?_⟩
  ·have hs:=hfr.sub (List.sublist_cons_self _ _);refine { hs with has:=λen he=>Ent.keep (hs.has en he) hle λ_ _=>rfl,frz:=λb o hb=>?_,le:=hs.le.trans hle,new:=λb o hb=>?_,zdis:=λen he k hk=>?_,env:=hs.emono hle hs.env }
   ·by_cases hbg:b=g
    ·subst hbg;simp[Z'] at hb;rw[← hb];exact hg
    ·simp[Z',hbg] at hb;exact h.frz b o hb
   ·by_cases hbg:b=g
    ·subst hbg;exact .inr (h.own _ hmem b (by simp[Ent.foot,Value.ownBlock]))
    ·simp[Z',hbg] at hb;exact h.new b o hb
   ·have hkg:k≠g:=λe=>hd.1 en he g (by simp[Ent.foot,Value.ownBlock]) (e▸hk);simp only[Z',hkg,if_false];exact hs.zdis en he k hk
  ·refine⟨some ⟨g,0,none⟩,cap,rfl,hc,hm,(λh=>by cases h),λj cl hj=>⟨h0 cl (Qu hj),⟨g,0,none⟩,rfl,rfl,λq r hq=>?_⟩⟩;have hfl:xs.flatten[j*sz+q]? =some r:=DO h0 hj hq;obtain⟨u,hu,hp⟩:=h3.at hfl;refine⟨u,?_,r.mono hle hp⟩;rw[← htk,QE] at hu
   split at hu
   ·simpa[DZ,Z'] using hu
   ·cases hu
end
section
variable (P : Program) (n : Nat) (c : Cx)
def WL (ops:Array Oper)(Q:Exit→Act→World→Prop)(rest:List Oper)(l:Fr)(H:List Ent):Prop:=∀a w Z,BI n l a Z→St c H Z w→wpList P ops Q rest a w
def WC (x:Code)(Q:Exit→Act→World→Prop)(l:Fr)(H:List Ent):Prop:=∀a w Z,BI n l a Z→St c H Z w→x.wp P Q a w
def WK (K:Act→World→Prop)(l:Fr)(H:List Ent):Prop:=∀a w Z,BI n l a Z→St c H Z w→K a w
def Eh {S:Type}(inv:S→Prop)(fr:S→Fr)(hp:S→List Ent):Act→World→Prop:=λa w=>∃s Z,inv s∧BI n (fr s) a Z∧St c (hp s) Z w
def AS (l:Fr)(H:List Ent)(o:Oper)(r:Rp):Prop:=∀a w Z,BI n l a Z→St c H Z w→∃v,r.p Z v∧(execOp a.eval o).run P w = .ok (.value v) w
end
def PF (c:Cx)(Φ:Rp→List Ent→Prop):Ending→World→Prop:=λe w'=>∃r v H Z,e = .returned v∧Φ r H∧r.p Z v∧St c H Z w'
def Fn (P:Program)(E:Fz→Prop)(f:FuncId)(args:List Rp)(Hin:List Ent)(Φ:Rp→List Ent→Prop):Prop:=
 ∀w Z (vs:List Value),AB Z args vs→St ⟨w,Z,Hin.flatMap Ent.foot,E⟩ Hin Z w→Calls P f vs.toArray w (PF ⟨w,Z,Hin.flatMap Ent.foot,E⟩ Φ)
abbrev II (P:Program)(E:Fz→Prop)(f:FuncId)(args:List Rp)(r:Rp):Prop:=Fn P E f args [] (λr' H=>r'=r∧H=[])
def Or:List Rp→List Rp→Prop
 | [],[]=>True
 | a::as1,b::bs=>Kf a b∧Or as1 bs
 | _,_=>False
theorem Or.all {Z:Fz}:∀{rs rs':List Rp} {vs:List Value},Or rs rs'→AB Z rs vs→AB Z rs' vs
 | [],[],[],_,_=>trivial
 | a::as1,b::bs,v::vs,⟨h1,h2⟩,⟨h3,h4⟩=>⟨h1 Z v h3,h2.all h4⟩
theorem Fn.args {P:Program}{E:Fz→Prop}{f:FuncId}{rs rs':List Rp}{Hin:List Ent}{Φ:Rp→List Ent→Prop}(h:Fn P E f rs' Hin Φ)(hl:Or rs rs'):Fn P E f rs Hin Φ:=λw Z vs hv hs=>h w Z vs (hl.all hv) hs
section
variable {P : Program} {n : Nat} {c : Cx} {ops : Array Oper} {Q : Exit → Act → World → Prop} {rest : List Oper} {l l' : Fr} {H H' : List Ent} {x y : Code} {K : Act → World → Prop}
theorem WC.sub (hl:AM l' l)(hH:H'.Sublist H)(h:WC P n c x Q l' H'):WC P n c x Q l H:=λa w Z ha hw=>h a w Z (ha.sub hl) (hw.sub hH)
theorem WK.sub (hl:AM l' l)(hH:H'.Sublist H)(h:WK n c K l' H'):WK n c K l H:=λa w Z ha hw=>h a w Z (ha.sub hl) (hw.sub hH)
theorem WL.sub (hl:AM l' l)(hH:H'.Sublist H)(h:WL P n c ops Q rest l' H'):WL P n c ops Q rest l H:=λa w Z ha hw=>h a w Z (ha.sub hl) (hw.sub hH)
theorem WL.front {i:Nat}{e:Ent}(hi:H[i]? =some e)(h:WL P n c ops Q rest l (e::H.eraseIdx i)):WL P n c ops Q rest l H:=λa w Z ha hw=>h a w Z ha (hw.front hi)
theorem St.freezeF {Z:Fz}{w:World}(h:St c H Z w){i:Nat}{v:Value}{e:TypeId}{sz:Nat}{xs:List (List Rp)}(hi:H[i]? =some (.row v e sz xs)):∃Z',Fz.le Z Z'∧St c (.fact v (AV sz xs)::H.eraseIdx i) Z' w:=by
 obtain⟨Z',hz,hs,hr⟩:=h.freeze hi;exact⟨Z',hz,hs.add rfl rfl rfl (Qx _) (λ_ _=>rfl) (e':=.fact v (AV sz xs)) hr (by simp[Ent.foot])⟩
theorem WK.freeze {i:Nat}{v:Value}{e:TypeId}{sz:Nat}{xs:List (List Rp)}(hi:H[i]? =some (.row v e sz xs))(h:WK n c K l (.fact v (AV sz xs)::H.eraseIdx i)):WK n c K l H:=λa w Z ha hw=>by
 obtain⟨Z',hz,hs⟩:=St.freezeF hw hi;exact h a w Z' (ha.mono hz) hs
theorem WC.freeze {i:Nat}{v:Value}{e:TypeId}{sz:Nat}{xs:List (List Rp)}(hi:H[i]? =some (.row v e sz xs))(h:WC P n c x Q l (.fact v (AV sz xs)::H.eraseIdx i)):WC P n c x Q l H:=λa w Z ha hw=>by
 obtain⟨Z',hz,hs⟩:=St.freezeF hw hi;exact h a w Z' (ha.mono hz) hs
theorem WL.freeze {i:Nat}{v:Value}{e:TypeId}{sz:Nat}{xs:List (List Rp)}(hi:H[i]? =some (.row v e sz xs))(h:WL P n c ops Q rest l (.fact v (AV sz xs)::H.eraseIdx i)):WL P n c ops Q rest l H:=λa w Z ha hw=>by
 obtain⟨Z',hz,hs⟩:=St.freezeF hw hi;exact h a w Z' (ha.mono hz) hs
def Up (H:List Ent)(q r:Rp):Prop:=∀(c:Cx) Z w v,St c H Z w→q.p Z v→r.p Z v
theorem Up.refl (r:Rp):Up H r r:=λ_ _ _ _ _ h=>h
theorem Up.le {q r:Rp}(h:Kf q r):Up H q r:=λ_ Z _ v _ hp=>h Z v hp
theorem Up.fact {i:Nat}{v:Value}{r:Rp}(hi:H[i]? =some (.fact v r)):Up H (rv v) r:=λc Z w u hw hp=>by rw[show u=v from hp];exact hw.ent hi
def Eg (H:List Ent):List Rp→List Rp→Prop
 | [],[]=>True
 | q::qs,r::rs=>Up H q r∧Eg H qs rs
 | _,_=>False
theorem Eg.refl:∀rs:List Rp,Eg H rs rs
 | []=>trivial
 | r::rs=>⟨Up.refl r,Eg.refl rs⟩
theorem Eg.all {c:Cx}{Z:Fz}{w:World}(hw:St c H Z w):∀{qs rs:List Rp} {vs:List Value},Eg H qs rs→AB Z qs vs→AB Z rs vs
 | [],[],[],_,_=>trivial
 | q::qs,r::rs,v::vs,⟨h1,h2⟩,⟨h3,h4⟩=>⟨h1 c Z w v hw h3,h2.all hw h4⟩
theorem Up.agg {qs rs:List Rp}(h:Eg H qs rs):Up H (Bh qs) (Bh rs):=λc Z w v hw ⟨us,e,hu⟩=>⟨us,e,h.all hw hu⟩
theorem BI.up {a:Act}{Z:Fz}{w:World}(ha:BI n l a Z)(hw:St c H Z w){d:Nat}{q r:Rp}(hd:look l d=some q)(hr:Up H q r):BI n ((d,r)::l) a Z:=
 ⟨ha.size,ha.defers,λi s hi=>by
  rw[Bz] at hi
  split at hi
  ·rename_i e;subst e;simp at hi;subst hi
   obtain⟨u,hu,hp⟩:=ha.tm d _ hd;exact⟨u,hu,hr c Z w u hw hp⟩
  ·exact ha.tm i s hi⟩
theorem WK.up {d:Nat}{q r:Rp}(hd:look l d=some q)(hr:Up H q r)(h:WK n c K ((d,r)::l) H):WK n c K l H:=λa w Z ha hw=>h a w Z (ha.up hw hd hr) hw
theorem WC.up {d:Nat}{q r:Rp}(hd:look l d=some q)(hr:Up H q r)(h:WC P n c x Q ((d,r)::l) H):WC P n c x Q l H:=λa w Z ha hw=>h a w Z (ha.up hw hd hr) hw
theorem WL.up {d:Nat}{q r:Rp}(hd:look l d=some q)(hr:Up H q r)(h:WL P n c ops Q rest ((d,r)::l) H):WL P n c ops Q rest l H:=λa w Z ha hw=>h a w Z (ha.up hw hd hr) hw
theorem St.upBlk {Z:Fz}{w:World}(h:St c H Z w){i b:Nat}{cs cs':List Rp}{e:TypeId}(hi:H[i]? =some (.blk b cs e))(hu:Eg H cs cs'):St c (H.set i (.blk b cs' e)) Z w:=
 h.set hi rfl rfl rfl (Qx _) (λ_ _ _=>rfl) (by obtain⟨us,h1,h2⟩:=h.ent hi;exact⟨us,h1,hu.all h h2⟩) (by simp[Ent.foot])
theorem WK.upBlk {i b:Nat}{cs cs':List Rp}{e:TypeId}(hi:H[i]? =some (.blk b cs e))(hu:Eg H cs cs')(h:WK n c K l (H.set i (.blk b cs' e))):WK n c K l H:=λa w Z ha hw=>h a w Z ha (hw.upBlk hi hu)
theorem WC.upBlk {i b:Nat}{cs cs':List Rp}{e:TypeId}(hi:H[i]? =some (.blk b cs e))(hu:Eg H cs cs')(h:WC P n c x Q l (H.set i (.blk b cs' e))):WC P n c x Q l H:=λa w Z ha hw=>h a w Z ha (hw.upBlk hi hu)
theorem WL.upBlk {i b:Nat}{cs cs':List Rp}{e:TypeId}(hi:H[i]? =some (.blk b cs e))(hu:Eg H cs cs')(h:WL P n c ops Q rest l (H.set i (.blk b cs' e))):WL P n c ops Q rest l H:=λa w Z ha hw=>h a w Z ha (hw.upBlk hi hu)
theorem Ax (h:WC P n c x (Exit.then (λa w=>y.wp P Q a w) Q) l H):WC P n c (x.seq y) Q l H:=λa w Z ha hw=>wp_seq (h a w Z ha hw)
theorem CO {S:Type}(inv:S→Prop)(fr:S→Fr)(hp:S→List Ent)(h:WC P n c x (Exit.then (Eh n c inv fr hp) Q) l H)(h2:∀s,inv s→WC P n c y Q (fr s) (hp s)) :
  WC P n c (x.seq y) Q l H:=λa w Z ha hw=>wp_seq (wp_mono (h a w Z ha hw) λe a w q=>by
   cases e with
   | normal=>obtain⟨s,Z,hi,hs,ht⟩:=q;exact h2 s hi a w Z hs ht
   | _=>exact q)
theorem AQ {S:Type}{inv:S→Prop}{fr:S→Fr}{hp:S→List Ent}(s:S)(hi:inv s)(hl:AM (fr s) l)(hH:(hp s).Sublist H):WK n c (Eh n c inv fr hp) l H:=
 λ_ _ Z ha hw=>⟨s,Z,hi,ha.sub hl,hw.sub hH⟩
theorem A0 (h:WK n c K l H):WK n c (Exit.then K Q .normal) l H:=h
theorem AA {id:Nat}(h:WK n c (Q (.exit id)) l H):WK n c (Exit.then K Q (.exit id)) l H:=h
theorem Al (h:WK n c (Q .ret) l H):WK n c (Exit.then K Q .ret) l H:=h
theorem AT {id:Nat}(h:WK n c (Q .normal) l H):WK n c (Exit.inBlock id Q .normal) l H:=h
theorem A9 {id:Nat}(h:WK n c (Q .ret) l H):WK n c (Exit.inBlock id Q .ret) l H:=h
theorem Bl (h:WC P n c y Q l H):WK n c (λa w=>y.wp P Q a w) l H:=h
theorem AC (h:WK n c (Q .normal) l H):WC P n c .skip Q l H:=λa w Z ha hw=>wp_skip (h a w Z ha hw)
theorem B6 {id:Nat}(h:WK n c (Q (.exit id)) l H):WC P n c (.exit id) Q l H:=λa w Z ha hw=>wp_exit (h a w Z ha hw)
theorem A4 (h:WK n c (Q .ret) l H):WC P n c .ret Q l H:=λa w Z ha hw=>wp_ret (h a w Z ha hw)
theorem AN {id:Nat}(h:WC P n c x (Exit.inBlock id Q) l H):WC P n c (.block id x) Q l H:=λa w Z ha hw=>wp_block (h a w Z ha hw)
theorem Bq {id:Nat}(h:WK n c (Q .normal) l H):WK n c (Exit.inBlock id Q (.exit id)) l H:=λa w Z ha hw=>by
 show if id=id then _ else _
 rw[if_pos rfl];exact h a w Z ha hw
theorem A6 {o:Operand}{b:Bool}(ho:ev l o=some (rB b))(h1:b=true→WC P n c x Q l H)(h2:b=false→WC P n c y Q l H):WC P n c (.cond o x y) Q l H:=
 λa w Z ha hw=>wp_cond_split (ha.eval ho) (λe=>h1 e a w Z ha hw) (λe=>h2 e a w Z ha hw)
theorem DE {o:Operand}{b:Bool}(ho:ev l o=some (rB b))(hb:b=true)(h:WC P n c x Q l H):WC P n c (.cond o x y) Q l H:=
 λa w Z ha hw=>by subst hb;exact wp_cond_true (ha.eval ho) (h a w Z ha hw)
theorem CP {o:Operand}{b:Bool}(ho:ev l o=some (rB b))(hb:b=false)(h:WC P n c y Q l H):WC P n c (.cond o x y) Q l H:=
 λa w Z ha hw=>by subst hb;exact wp_cond_false (ha.eval ho) (h a w Z ha hw)
theorem Hk {S:Type}(inv:S→Prop)(fr:S→Fr)(hp:S→List Ent)(μ:S→Nat)(s0:S)(h0:inv s0)(hl:AM (fr s0) l)(hH:(hp s0).Sublist H)
  (round:∀s,inv s→WC P n c x (Exit.then (Eh n c (λs'=>inv s'∧μ s'<μ s) fr hp) Q) (fr s) (hp s)):WC P n c (.loop x) Q l H:=λa w Z ha hw=>by
 refine wp_loop_ghost (λk a w=>∃s Z,μ s=k∧inv s∧BI n (fr s) a Z∧St c (hp s) Z w) (μ s0) ⟨s0,Z,rfl,h0,ha.sub hl,hw.sub hH⟩ ?_;rintro k a w ⟨s,Z,rfl,hi,ha,hw⟩;refine wp_mono (round s hi a w Z ha hw) λe a' w' q=>?_
 cases e with
 | normal=>
  obtain⟨s',Z',⟨hi',hlt⟩,ha',hw'⟩:=q;exact⟨μ s',hlt,s',Z',rfl,hi',ha',hw'⟩
 | _=>exact q
theorem Av {id:Nat}{ops:List Oper}(h:WL P n c ops.toArray Q ops l H):WC P n c (.region id ops.toArray false) Q l H:=λa w Z ha hw=>wp_region_lit (h a w Z ha hw)
theorem Au (h:WK n c (Q .normal) l H):WL P n c ops Q [] l H:=λa w Z ha hw=>wpList_nil (h a w Z ha hw)
theorem sN {α:Type}:([]:List α).Sublist []:=List.Sublist.slnil
theorem sC {α:Type}{a:α}{l1 l2:List α}(h:l1.Sublist l2):(a::l1).Sublist (a::l2):=List.Sublist.cons_cons a h
theorem sS {α:Type}{a:α}{l1 l2:List α}(h:l1.Sublist l2):l1.Sublist (a::l2):=List.Sublist.cons a h
theorem Bd (h:WC P n c y Q l H):WK n c (Exit.then (λa w=>y.wp P Q a w) Q .normal) l H:=A0 (Bl h)
theorem A2 (h:WC P n c y Q l H):WL P n c ops (Exit.then (λa w=>y.wp P Q a w) Q) [] l H:=Au (Bd h)
theorem As {id:Nat}{ops:List Oper}(h:WL P n c ops.toArray (Exit.then (λa w=>y.wp P Q a w) Q) ops l H):WC P n c ((Code.region id ops.toArray false).seq y) Q l H:=Ax (Av h)
theorem CF {id:Nat}{os:List Oper}(h:WL P n c os.toArray (Exit.then (λa w=>y.wp P Q a w) Q) os l H):WL P n c ops (Exit.then (λa w=>((Code.region id os.toArray false).seq y).wp P Q a w) Q) [] l H:=A2 (As h)
def rle:List (Nat×List Ent)→List (List Ent)
 | []=>[]
 | p::r=>List.replicate p.1 p.2++rle r
theorem BR {a:Act}{Z:Fz}{j d:Nat}{b:Bool}(ha:BI n l a Z)(hj:Cf ops j=some d)(hv:look l d=some (rB b)):yielded ops a.tmps j=some b:=by
 unfold Cf at hj;obtain⟨v,h1,h2⟩:=ha.tm d _ hv;rw[show v = .bool b from h2] at h1;simp[yielded,hj,h1]
theorem CU {a:Act}{Z:Fz}{j d:Nat}(ha:BI n l a Z)(hj:Cf ops j=some d)(hv:look l d=some (rv undef)):yielded ops a.tmps j=none:=by
 unfold Cf at hj;obtain⟨v,h1,h2⟩:=ha.tm d _ hv;rw[show v=undef from h2] at h1;simp[yielded,hj,h1,undef]
theorem AF {d:Option Nat}{op:Op}{ty:TypeId}{pos:String}{af:Array Edge}{j dj:Nat}{want b:Bool}(hj:Cf ops j=some dj)(hv:look l dj=some (rB b))(hb:b=want)
  (h:WL P n c ops Q ({ dst:=d,op:=op,type:=ty,pos:=pos,after:=af,guard:=none }::rest) l H) :
  WL P n c ops Q ({ dst:=d,op:=op,type:=ty,pos:=pos,after:=af,guard:=some (j,want) }::rest) l H:=λa w Z ha hw=>by
 have h1:=h a w Z ha hw;have hy:=BR ha hj hv;subst hb;simp only[wpList,Region.wanted,hy,beq_self_eq_true,if_true] at h1 ⊢;exact h1
theorem Am {d:Nat}{op:Op}{ty:TypeId}{pos:String}{af:Array Edge}{j dj:Nat}{want b:Bool}(hj:Cf ops j=some dj)(hv:look l dj=some (rB b))(hb:b = !want)(hn:Nat.blt d n=true)
  (h:WL P n c ops Q rest ((d,rv undef)::l) H) :
  WL P n c ops Q ({ dst:=some d,op:=op,type:=ty,pos:=pos,after:=af,guard:=some (j,want) }::rest) l H:=λa w Z ha hw=>by
 have hy:=BR ha hj hv;subst hb;refine wpList_skip ?_ (h _ w Z (ha.put hn rfl) hw);simp[Region.wanted,hy]
theorem Br {d:Nat}{op:Op}{ty:TypeId}{pos:String}{af:Array Edge}{j dj:Nat}{want:Bool}(hj:Cf ops j=some dj)(hv:look l dj=some (rv undef))(hn:Nat.blt d n=true)
  (h:WL P n c ops Q rest ((d,rv undef)::l) H) :
  WL P n c ops Q ({ dst:=some d,op:=op,type:=ty,pos:=pos,after:=af,guard:=some (j,want) }::rest) l H:=λa w Z ha hw=>by
 have hy:=CU ha hj hv;refine wpList_skip ?_ (h _ w Z (ha.put hn rfl) hw);simp[Region.wanted,hy]
theorem Aw {d:Nat}{op:Op}{ty:TypeId}{pos:String}{af:Array Edge}{r:Rp}(hr:AS P n c l H { dst:=some d,op:=op,type:=ty,pos:=pos,after:=af,guard:=none } r)
  (hn:Nat.blt d n=true) (h:WL P n c ops Q rest ((d,r)::l) H):WL P n c ops Q ({ dst:=some d,op:=op,type:=ty,pos:=pos,after:=af,guard:=none }::rest) l H:=λa w Z ha hw=>
 wpList_plain rfl λK hK=>by
  obtain⟨v,hv,he⟩:=hr a w Z ha hw;unfold Oper.wp;rw[he];exact hK _ _ (h _ w Z (ha.put hn hv) hw)
theorem EQ {d:Nat}{op:Op}{ty:TypeId}{pos:String}{af:Array Edge}
  (hr:∀a w Z,BI n l a Z→St c H Z w→∃v w' r H' Z',(execOp a.eval { dst:=some d,op:=op,type:=ty,pos:=pos,after:=af,guard:=none }).run P w = .ok (.value v) w'∧Fz.le Z Z'∧r.p Z' v∧St c H' Z' w'∧WL P n c ops Q rest ((d,r)::l) H')
  (hn:Nat.blt d n=true):WL P n c ops Q ({ dst:=some d,op:=op,type:=ty,pos:=pos,after:=af,guard:=none }::rest) l H:=λa w Z ha hw=>
 wpList_plain rfl λK hK=>by
  obtain⟨v,w',r,H',Z',h1,hz,hv,h2,h3⟩:=hr a w Z ha hw;unfold Oper.wp;rw[h1];exact hK _ _ (h3 _ w' Z' ((ha.mono hz).put hn hv) h2)
theorem IL {op:Op}{ty:TypeId}{pos:String}{af:Array Edge}
  (hr:∀a w Z,BI n l a Z→St c H Z w→∃w' H',(execOp a.eval { dst:=none,op:=op,type:=ty,pos:=pos,after:=af,guard:=none }).run P w = .ok .skip w'∧St c H' Z w'∧WL P n c ops Q rest l H') :
  WL P n c ops Q ({ dst:=none,op:=op,type:=ty,pos:=pos,after:=af,guard:=none }::rest) l H:=λa w Z ha hw=>
 wpList_plain rfl λK hK=>by
  obtain⟨w',H',h1,h2,h3⟩:=hr a w Z ha hw;unfold Oper.wp;rw[h1];exact hK _ _ (h3 _ w' Z (ha.put_none _) h2)
theorem Hi {d:Nat}{op:Op}{ty:TypeId}{pos:String}{af:Array Edge}{f:FuncId}{args:Act→Array Value}
  (hr:∀a w Z,BI n l a Z→St c H Z w→(execOp a.eval { dst:=some d,op:=op,type:=ty,pos:=pos,after:=af,guard:=none }).run P w = .ok (.enter f (args a)) w∧
   Calls P f (args a) w (λe w'=>∃v r H' Z',e = .returned v∧Fz.le Z Z'∧r.p Z' v∧St c H' Z' w'∧WL P n c ops Q rest ((d,r)::l) H'))
  (hn:Nat.blt d n=true):WL P n c ops Q ({ dst:=some d,op:=op,type:=ty,pos:=pos,after:=af,guard:=none }::rest) l H:=λa w Z ha hw=>
 wpList_plain rfl λK hK=>by
  obtain⟨h0,hc⟩:=hr a w Z ha hw;unfold Oper.wp;rw[h0];refine hc.mono ?_;rintro e w' ⟨v,r,H',Z',rfl,hz,hv,h2,h3⟩;exact hK _ _ (h3 _ w' Z' ((ha.mono hz).put hn hv) h2)
def Jc (l:Fr):List Operand→Option (List Rp)
 | []=>some []
 | x::r=>match ev l x,Jc l r with
  | some v,some vs=>some (v::vs)
  | _,_=>none
theorem EF {a:Act}{Z:Fz}(ha:BI n l a Z):∀{xs:List Operand} {rs:List Rp},Jc l xs=some rs→AB Z rs (xs.map a.eval)
 | [],rs,h=>by simp[Jc] at h;subst h;trivial
 | x::r,rs,h=>by
  simp only[Jc] at h
  split at h
  ·rename_i v vs' h1 h2
   simp at h;subst h;exact⟨ha.ev h1,EF ha h2⟩
  ·cases h
theorem DU {f:FuncId}{args:List Operand}{ats:Array TypeId}{o:Oper}{a:Act}(ho:o.op = .call { callee:=.value (.func f),args:=args.toArray,argTypes:=ats })
  (hcall:∀(as1:Array Value) (w:World),(callFunc f as1).run P w = .ok (.enter f as1) w) (w:World):(execOp a.eval o).run P w = .ok (.enter f (args.map a.eval).toArray) w:=by
 simp[execOp,ho,resolve,Act.eval,Deferred.ofValue,invoke,hcall]
def Gc:List Rp→List Rp→Prop
 | [],[]=>True
 | r::rs,q::qs=>Kf r q∧Gc rs qs
 | _,_=>False
theorem Gc.refl:∀rs:List Rp,Gc rs rs
 | []=>trivial
 | r::rs=>⟨Kf.refl r,Gc.refl rs⟩
theorem Gc.all {Z:Fz}:∀{rs qs:List Rp} {vs:List Value},Gc rs qs→AB Z rs vs→AB Z qs vs
 | [],[],[],_,_=>trivial
 | r::rs,q::qs,v::vs,⟨h1,h2⟩,⟨h3,h4⟩=>⟨h1 Z v h3,h2.all h4⟩
theorem Fn.sub {E:Fz→Prop}{f:FuncId}{args args':List Rp}{Hin:List Ent}{Φ Φ':Rp→List Ent→Prop}(h:Fn P E f args' Hin Φ)(ha:Gc args args')(hΦ:∀r H,Φ r H→Φ' r H):Fn P E f args Hin Φ':=λw Z vs hv hs=>
 (h w Z vs (ha.all hv) hs).mono λe w' ⟨r,v,H,Z',he,hp,hr,ht⟩=>⟨r,v,H,Z',he,hΦ r H hp,hr,ht⟩
theorem Db {d:Nat}{ty:TypeId}{pos:String}{af:Array Edge}{f:FuncId}{args:List Operand}{ats:Array TypeId}{rs:List Rp}{Hin Hr:List Ent}{Φ:Rp→List Ent→Prop}(hcall:∀(as1:Array Value) (w:World),(callFunc f as1).run P w = .ok (.enter f as1) w)(hv:Jc l args=some rs)
  (hp:H.Perm (Hin++Hr)) (hc:Fn P c.E f rs Hin Φ) (hn:Nat.blt d n=true) (h:∀r Ho,Φ r Ho→WL P n c ops Q rest ((d,r)::l) (Ho++Hr)) :
  WL P n c ops Q ({ dst:=some d,op:=.call { callee:=.value (.func f),args:=args.toArray,argTypes:=ats },type:=ty,pos:=pos,after:=af,guard:=none }::rest) l H:=
 Hi (args:=λa=>(args.map a.eval).toArray) (λa w Z ha hw=>⟨DU rfl hcall w,by
  have hw2:=hw.perm hp;refine(hc w Z _ (EF ha hv) hw2.enter).mono ?_;rintro e w' ⟨r,v,Ho,Z',he,hΦ,hr,hs⟩;exact⟨v,r,Ho++Hr,Z',he,hs.le,hr,hw2.call hs,h r Ho hΦ⟩⟩) hn
theorem DT {d:Nat}{ty:TypeId}{pos:String}{af:Array Edge}{f:FuncId}{args:List Operand}{ats:Array TypeId}{rs:List Rp}{r r':Rp}(hcall:∀(as1:Array Value) (w:World),(callFunc f as1).run P w = .ok (.enter f as1) w)(hv:Jc l args=some rs)
  (hc:II P c.E f rs r') (hr:r'=r) (hn:Nat.blt d n=true) (h:WL P n c ops Q rest ((d,r)::l) H) :
  WL P n c ops Q ({ dst:=some d,op:=.call { callee:=.value (.func f),args:=args.toArray,argTypes:=ats },type:=ty,pos:=pos,after:=af,guard:=none }::rest) l H:=
 Db (Hin:=[]) (Hr:=H) hcall hv (Qj _) hc hn (by rintro _ _ ⟨rfl,rfl⟩;subst hr;exact h)
theorem Dy:∀{Z:Fz} (rs:List Rp) (vs:List Value) (k:Nat),AB Z rs vs→∀i r,look ((rs.zipIdx k).map λp=>(p.2,p.1)) i=some r→k≤i∧∃v,vs[i-k]? =some v∧r.p Z v
 | _,[],[],k,_,i,r,h=>by simp[look] at h
 | Z,q::rs,v::vs,k,⟨h1,h2⟩,i,r,h=>by
  simp only[List.zipIdx_cons,QB] at h;rw[Bz] at h
  split at h
  ·rename_i e;subst e;simp at h;subst h;exact⟨Qx _,v,by simp,h1⟩
  ·rename_i e
   obtain⟨h3,u,h4,h5⟩:=Dy rs vs (k+1) h2 i r h;refine⟨by omega,u,?_,h5⟩;rw[show i-k=(i-(k+1))+1 from by omega];simpa using h4
def Ha (rs:List Rp):Fr:=(rs.zipIdx 0).map λp=>(p.2,p.1)
theorem enter {E:Fz→Prop}{f:FuncId}{fn:Func}{x:Code}{args:List Rp}{Hin:List Ent}{Φ:Rp→List Ent→Prop}(hf:P.funcs[f]? =some fn)(hb:fn.body=some x)(hn:fn.ntmps=n)(hle:Nat.ble args.length n=true)
  (h:∀w Z,WC P n ⟨w,Z,Hin.flatMap Ent.foot,E⟩ x (bodyPost P fn (PF ⟨w,Z,Hin.flatMap Ent.foot,E⟩ Φ)) (Ha args) Hin):Fn P E f args Hin Φ:=λw Z vs hv hs=>by
 have hle':args.length≤n:=by simpa using hle
 have hl:=hv.length;refine calls_of_wp hf hb (h w Z _ w Z ⟨?_,rfl,λi r hi=>?_⟩ hs)
 ·simp[hn];omega
 ·obtain⟨_,v,h1,h2⟩:=Dy args vs 0 hv i r hi;simp only[Nat.sub_zero] at h1;have hlt:i<vs.length:=(List.getElem?_eq_some_iff.1 h1).1;refine⟨v,?_,h2⟩;rw[Array.getElem?_append_left (by simpa using hlt)];simpa using h1
def Ot (P:Program)(n:Nat)(c:Cx)(l:Fr)(H:List Ent)(fn:Func)(r:Rp):Prop:=∀a w Z,BI n l a Z→St c H Z w→∃v,r.p Z v∧(results fn a.tmps).run P w = .ok v w
theorem A3 {fn:Func}{Φ:Rp→List Ent→Prop}{r:Rp}(hr:Ot P n c l H fn r){H2:List Ent}(hp:H2.Sublist H)(h:Φ r H2):WK n c (bodyPost P fn (PF c Φ) .ret) l H:=
 λa w Z ha hw=>by
  obtain⟨v,hv,he⟩:=hr a w Z ha hw;exact⟨ha.defers,v,he,r,v,H2,Z,rfl,h,hv,hw.sub hp⟩
theorem E5 {H2:List Ent}(hp:H.Perm H2)(h:WK n c K l H2):WK n c K l H:=λa w Z ha hw=>h a w Z ha (hw.perm hp)
def NE (P:Program)(a:Act):ResultVar→Sem Value
 | .tmp t=>pure (a.tmps.getD t undef)
 | .cell b t=>do loadVar t (← asAddr (a.tmps.getD b undef))
def RV (P:Program)(n:Nat)(c:Cx)(l:Fr)(H:List Ent)(x:ResultVar)(r:Rp):Prop:=∀a w Z,BI n l a Z→St c H Z w→∃v,r.p Z v∧(NE P a x).run P w = .ok v w
theorem AZ {i:Nat}{r:Rp}(h:look l i=some r):RV P n c l H (.tmp i) r:=λa w Z ha _=>by
 obtain⟨v,h1,h2⟩:=ha.tm i r h;exact⟨v,h2,by simp[NE,Array.getD_eq_getD_getElem?,h1]⟩
theorem ET (fn:Func)(a:Act):results fn a.tmps=(do
  let vs ← fn.results.mapM (NE P a)
  pure (if h:vs.size=1 then vs[0] else .tuple vs)):=by
 unfold results
 congr 1
theorem BF {fn:Func}{x:ResultVar}{r:Rp}(hr:fn.results = #[x])(h:RV P n c l H x r):Ot P n c l H fn r:=λa w Z ha hw=>by
 obtain⟨v,h1,h2⟩:=h a w Z ha hw;exact⟨v,h1,by simp[ET (P:=P),hr,h2]⟩
theorem PM {fn:Func}{x y:ResultVar}{r s:Rp}(hr:fn.results = #[x,y])(h:RV P n c l H x r)(h':RV P n c l H y s):Ot P n c l H fn (EV [r,s]):=λa w Z ha hw=>by
 obtain⟨v,h1,h2⟩:=h a w Z ha hw;obtain⟨u,h3,h4⟩:=h' a w Z ha hw;exact⟨.tuple #[v,u],⟨[v,u],rfl,h1,h3,trivial⟩,by simp[ET (P:=P),hr,h2,h4]⟩
theorem Pi {fn:Func}{x y z:ResultVar}{r s t:Rp}(hr:fn.results = #[x,y,z])(h:RV P n c l H x r)(h':RV P n c l H y s)(h'':RV P n c l H z t):Ot P n c l H fn (EV [r,s,t]):=λa w Z ha hw=>by
 obtain⟨v,h1,h2⟩:=h a w Z ha hw;obtain⟨u,h3,h4⟩:=h' a w Z ha hw;obtain⟨q,h5,h6⟩:=h'' a w Z ha hw;exact⟨.tuple #[v,u,q],⟨[v,u,q],rfl,h1,h3,h5,trivial⟩,by simp[ET (P:=P),hr,h2,h4,h6]⟩
theorem Bj {l':Fr}{H':List Ent}(hl:l=l')(hH:H=H')(h:WC P n c x Q l' H'):WC P n c x Q l H:=by subst hl;subst hH;exact h
theorem DD {l':Fr}{H':List Ent}(hl:l=l')(hH:H=H')(h:WK n c K l' H'):WK n c K l H:=by subst hl;subst hH;exact h
theorem OB {H':List Ent}(hH:H=H')(h:WL P n c ops Q rest l H'):WL P n c ops Q rest l H:=by subst hH;exact h
theorem DS {H':List Ent}(hH:H=H')(h:WK n c K l H'):WK n c K l H:=by subst hH;exact h
theorem KC {H2:List Ent}(hp:H.Perm H2)(h:WC P n c x Q l H2):WC P n c x Q l H:=λa w Z ha hw=>h a w Z ha (hw.perm hp)
def Pf (n:Nat)(c:Cx)(l:Fr)(H:List Ent):Act→World→Prop:=λa w=>∃Z,BI n l a Z∧St c H Z w
theorem AI (l1:Fr)(H1:List Ent)(h:WC P n c x (Exit.then (Pf n c l1 H1) Q) l H)(h2:WC P n c y Q l1 H1):WC P n c (x.seq y) Q l H:=λa w Z ha hw=>
 wp_seq (wp_mono (h a w Z ha hw) λe a w q=>by
  cases e with
  | normal=>obtain⟨Z,h3,h4⟩:=q;exact h2 a w Z h3 h4
  | _=>exact q)
theorem Bu {l1:Fr}{H1:List Ent}(hl:AM l1 l)(hH:H1.Sublist H):WK n c (Pf n c l1 H1) l H:=λ_ _ Z ha hw=>⟨Z,ha.sub hl,hw.sub hH⟩
def Oh (id:Nat)(K:Act→World→Prop)(Q:Exit→Act→World→Prop):Exit→Act→World→Prop
 | .exit i,a,w=>if i=id then K a w else Q (.exit i) a w
 | e,a,w=>Q e a w
theorem By {id:Nat}(h:WK n c K l H):WK n c (Oh id K Q (.exit id)) l H:=λa w Z ha hw=>by
 show if id=id then _ else _
 rw[if_pos rfl];exact h a w Z ha hw
theorem B1 {id:Nat}(h:WK n c (Q .ret) l H):WK n c (Oh id K Q .ret) l H:=h
theorem BL {S V:Type}(id:Nat)(inv:S→Prop)(fr:S→Fr)(hp:S→List Ent)(μ:S→Nat)(s0:S)(h0:inv s0)(hl:AM (fr s0) l)(hH:(hp s0).Sublist H)(iv:V→Prop)(fv:V→Fr)(hv:V→List Ent)
  (round:∀s,inv s→WC P n c x (Exit.then (Eh n c (λs'=>inv s'∧μ s'<μ s) fr hp) (Oh id (Eh n c iv fv hv) Q)) (fr s) (hp s)) (hexit:∀v,iv v→WK n c (Q (.exit id)) (fv v) (hv v)):WC P n c (.loop x) Q l H:=λa w Z ha hw=>
 wp_mono (Hk (Q:=Oh id (Eh n c iv fv hv) Q) inv fr hp μ s0 h0 hl hH round a w Z ha hw) λe a w q=>by
  cases e with
  | exit i=>
   by_cases hi:i=id
   ·subst hi;have q':if i=i then Eh n c iv fv hv a w else Q (.exit i) a w:=q
    rw[if_pos rfl] at q';obtain⟨v,Z,h1,h2,h3⟩:=q';exact hexit v h1 a w Z h2 h3
   ·have q':if i=id then Eh n c iv fv hv a w else Q (.exit i) a w:=q
    rw[QR hi] at q';exact q'
  | _=>exact q
theorem Mo {lb:Nat}(h:WK n c (Q .normal) l H):WC P n c (.label lb) Q l H:=λa w Z ha hw=>wp_label (h a w Z ha hw)
theorem Mn (h:WC P n c x (Exit.noGoto Q) l H):WC P n c (.scope x) Q l H:=λa w Z ha hw=>wp_scope_straight (h a w Z ha hw)
theorem Ge (h:WK n c (Q .ret) l H):WK n c (Exit.noGoto Q .ret) l H:=h
end
theorem II.of_old {P:Program}{E:Fz→Prop}{f:FuncId}{vs:List Value}{v:Value}(h:∀w Z,Ny Z w→E Z→Calls P f vs.toArray w (It w v)):II P E f (vs.map rv) (rv v):=λw Z us hu hs=>by
 rw[AB.eq_rv hu];refine(h w Z hs.frz hs.env).mono λe w' ⟨he,ht⟩=>⟨rv v,v,[],Z,he,⟨rfl,rfl⟩,rfl,⟨ht.os,ht.tape,ht.output,ht.size,ht.old,by simp,by simp,by simp,λb o hb=>?_,Fz.le.refl _,λ_ _ e=>.inl e,by simp,hs.env,hs.emono⟩⟩
 rw[ht.old b (hs.frz.lt hb) (by simp)];exact hs.frz b o hb
end Go.Proofs.YtkoiaconljdbeaaDoor.Q
namespace Go.Proofs.YtkoiaconljdbeaaDoor
open Go
set_option linter.unusedVariables false
abbrev Ai:=List UInt8
def Nu (s:Ai):Bool:=decide (s.length≤9223372036854775807)
def LZ (l:List UInt8):List Int:=l.map λc=>(c.toNat:Int)
def Ci (k:IntKind)(x:Int):Bool:=decide (k.min≤x)&&decide (x≤k.max)
def DB (i n:Int):Bool:=decide (0≤i)&&decide (i<n)
def JP (i n:Int):Bool:=decide (0≤i)&&decide (i≤n)
def Ob (b n:Nat):Bool:=decide (n*b≤140737488355328)
def imp (a b:Bool):Bool:=!a||b
def B9 {α:Type}(p:Bool)(x:Option α):Option α:=bif p then x else none
def BJ {α:Type}(p:Bool)(x y:Option α):Option α:=bif p then x else y
def Mc {α β:Type}(a:α)(k:α→Option β):Option β:=k a
def BK {α β:Type}(a:Option α)(k:α→Option β):Option β:=match a with
 | some x=>k x
 | none=>none
theorem G0 {x:Int}(h:Ci .i64 x=true) : -9223372036854775808≤x∧x≤9223372036854775807:=by simpa[Ci,IntKind.min,IntKind.max,IntKind.signed,IntKind.bits] using h
theorem Gz {x:Int}(h : -9223372036854775808≤x)(h':x≤9223372036854775807):Ci .i64 x=true:=by simpa[Ci,IntKind.min,IntKind.max,IntKind.signed,IntKind.bits] using And.intro h h'
theorem BC {i n:Int}(h:DB i n=true):0≤i∧i<n:=by simpa[DB] using h
theorem OV {i n:Int}(h:0≤i)(h':i<n):DB i n=true:=by simp[DB,h,h']
theorem CX {i n:Int}(h:JP i n=true):0≤i∧i≤n:=by simpa[JP] using h
theorem OW {i n:Int}(h:0≤i)(h':i≤n):JP i n=true:=by simp[JP,h,h']
def ov {α:Type}[Inhabited α](a:Option α):α:=a.getD default
section
variable {α β : Type} {p q : Bool} {x y : Option α} {r : α} {s : β}
theorem AK (h:B9 p x=some r):p=true∧x=some r:=by
 cases p
 ·cases h
 ·exact⟨rfl,h⟩
theorem AO (hp:p=true)(h:BJ p x y=some r):x=some r:=by subst hp;exact h
theorem AP (hp:p=false)(h:BJ p x y=some r):y=some r:=by subst hp;exact h
theorem IG {a:β}{k:β→Option α}(h:Mc a k=some r):∃b,b=a∧k b=some r:=⟨a,rfl,h⟩
theorem AR {a:Option β}{k:β→Option α}(h:BK a k=some r):∃b,a=some b∧k b=some r:=by
 cases a with
 | none=>cases h
 | some b=>exact⟨b,rfl,h⟩
theorem Iq [Inhabited β]{a:Option β}(h:a.isSome=true):a=some (ov a):=by
 cases a with
 | none=>cases h
 | some b=>rfl
theorem A8 {a b:α}(h:some a=some b):a=b:=by cases h;rfl
theorem BP (h:imp p q=true)(hp:p=true):q=true:=by subst hp;simpa[imp] using h
theorem Dz (h:imp (!p) q=true)(hp:p=false):q=true:=by subst hp;simpa[imp] using h
theorem BQ (h:p=true):B9 p x=x:=by subst h;rfl
theorem Bf (h:p=true):BJ p x y=x:=by subst h;rfl
theorem AL (h:p=false):BJ p x y=y:=by subst h;rfl
theorem AU {a:Option β}{k:β→Option α}{b:β}(h:a=some b):BK a k=k b:=by subst h;rfl
theorem Bi {e:Int}(h : -9223372036854775808≤e)(h':e≤9223372036854775807):B9 (Ci .i64 e) x=x:=BQ (Gz h h')
theorem B8 {i n:Int}(h:0≤i)(h':i<n):B9 (DB i n) x=x:=BQ (OV h h')
theorem G6 {i n:Int}(h:0≤i)(h':i≤n):B9 (JP i n) x=x:=BQ (OW h h')
end
inductive Out (R V:Type) where
 | ret (r:R)
 | go (v:V)
 deriving DecidableEq
inductive Stp (S O:Type) where
 | next (s:S)
 | out (o:O)
 deriving DecidableEq
def Dq {S O:Type}(body:S→Option (Stp S O)):Nat→S→Option O
 | 0,_=>none
 | n+1,s=>match body s with
  | none=>none
  | some (.next s')=>Dq body n s'
  | some (.out o)=>some o
def CE {R V:Type}(K:V→Option R):Out R V→Option R
 | .ret r=>some r
 | .go v=>K v
def Li {S O:Type}(body:S→Option (Stp S O))(m:Nat)(o:O):Stp S O→Prop
 | .next s'=>Dq body m s'=some o
 | .out o'=>o'=o
section
variable {S R V : Type} {body : S → Option (Stp S (Out R V))} {n m : Nat} {s s' : S} {o : Out R V} {t : Stp S (Out R V)} {K : V → Option R} {r q : R} {v : V}
theorem Ee {O:Type}{body:S→Option (Stp S O)}{o:O}(h:Dq body n s=some o):∃m,n=m+1∧∃t,body s=some t∧Li body m o t:=by
 cases n with
 | zero=>cases h
 | succ m=>
  refine⟨m,rfl,?_⟩;rw[Dq] at h
  cases hb:body s with
  | none=>rw[hb] at h;cases h
  | some t=>
   rw[hb] at h;refine⟨t,rfl,?_⟩
   cases t with
   | next s'=>exact h
   | out o'=>exact A8 h
theorem BN (h:some (Stp.next s')=some t)(ht:Li body m o t):Dq body m s'=some o:=by cases h;exact ht
theorem Dc (h:some (Stp.out (Out.go v))=some t)(ht:Li body m o t)(hK:CE K o=some r):K v=some r:=by
 cases h
 have e:Out.go v=o:=ht;subst e;exact hK
theorem Cw (h:some (Stp.out (Out.ret q))=some t)(ht:Li body m o t)(hK:CE K o=some r):some q=some r:=by
 cases h
 have e:Out.ret q=o:=ht;subst e;exact hK
theorem Di {O:Type}{body:S→Option (Stp S O)}(I:S→Prop)(μ:S→Nat)(Qo:O→Prop)(step:∀s,I s→(∃s',body s=some (.next s')∧I s'∧μ s'<μ s)∨∃o,body s=some (.out o)∧Qo o) :
  ∀(n:Nat) (s:S),I s→μ s<n→∃o,Dq body n s=some o∧Qo o
 | 0,s,_,h=>by omega
 | n+1,s,hi,h=>by
  rcases step s hi with⟨s',e,hi',hlt⟩ | ⟨o,e,ho⟩
  ·obtain⟨o,h1,h2⟩:=Di I μ Qo step n s' hi' (by omega);exact⟨o,by rw[Dq,e];exact h1,h2⟩
  ·exact⟨o,by rw[Dq,e],ho⟩
end
def Ak {α:Type}[Inhabited α](xs:List α)(i:Int):α:=(xs[i.toNat]?).getD default
theorem B7 {α:Type}{j:Int}{xs ys:List α}{k:Nat}{y:α}(h:DB j (xs.length:Int)=true)(e:ys=xs.set k y):DB j (ys.length:Int)=true:=by rw[e,List.length_set];exact h
abbrev Bg (a b:List UInt8):Bool:=Op.bytesLess a b
end Go.Proofs.YtkoiaconljdbeaaDoor
namespace Go.Proofs.YtkoiaconljdbeaaDoor.Q
open Go Go.RowKit
set_option linter.unusedVariables false
set_option linter.unusedSimpArgs false
theorem KB:∀{k:IntKind} {x:Int},Ci k x=true→k.wrap x=x
 | .i8,x,h=>IntWalk.i8_in x (by simpa[Ci,IntKind.min,IntKind.max,IntKind.signed,IntKind.bits] using h)
 | .i16,x,h=>IntWalk.i16_in x (by simpa[Ci,IntKind.min,IntKind.max,IntKind.signed,IntKind.bits] using h)
 | .i32,x,h=>IntWalk.i32_in x (by simpa[Ci,IntKind.min,IntKind.max,IntKind.signed,IntKind.bits] using h)
 | .i64,x,h=>IntWalk.i64_in x (by simpa[Ci,IntKind.min,IntKind.max,IntKind.signed,IntKind.bits] using h)
 | .u8,x,h=>IntWalk.u8_in x (by simpa[Ci,IntKind.min,IntKind.max,IntKind.signed,IntKind.bits] using h)
 | .u16,x,h=>IntWalk.u16_in x (by simpa[Ci,IntKind.min,IntKind.max,IntKind.signed,IntKind.bits] using h)
 | .u32,x,h=>IntWalk.u32_in x (by simpa[Ci,IntKind.min,IntKind.max,IntKind.signed,IntKind.bits] using h)
 | .u64,x,h=>IntWalk.u64_in x (by simpa[Ci,IntKind.min,IntKind.max,IntKind.signed,IntKind.bits] using h)
theorem C1 {P:Program}{Z:Fz}{v:Value}{f:Sem Next}{w:World}(h:f.run P w = .ok (.value v) w):∃u,(rv v).p Z u∧f.run P w = .ok (.value u) w:=⟨v,rfl,h⟩
section
variable {P : Program} {n : Nat} {c : Cx} {l : Fr} {H : List Ent} {d : Option Nat} {x y z3 : Operand} {ty t t' : TypeId} {pos : String} {af : Array Edge} {g : Option (Nat × Bool)} {v u : Value} {r : Rp}
theorem Aj (h:ev l x=some r):AS P n c l H { dst:=d,op:=.move x,type:=ty,pos:=pos,after:=af,guard:=g } r:=λa w Z ha _=>⟨a.eval x,ha.ev h,by simp[execOp]⟩
theorem An (h:ev l x=some r):AS P n c l H { dst:=d,op:=.assign x,type:=ty,pos:=pos,after:=af,guard:=g } r:=λa w Z ha _=>⟨a.eval x,ha.ev h,by simp[execOp]⟩
theorem Aq {b:Bool}(hc:ev l z3=some (rB b))(hb:b=true)(h:ev l x=some r):AS P n c l H { dst:=d,op:=.pick z3 x y,type:=ty,pos:=pos,after:=af,guard:=g } r:=λa w Z ha _=>⟨a.eval x,ha.ev h,by
 subst hb;simp[execOp,ha.eval hc,asBool]⟩
theorem Ay {b:Bool}(hc:ev l z3=some (rB b))(hb:b=false)(h:ev l y=some r):AS P n c l H { dst:=d,op:=.pick z3 x y,type:=ty,pos:=pos,after:=af,guard:=g } r:=λa w Z ha _=>⟨a.eval y,ha.ev h,by
 subst hb;simp[execOp,ha.eval hc,asBool]⟩
theorem Bm {rs:List Rp}{i:Nat}(h:ev l x=some (EV rs))(hi:rs[i]? =some r):AS P n c l H { dst:=d,op:=.extract x i,type:=ty,pos:=pos,after:=af,guard:=g } r:=λa w Z ha _=>by
 obtain⟨us,hu,hus⟩:=ha.ev h;obtain⟨v,hv,hp⟩:=hus.at hi;exact⟨v,hp,by simp[execOp,hu,Instr.extract,hv]⟩
theorem BX {b:Bool}(h:ev l x=some (rB b)):AS P n c l H { dst:=d,op:=.unOp .not t x,type:=ty,pos:=pos,after:=af,guard:=g } (rB (!b)):=λa w Z ha _=>C1<|by
 simp[execOp,ha.eval h,Op.unary]
section
variable {k : IntKind} {p q : Int} (hx : ev l x = some (rI k p)) (hy : ev l y = some (rI k q))
include hx hy
theorem Cc (hz:Ci k (p+q)=true):AS P n c l H { dst:=d,op:=.binOp .add t x y t',type:=ty,pos:=pos,after:=af,guard:=g } (rv (.int k (p+q))):=λa w Z ha _=>C1<|by
 simp[execOp,ha.eval hx,ha.eval hy,Bc,binOp,Op.intArith,KB hz]
theorem DK (hz:Ci k (p-q)=true):AS P n c l H { dst:=d,op:=.binOp .sub t x y t',type:=ty,pos:=pos,after:=af,guard:=g } (rv (.int k (p-q))):=λa w Z ha _=>C1<|by
 simp[execOp,ha.eval hx,ha.eval hy,Bc,binOp,Op.intArith,KB hz]
theorem Ku:AS P n c l H { dst:=d,op:=.binOp .add t x y t',type:=ty,pos:=pos,after:=af,guard:=g } (rI k (k.wrap (p+q))):=λa w Z ha _=>C1<|by
 simp[execOp,ha.eval hx,ha.eval hy,Bc,binOp,Op.intArith]
theorem MJ:AS P n c l H { dst:=d,op:=.binOp .sub t x y t',type:=ty,pos:=pos,after:=af,guard:=g } (rI k (k.wrap (p-q))):=λa w Z ha _=>C1<|by
 simp[execOp,ha.eval hx,ha.eval hy,Bc,binOp,Op.intArith]
theorem Dw:AS P n c l H { dst:=d,op:=.binOp .lss t x y t',type:=ty,pos:=pos,after:=af,guard:=g } (rv (.bool (decide (p<q)))):=λa w Z ha _=>C1<|by
 simp[execOp,ha.eval hx,ha.eval hy,Bc,binOp,Op.intCmp]
theorem EW:AS P n c l H { dst:=d,op:=.binOp .leq t x y t',type:=ty,pos:=pos,after:=af,guard:=g } (rv (.bool (decide (p≤q)))):=λa w Z ha _=>C1<|by
 simp[execOp,ha.eval hx,ha.eval hy,Bc,binOp,Op.intCmp]
theorem Dh:AS P n c l H { dst:=d,op:=.binOp .gtr t x y t',type:=ty,pos:=pos,after:=af,guard:=g } (rv (.bool (decide (q<p)))):=λa w Z ha _=>C1<|by
 simp[execOp,ha.eval hx,ha.eval hy,Bc,binOp,Op.intCmp]
theorem HR:AS P n c l H { dst:=d,op:=.binOp .geq t x y t',type:=ty,pos:=pos,after:=af,guard:=g } (rv (.bool (decide (q≤p)))):=λa w Z ha _=>C1<|by
 simp[execOp,ha.eval hx,ha.eval hy,Bc,binOp,Op.intCmp]
theorem B4:AS P n c l H { dst:=d,op:=.binOp .eql t x y t',type:=ty,pos:=pos,after:=af,guard:=g } (rv (.bool (decide (p=q)))):=λa w Z ha _=>C1<|by
 have e:(p ==q)=decide (p=q):=by rw[Q2];simp
 simp[execOp,ha.eval hx,ha.eval hy,Bc,binOp,Op.intCmp,e]
theorem D7:AS P n c l H { dst:=d,op:=.binOp .neq t x y t',type:=ty,pos:=pos,after:=af,guard:=g } (rv (.bool (!decide (p=q)))):=λa w Z ha _=>C1<|by
 have e:(p !=q) = !decide (p=q):=by rw[Q2];simp
 simp[execOp,ha.eval hx,ha.eval hy,Bc,binOp,Op.intCmp,e]
end
section
variable {p q : List UInt8} (hx : ev l x = some (rS p)) (hy : ev l y = some (rS q))
include hx hy
theorem MK:AS P n c l H { dst:=d,op:=.binOp .leq t x y t',type:=ty,pos:=pos,after:=af,guard:=g } (rv (.bool (Op.bytesLess p q||decide (p=q)))):=λa w Z ha _=>C1<|by
 have e:(p ==q)=decide (p=q):=by rw[Q2];simp
 simp[execOp,ha.eval hx,ha.eval hy,CA,binOp,Op.stringOp,Ch,e]
theorem HQ:AS P n c l H { dst:=d,op:=.binOp .eql t x y t',type:=ty,pos:=pos,after:=af,guard:=g } (rv (.bool (decide (p=q)))):=λa w Z ha _=>C1<|by
 have e:(p ==q)=decide (p=q):=by rw[Q2];simp
 simp[execOp,ha.eval hx,ha.eval hy,CA,binOp,Op.stringOp,Ch,e]
theorem I2:AS P n c l H { dst:=d,op:=.binOp .neq t x y t',type:=ty,pos:=pos,after:=af,guard:=g } (rv (.bool (!decide (p=q)))):=λa w Z ha _=>C1<|by
 have e:(p ==q)=decide (p=q):=by rw[Q2];simp
 simp[execOp,ha.eval hx,ha.eval hy,CA,binOp,Op.stringOp,Ch,e]
end
theorem I4 {p q:Bool}(ht:P.underlying t=some .bool)(hx:ev l x=some (rB p))(hy:ev l y=some (rB q)):AS P n c l H { dst:=d,op:=.binOp .neq t x y t',type:=ty,pos:=pos,after:=af,guard:=g } (rv (.bool (!(p ==q)))):=λa w Z ha _=>C1<|by
 have h1:∀dd:Nat,(Op.equalIn (dd+1) t (.bool p) (.bool q)).run P w = .ok (p ==q) w:=λdd=>by simp[Op.equalIn,run_underlying ht]
 have h2:(Op.equal t (.bool p) (.bool q)).run P w = .ok (p ==q) w:=h1 9999;simp only[execOp,ha.eval hx,ha.eval hy,Sem.run_bind,G2,Result.andThen_ok,binOp,h2,Sem.run_pure]
theorem BY {p:List UInt8}(ht:P.underlying t=some .string)(h:ev l x=some (rS p)):AS P n c l H { dst:=d,op:=.call { callee:=.builtin .len,args:=#[x],argTypes:=#[t] },type:=ty,pos:=pos,after:=af,guard:=g } (rv (.int .i64 p.length)):=λa w Z ha _=>C1<|by
 simp[execOp,resolve,invoke,builtin,ha.eval h,Builtin.len_,run_underlying ht,goInt,GR]
theorem GD {p:List UInt8}{k:IntKind}{i:Int}(ht:P.underlying t=some .string)(h:ev l x=some (rS p))(hi:ev l y=some (rI k i))(hg:DB i (p.length:Int)=true) :
  AS P n c l H { dst:=d,op:=.index t x y,type:=ty,pos:=pos,after:=af,guard:=g } (rI .u8 (Kd p i)):=λa w Z ha _=>C1<|by
 have h0:=(BC hg).1;have hl:i.toNat<p.length:=by have:=(BC hg).2;omega
 have hc:p[i.toNat]? =some p[i.toNat]:=Qk hl;have e:Kd p i=p[i.toNat].toNat:=by simp[Kd,hc]
 simp[execOp,ha.eval h,ha.eval hi,Instr.index,asIntOf,run_underlying ht,h0,O6,hc,e]
theorem NR {sz:Nat}{xs:List (List Rp)}{e:TypeId}(ht:P.underlying t=some (.slice e))(h:ev l x=some (AV sz xs)):AS P n c l H { dst:=d,op:=.call { callee:=.builtin .len,args:=#[x],argTypes:=#[t] },type:=ty,pos:=pos,after:=af,guard:=g } (rI .i64 xs.length):=λa w Z ha _=>by
 obtain⟨A,cap,e1,_⟩:=ha.ev h;exact C1<|by simp[execOp,resolve,invoke,builtin,e1,Builtin.len_,run_underlying ht,goInt]
end
end Go.Proofs.YtkoiaconljdbeaaDoor.Q
namespace Go.Proofs.YtkoiaconljdbeaaDoor
open Go Go.RowKit
set_option linter.unusedVariables false
def Nr (sz:Nat)(w:World)(v:Value)(vs:List (List Value)):Prop:=
 ∃A cap,v = .slice A vs.length cap∧vs.length≤cap∧(cap≤maxLen∧(A=none→cap=0))∧∀i c,vs[i]? =some c→c.length=sz∧∃a:Addr,A=some a∧a.spot=none∧a.block<w.heap.size∧∀j u,c[j]? =some u→w.cell? ⟨a.block,a.off+(i*sz+j),none⟩=some u
def PH (M:List Nat)(v:Value):Prop:=∀a n c,v = .slice (some a) n c→a.block ∉ M
theorem PH.nil (v:Value):PH [] v:=λ_ _ _ _=>by simp
theorem Nr.nil (sz:Nat)(w:World):Nr sz w (.slice none 0 0) []:=⟨none,0,rfl,Qx _,⟨by simp[maxLen],λ_=>rfl⟩,λi c h=>by simp at h⟩
theorem Nr.st {sz:Nat}{w0 w:World}{M:List Nat}{H:List Ent}{v:Value}{vs:List (List Value)}(h:Nr sz w0 v vs)(ho:PH M v)(hw:St w0 M H w):Nr sz w v vs:=by
 obtain⟨A,cap,rfl,hc,hm,hi⟩:=h;refine⟨A,cap,rfl,hc,hm,λi c hic=>?_⟩;obtain⟨hl,a,rfl,hs,hb,hcell⟩:=hi i c hic;refine⟨hl,a,rfl,hs,Nat.lt_of_lt_of_le hb hw.size,λj u hj=>?_⟩;have h1:w.cell? ⟨a.block,a.off+(i*sz+j),none⟩=w0.cell? ⟨a.block,a.off+(i*sz+j),none⟩:=World.cell?_of_block (hw.old a.block hb (ho a _ _ rfl));rw[h1];exact hcell j u hj
theorem Nr.st0 {sz:Nat}{w0 w:World}{H:List Ent}{v:Value}{vs:List (List Value)}(h:Nr sz w0 v vs)(hw:St w0 [] H w):Nr sz w v vs:=h.st (PH.nil _) hw
def flat (vs:List (List Value)):List Value:=vs.flatten
theorem Ld {sz:Nat}:∀{vs:List (List Value)} (hs:∀c∈vs,c.length=sz) {i:Nat} {c:List Value} (hi:vs[i]? =some c) {j:Nat} {u:Value} (hj:c[j]? =some u),(flat vs)[i*sz+j]? =some u
 | [],hs,i,c,hi,j,u,hj=>by simp at hi
 | x::r,hs,0,c,hi,j,u,hj=>by
  simp at hi;subst hi;simp only[flat,List.flatten_cons,Nat.zero_mul,QC];rw[List.getElem?_append_left (by have:=(List.getElem?_eq_some_iff.1 hj).1;exact this)];exact hj
 | x::r,hs,i+1,c,hi,j,u,hj=>by
  have hx:x.length=sz:=hs x (by simp);simp only[flat,List.flatten_cons];rw[List.getElem?_append_right (by rw[hx,Nat.succ_mul];omega)];have e:(i+1)*sz+j-x.length=i*sz+j:=by rw[hx,Nat.succ_mul];omega
  rw[e];exact Ld (vs:=r) (λc hc=>hs c (by simp[hc])) (by simpa using hi) hj
theorem Nr.of_row {sz:Nat}{w:World}{v:Value}{e:TypeId}{vs:List (List Value)}(h:(Ent.row v e sz vs.length (flat vs)).holds w)(hs:∀c∈vs,c.length=sz):Nr sz w v vs:=by
 obtain⟨hl,h2⟩:=h;rcases h2 with⟨rfl,hn⟩ | ⟨g,cap,cur,rfl,_,hg,hc,hm,hsz,htake⟩
 ·have:vs=[]:=Q3 hn;subst this;exact Nr.nil _ _
 ·refine⟨some ⟨g,0,none⟩,cap,rfl,hc,⟨hm,λh=>by cases h⟩,λi c hi=>⟨hs c (Qu hi),⟨g,0,none⟩,rfl,rfl,(Array.getElem?_eq_some_iff.1 hg).1,λj u hj=>?_⟩⟩;have h3:=Ld hs hi hj;rw[← htake,QE] at h3
  split at h3
  ·show w.cell? ⟨g,0+(i*sz+j),none⟩=_;rw[cell_of_row w g _ cur e (0,0) hg,QC];simpa using h3
  ·cases h3
def CC (sz:Nat)(v:Value)(i:Nat)(off:Nat):Value:=match v with
 | .slice (some a) _ _=>.pointer (some ⟨a.block,a.off+(i*sz+off),none⟩)
 | _=>undef
section
variable {P : Program} {n : Nat} {w0 : World} {M : List Nat} {ops : Array Oper} {Q : Exit → Act → World → Prop} {rest : List Oper} {l : Fr} {H H' : List Ent} {d : Option Nat} {x y c : Operand} {ty t t' e : TypeId} {pos : String} {af : Array Edge} {g : Option (Nat × Bool)} {v u : Value} {sz : Nat} {vs : List (List Value)}
theorem CG {d len:Nat}{parts:Array (Nat×Operand)}{cs:List Value}(ht:P.underlying t=some (.slice e))(hz:∀w,(sizeOf e).run P w = .ok sz w)
  (hrun:∀a w,BI n l a→(Instr.buildSlice t len (parts.map λ(i,x)=>(i,a.eval x))).run P w = .ok (.slice (some ⟨w.heap.size,0,none⟩) len len) (w.alloc (.cells cs.toArray e))) (hl:cs.length=len*sz) (hm:len≤maxLen) (hn:Nat.blt d n=true)
  (h:∀b,WL P n w0 M ops Q rest ((d,.slice (some ⟨b,0,none⟩) len len)::l) (.row (.slice (some ⟨b,0,none⟩) len len) e sz len cs::H)) :
  WL P n w0 M ops Q ({ dst:=some d,op:=.buildSlice t len parts,type:=ty,pos:=pos,after:=af,guard:=none }::rest) l H:=
 EQ (λa w ha hw=>by
  have hw2:=hw.alloc (.cells cs.toArray e);refine⟨_,w.alloc (.cells cs.toArray e),.row (.slice (some ⟨w.heap.size,0,none⟩) len len) e sz len cs::H,by simp[execOp,hrun a w ha],?_,h w.heap.size⟩;refine⟨hw2.os,hw2.tape,hw2.output,hw2.size,hw2.old,?_,?_,?_⟩
  ·intro en he;rcases List.mem_cons.1 he with rfl | he
   ·refine⟨hl,.inr ⟨w.heap.size,len,cs.toArray,rfl,QJ _,heap_alloc_new w _,Qx _,hm,by simpa using hl,?_⟩⟩;rw[← hl];simp
   ·exact hw2.has en (by simp[he])
  ·intro en he k hk;rcases List.mem_cons.1 he with rfl | he
   ·exact hw2.own (.blk w.heap.size (.cells cs.toArray e)) (by simp) k (by simpa[Ent.foot,Value.ownBlock] using hk)
   ·exact hw2.own en (by simp[he]) k hk
  ·have hd:=List.pairwise_cons.1 hw2.dis;refine List.pairwise_cons.2 ⟨λen he k hk=>hd.1 en he k (by simpa[Ent.foot,Value.ownBlock] using hk),hd.2⟩) hn
end
set_option linter.unusedSimpArgs false
section
variable {P : Program} {n : Nat} {w0 : World} {M : List Nat} {ops : Array Oper} {Q : Exit → Act → World → Prop} {rest : List Oper} {l : Fr} {H H' : List Ent} {x y : Operand} {ty t t' e : TypeId} {pos : String} {af : Array Edge} {g : Option (Nat × Bool)} {v u : Value} {i sz m : Nat} {xs : List Value}
theorem Dp {w:World}(h:(Ent.row v e sz m xs).holds w):xs.length=m*sz∧((v = .slice none 0 0∧m=0)∨∃b cap cur,v = .slice (some ⟨b,0,none⟩) m cap∧w.heap[b]? =some (.cells cur e (0,0))∧m≤cap∧cap≤maxLen∧cur.size=cap*sz∧cur.toList.take (m*sz)=xs):=by
 obtain⟨h1,h2⟩:=h;refine⟨h1,?_⟩;rcases h2 with h2 | ⟨b,cap,cur,e1,_,e2,e3,e4,e5,e6⟩
 ·exact .inl h2
 ·exact .inr ⟨b,cap,cur,e1,e2,e3,e4,e5,e6⟩
theorem Jz {w:World}{b c j:Nat}(h:(Ent.row (.slice (some ⟨b,0,none⟩) m c) e sz m xs).holds w)(hj:xs[j]? =some u):w.cell? ⟨b,j,none⟩=some u:=by
 obtain⟨h1,h2⟩:=Dp h;rcases h2 with⟨h2,_⟩ | ⟨b',cap,cur,e1,e2,_,_,_,e6⟩
 ·cases h2
 ·simp only[Value.slice.injEq,Option.some.injEq,Addr.mk.injEq,and_true,true_and] at e1;obtain⟨rfl,rfl⟩:=e1;rw[cell_of_row w b j cur e (0,0) e2];rw[← e6,QE] at hj
  split at hj
  ·simpa using hj
  ·cases hj
theorem KQ {d:Option Nat}(ht:P.underlying t=some (.slice e))(h:ev l x=some v)(hi:H[i]? =some (.row v e sz m xs)):AS P n w0 M l H { dst:=d,op:=.call { callee:=.builtin .len,args:=#[x],argTypes:=#[t] },type:=ty,pos:=pos,after:=af,guard:=g } (.int .i64 m):=λa w ha hw=>by
 obtain⟨_,h2⟩:=Dp (hw.ent hi);rcases h2 with⟨rfl,rfl⟩ | ⟨b,cap,cur,rfl,_⟩
 ·exact J9 (n:=n) (w0:=w0) (M:=M) (H:=H) ht h a w ha hw
 ·exact J9 (n:=n) (w0:=w0) (M:=M) (H:=H) ht h a w ha hw
theorem Dx {d:Option Nat}{k:IntKind}{j:Int}(ht:P.underlying t=some (.slice e))(hz:∀w,(sizeOf e).run P w = .ok sz w)(h:ev l x=some v)(hy:ev l y=some (.int k j))(hi:H[i]? =some (.row v e sz m xs))(h0:0≤j)(h1:j<m) :
  AS P n w0 M l H { dst:=d,op:=.indexAddr t x y,type:=ty,pos:=pos,after:=af,guard:=g } (CC sz v j.toNat 0):=λa w ha hw=>by
 obtain⟨_,h2⟩:=Dp (hw.ent hi);rcases h2 with⟨rfl,rfl⟩ | ⟨b,cap,cur,rfl,_⟩
 ·omega
 ·simp[execOp,ha.eval h,ha.eval hy,Instr.indexAt,asIntOf,run_underlying ht,h0,h1,hz,E0,CC]
theorem Dd {d:Option Nat}{j off:Nat}(hag:∀w,(isAgg t).run P w = .ok false w)(hx:ev l x=some (CC sz v j off))(hi:H[i]? =some (.row v e sz m xs))(hc:xs[j*sz+off]? =some u) :
  AS P n w0 M l H { dst:=d,op:=.load t x,type:=ty,pos:=pos,after:=af,guard:=g } u:=λa w ha hw=>by
 have hr:=hw.ent hi;obtain⟨h1,h2⟩:=Dp hr;rcases h2 with⟨rfl,rfl⟩ | ⟨b,cap,cur,rfl,_⟩
 ·have:xs=[]:=Q3 (by simpa using h1);subst this;simp at hc
 ·have hcell:=Jz hr hc;simp[execOp,ha.eval hx,CC,Instr.loadAt,Instr.sureAddr,loadVar,hag,hcell]
theorem G8 {j off:Nat}(hsz:∀w,(sizeOf t).run P w = .ok 1 w)(hx:ev l x=some (CC sz v j off))(hy:ev l y=some u)(hv:u.oneCell'=true)(hi:H[i]? =some (.row v e sz m xs))(hlt:j*sz+off<xs.length)
  (hH:H.set i (.row v e sz m (xs.set (j*sz+off) u))=H') (h:WL P n w0 M ops Q rest l H'):WL P n w0 M ops Q ({ dst:=none,op:=.store t x y,type:=ty,pos:=pos,after:=af,guard:=none }::rest) l H:=
 IL λa w ha hw=>by
  have hr:=hw.ent hi;obtain⟨h1,h2⟩:=Dp hr;rcases h2 with⟨rfl,rfl⟩ | ⟨b,cap,cur,rfl,hb,hc,hm,hcs,htk⟩
  ·have:xs=[]:=Q3 (by simpa using h1);subst this;simp at hlt
  ·have hlc:j*sz+off<cur.size:=by
    have:xs.length≤cur.toList.length:=by rw[← htk];simp;omega
    simp at this;omega
   have h3:=run_storeCells_at P b (j*sz+off) e [u] 0 cur w hb (by simp;omega) (by simpa using hv);have hcv:u.cells = #[u]:=by cases u<;>first | rfl | simp[Value.oneCell'] at hv
   have h4:(cur.toList.take (j*sz+off)++[u]++cur.toList.drop (j*sz+off+1)).toArray=cur.setIfInBounds (j*sz+off) u:=by
    apply Array.ext';simp[Array.toList_setIfInBounds,List.set_eq_take_append_cons_drop,hlc]
   simp only[Nat.add_zero,Qt,QS,QC] at h3;rw[h4] at h3;refine⟨w.setRow b (cur.setIfInBounds (j*sz+off) u),H',?_,?_,h⟩
   ·simp[execOp,ha.eval hx,ha.eval hy,CC,Instr.storeAt,Instr.sureAddr,storeVar,hsz,hcv,h3]
   ·subst hH;refine hw.set hi rfl rfl rfl (by simp[World.setRow]) (λk _ hk=>?_) ?_ (by simp[Ent.foot,Value.ownBlock])
    ·simp only[Ent.foot,Value.ownBlock,Option.mem_toList,Option.mem_def,Option.some.injEq] at hk;simp only[World.setRow,Array.getElem?_modify];rw[QR hk]
    ·refine⟨by simpa using h1,.inr ⟨b,cap,cur.setIfInBounds (j*sz+off) u,rfl,QJ _,setRow_heap w b cur _ e (0,0) hb,hc,hm,by simpa using hcs,?_⟩⟩;rw[← htk,Array.toList_setIfInBounds,List.take_set]
def Pe (sz:Nat)(w:World)(v:Value)(m:Nat)(ys:List Value):Prop:=
 ys.length=m*sz∧((v = .slice none 0 0∧m=0)∨∃ (a:Addr) (c:Nat),v = .slice (some a) m c∧∀j u,ys[j]? =some u→w.cell? (a.add j)=some u)
theorem Pe.of_row {w:World}(h:(Ent.row v e sz m xs).holds w):Pe sz w v m xs:=by
 obtain⟨h1,h2⟩:=Dp h;refine⟨h1,?_⟩;rcases h2 with⟨rfl,rfl⟩ | ⟨b,cap,cur,rfl,_⟩
 ·exact .inl ⟨rfl,rfl⟩
 ·refine .inr ⟨_,_,rfl,λj u hj=>?_⟩;rw[E0,QC];exact Jz h hj
theorem EK {w:World}{z:Value}{inf:TypeInfo}{bytes:Nat}{ys:List Value}{k:Nat}(ty:TypeId)(ht:P.underlying t=some (.slice e))(hinf:P.info? e=some inf)(hz:inf.zero=some z)(hsize:inf.size=sz)(hby:inf.bytes=bytes)(hzs:z.cells.size=sz)(hsz:0<sz)
  (hown:w.ownsRow 0 e sz v m xs) (hr:Pe sz w u k ys) (h1:∀y∈ys,y.oneCell'=true) (hb:(m+k)*bytes≤140737488355328) (ha:m+k≤maxLen) :
  ∃v' w',(Builtin.append_ #[t,t] ty #[v,u]).run P w = .ok v' w'∧w'.ownsRow 0 e sz v' (m+k) (xs++ys)∧w.grownBy w' v.ownBlock∧(v'.ownBlock=v.ownBlock∨∀b,v'.ownBlock=some b→w.heap.size≤b):=by
 obtain⟨hl,hr⟩:=hr;rcases hr with⟨rfl,rfl⟩ | ⟨a,c,rfl,hnews⟩
 ·have:ys=[]:=Q3 (by simpa using hl);subst this;exact⟨v,w,run_append_owned_none (w:=w) (base:=0) t ty e inf sz ht hinf v m xs hown,by simpa using hown,⟨rfl,rfl,rfl,Qx _,λ_ _ _=>rfl⟩,.inl rfl⟩
 ·rcases hown.2 with⟨rfl,rfl⟩ | ⟨b,cap,cur,rfl,_,hg,hnc,hcm,hcs,htake⟩
  ·have hx:xs=[]:=Q3 (by simpa using hown.1);subst hx;obtain⟨v',w',e1,e2,e3,_⟩:=run_append_own (P:=P) w w.heap.size t ty e inf z sz bytes ht hinf hz hsize hby hzs hsz (.slice none 0 0) 0 [] (World.ownsRow_nil w _ e sz) a k c ys hl hnews h1 ha hb (Qx _);refine⟨v',w',e1,?_,e3,.inr λb hb=>(e2.lt b hb).1⟩;refine⟨e2.1,?_⟩;rcases e2.2 with h | ⟨g,cap,cur,h,_,rest⟩
   ·exact .inl h
   ·exact .inr ⟨g,cap,cur,h,QJ _,rest⟩
  ·by_cases hroom:m+k≤cap
   ·obtain⟨w',e1,e2,e3⟩:=run_append_fits (P:=P) w 0 t ty e inf sz ht hinf hsize b m cap xs hown a k c ys hl hnews h1 hroom;exact⟨_,w',e1,e2,e3,.inl rfl⟩
   ·subst hsize hby;have holds:∀j u,xs[j]? =some u→w.cell? ((⟨b,0,none⟩:Addr).add j)=some u:=hown.cells (g:=b) rfl;have hs:m+k≤9223372036854775807:=by simp only[maxLen] at ha;omega
    have e1:=run_append_grow (P:=P) w t ty e inf z ht hinf hz ⟨b,0,none⟩ m cap xs hown.1 holds a k c ys hl hnews (by omega) (by omega) (growslice_fits (by omega) hb);have hge:=grownCap_ge w (m+k) cap e;have hcm:=grownCap_le_maxLen w (m+k) cap e ha;have hlen:(xs++ys).length=(m+k)*inf.size:=by rw[Qy,hown.1,hl,Nat.add_mul]
    refine⟨_,_,e1,⟨hlen,.inr ⟨w.heap.size,_,_,rfl,QJ _,heap_alloc_new w.drew _,hge,hcm,?_,?_⟩⟩,⟨rfl,rfl,rfl,by simp,λq hq _=>Below.heap_alloc w.drew _ q hq⟩,.inr λb hb=>?_⟩
    ·simp only[Array.size_append,List.size_toArray,size_zeroCells,hzs,hown.1,hl,← Nat.add_mul]
     congr 1
     omega
    ·simp only[Array.toList_append,QP];rw[← QP,← hlen];exact List.take_left
    ·simp[Value.ownBlock] at hb;omega
theorem Gf {d:Nat}{z:Value}{inf:TypeInfo}{bytes:Nat}{ys:List Value}{k:Nat}(ht:P.underlying t=some (.slice e))(hinf:P.info? e=some inf)(hz:inf.zero=some z)(hsize:inf.size=sz)(hby:inf.bytes=bytes)(hzs:z.cells.size=sz)(hsz:0<sz)
  (hx:ev l x=some v) (hy:ev l y=some u) (hi:H[i]? =some (.row v e sz m xs)) (hr:∀w,St w0 M H w→Pe sz w u k ys) (h1:ys.all (·.oneCell')=true) (hb:(m+k)*bytes≤140737488355328) (hd:m+k≤maxLen) (hn:Nat.blt d n=true)
  (h:∀v',WL P n w0 M ops Q rest ((d,v')::l) (.row v' e sz (m+k) (xs++ys)::H.eraseIdx i)) :
  WL P n w0 M ops Q ({ dst:=some d,op:=.call { callee:=.builtin .append,args:=#[x,y],argTypes:=#[t,t] },type:=ty,pos:=pos,after:=af,guard:=none }::rest) l H:=λa w ha hw=>by
 have hent:=hw.ent hi;have hbase:(0:Nat)≤w.heap.size:=QJ _;have hin:St w0 M ([.row v e sz m xs]++H.eraseIdx i) w:=hw.front hi;have fin:∀v' w',w'.ownsRow 0 e sz v' (m+k) (xs++ys)→(v'.ownBlock=v.ownBlock∨∀b,v'.ownBlock=some b→w.heap.size≤b)→w.grownBy w' v.ownBlock→wpList P ops Q rest (a.put (some d) v') w':=λv' w' ho hbk hg=>by
  refine h v' _ w' (ha.put hn v') ?_;refine St.call (Hin:=[.row v e sz m xs]) (Hout:=[.row v' e sz (m+k) (xs++ys)]) (M2:=(Ent.row v e sz m xs).foot) hin ⟨hg.os,hg.tape,hg.output,hg.size,λq hq hne=>hg.block q hq (λe1=>hne ?_),?_,?_,by simp⟩ (λq hq=>⟨_,by simp,hq⟩)
  ·simp[Ent.foot,← e1]
  ·intro en he;simp only[Q1] at he;subst he;exact ho
  ·intro en he q hq;simp only[Q1] at he;subst he;simp only[Ent.foot,Option.mem_toList] at hq ⊢;rcases hbk with hbk | hbk
   ·exact .inr (hbk▸hq)
   ·exact .inl (hbk q hq)
 obtain⟨v',w',e1,e2,e3,e4⟩:=EK (P:=P) ty ht hinf hz hsize hby hzs hsz hent (hr w hw) (λy hy=>List.all_eq_true.1 h1 y hy) hb hd;refine wpList_plain rfl λK hK=>?_;unfold Oper.wp;simp[execOp,resolve,invoke,builtin,ha.eval hx,ha.eval hy,e1,Result.andThen];exact hK _ _ (fin v' w' e2 e4 e3)
end
end Go.Proofs.YtkoiaconljdbeaaDoor
namespace Go.Proofs.YtkoiaconljdbeaaDoor.Q
open Go Go.RowKit
set_option linter.unusedVariables false
set_option linter.unusedSimpArgs false
def Qf (cs:List Rp)(Z:Fz)(v:Value):Prop:=∃b o,v = .pointer (some ⟨b,o,none⟩)∧∀j r,cs[j]? =some r→∃u,DZ Z b (o+j)=some u∧r.p Z u
def D3 (cs:List Rp):Rp:=⟨Qf cs,λh ⟨b,o,e,hc⟩=>⟨b,o,e,λj r hj=>let ⟨u,hu,hr⟩:=hc j r hj;⟨u,H0 h hu,r.mono h hr⟩⟩,true,λ_ Z v ⟨b,o,e,_⟩=>by rw[e];rfl⟩
def K8 (H:List Ent)(r:Rp):Prop:=∀(c:Cx) Z w v,St c H Z w→r.p Z v→v.oneCell'=true
theorem BW {H:List Ent}{r:Rp}(h:r.one=true):K8 H r:=λ_ Z _ v _ hp=>r.hone h Z v hp
theorem NM {H:List Ent}{i:Nat}{v:Value}{e:TypeId}{sz:Nat}{xs:List (List Rp)}(hi:H[i]? =some (.row v e sz xs)):K8 H (rv v):=λc Z w u hw hp=>by
 obtain⟨_,us,⟨_,h2⟩,_⟩:=hw.ent hi;rw[show u=v from hp];rcases h2 with⟨rfl,_⟩ | ⟨b,cap,cur,rfl,_⟩<;>rfl
def B5 (H:List Ent):List Rp→Prop
 | []=>True
 | r::rs=>K8 H r∧B5 H rs
theorem B5.c {H:List Ent}:∀{rs:List Rp},rs.all (·.one)=true→B5 H rs
 | [],_=>trivial
 | r::rs,h=>by simp only[List.all_cons,Qm] at h;exact⟨BW h.1,B5.c h.2⟩
theorem B5.at {H:List Ent}{c:Cx}{Z:Fz}{w:World}(hw:St c H Z w):∀{rs:List Rp} {vs:List Value},B5 H rs→AB Z rs vs→∀v∈vs,v.oneCell'=true
 | [],[],_,_,_,h=>by simp at h
 | r::rs,v::vs,⟨h1,h2⟩,⟨h3,h4⟩,u,h=>by
  rcases List.mem_cons.1 h with rfl | h
  ·exact h1 c Z w _ hw h3
  ·exact h2.at hw h4 u h
section
variable {P : Program} {n : Nat} {c : Cx} {ops : Array Oper} {Q : Exit → Act → World → Prop} {rest : List Oper} {l : Fr} {H H' : List Ent} {d : Nat} {d' : Option Nat} {x y : Operand} {ty t t' e : TypeId} {pos : String} {af : Array Edge} {g : Option (Nat × Bool)} {v u : Value} {r : Rp} {sz : Nat}
theorem AB.rvs (Z:Fz):∀us:List Value,AB Z (us.map rv) us
 | []=>trivial
 | u::us=>⟨rfl,AB.rvs Z us⟩
theorem CH {z:Value}{cs:List Rp}(hz:∀w,(zeroValue e).run P w = .ok z w)(hcs:z.cells.toList.map rv=cs)(hn:Nat.blt d n=true)
  (h:∀b,WL P n c ops Q rest ((d,rv (.pointer (some ⟨b,0,none⟩)))::l) (.blk b cs e::H)) :
  WL P n c ops Q ({ dst:=some d,op:=.alloc e,type:=ty,pos:=pos,after:=af,guard:=none }::rest) l H:=
 EQ (λa w Z ha hw=>⟨_,w.alloc (.cells z.cells e),_,_,Z,by simp[execOp,Instr.alloc,hz,newVar,newRow,newObj,Sem.run,Sem.run_bind],Fz.le.refl _,rfl,
  hw.alloc _ (e:=.blk w.heap.size cs e) ⟨z.cells.toList,by simpa using heap_alloc_new w _,by subst hcs;exact AB.rvs Z _⟩ rfl,h w.heap.size⟩) hn
theorem BM {cs:List Rp}(hx:ev l x=some (Bh cs))(hn:Nat.blt d n=true)
  (h:∀b,WL P n c ops Q rest ((d,rv (.pointer (some ⟨b,0,none⟩)))::l) (.blk b cs e::H)) :
  WL P n c ops Q ({ dst:=some d,op:=.box e x,type:=ty,pos:=pos,after:=af,guard:=none }::rest) l H:=
 EQ (λa w Z ha hw=>by
  obtain⟨us,e1,hu⟩:=ha.ev hx;exact⟨_,w.alloc (.cells us.toArray e),_,_,Z,by simp[execOp,e1,Instr.box,newVar,newRow,newObj,Sem.run,Value.cells],Fz.le.refl _,rfl,
   hw.alloc _ (e:=.blk w.heap.size cs e) ⟨us,by simpa using heap_alloc_new w _,hu⟩ rfl,h w.heap.size⟩) hn
theorem B0 {v:Value}(h:v.oneCell'=true):v.cells = #[v]:=by cases v<;>first | rfl | simp[Value.oneCell'] at h
theorem Oz {r:Rp}(hx:ev l x=some r)(ho:K8 H r)(hn:Nat.blt d n=true)
  (h:∀b,WL P n c ops Q rest ((d,rv (.pointer (some ⟨b,0,none⟩)))::l) (.blk b [r] e::H)) :
  WL P n c ops Q ({ dst:=some d,op:=.box e x,type:=ty,pos:=pos,after:=af,guard:=none }::rest) l H:=
 EQ (λa w Z ha hw=>by
  have hr:=ha.ev hx;have hc:=B0 (ho c Z w _ hw hr);exact⟨_,w.alloc (.cells #[a.eval x] e),_,_,Z,by simp[execOp,Instr.box,newVar,newRow,newObj,Sem.run,hc],Fz.le.refl _,rfl,
   hw.alloc _ (e:=.blk w.heap.size [r] e) ⟨[a.eval x],by simpa using heap_alloc_new w _,hr,trivial⟩ rfl,h w.heap.size⟩) hn
theorem Az {i b off:Nat}{cs:List Rp}(hag:∀w,(isAgg t).run P w = .ok false w)(hx:ev l x=some (rv (.pointer (some ⟨b,off,none⟩))))(hi:H[i]? =some (.blk b cs e))(hc:cs[off]? =some r) :
  AS P n c l H { dst:=d',op:=.load t x,type:=ty,pos:=pos,after:=af,guard:=g } r:=λa w Z ha hw=>by
 obtain⟨us,h1,h2⟩:=hw.ent hi;obtain⟨u,hu,hp⟩:=h2.at hc;have hcell:w.cell? ⟨b,off,none⟩=some u:=by rw[cell_of_row w b off _ e (0,0) h1];simpa using hu
 exact⟨u,hp,by simp[execOp,ha.eval hx,Instr.loadAt,Instr.sureAddr,loadVar,hag,hcell]⟩
theorem Bo {i b off:Nat}{cs r:List Rp}(hag:∀w,(isAgg t).run P w = .ok true w)(hsz:∀w,(sizeOf t).run P w = .ok sz w)
  (hx:ev l x=some (rv (.pointer (some ⟨b,off,none⟩)))) (hi:H[i]? =some (.blk b cs e)) (hr:(cs.drop off).take sz=r) (hl:r.length=sz) :
  AS P n c l H { dst:=d',op:=.load t x,type:=ty,pos:=pos,after:=af,guard:=g } (Bh r):=λa w Z ha hw=>by
 obtain⟨us,h1,h2⟩:=hw.ent hi;have h3:=(h2.drop off).take sz;rw[hr] at h3;have hlen:=h3.length;have h4:=run_loadCells_list (P:=P) w ⟨b,off,none⟩ ((us.drop off).take sz) (λj u hj=>by
  rw[E0,cell_of_row w b _ _ e (0,0) h1];rw[QE] at hj
  split at hj
  ·simpa using hj
  ·cases hj)
 rw[hlen,hl] at h4;exact⟨.agg ((us.drop off).take sz).toArray,⟨_,rfl,h3⟩,by simp[execOp,ha.eval hx,Instr.loadAt,Instr.sureAddr,loadVar,hag,hsz,h4]⟩
theorem Bn {cs:List Rp}(hag:∀w,(isAgg t).run P w = .ok false w)(hx:ev l x=some (D3 cs))(hc:cs[0]? =some r) :
  AS P n c l H { dst:=d',op:=.load t x,type:=ty,pos:=pos,after:=af,guard:=g } r:=λa w Z ha hw=>by
 obtain⟨b,o,e1,hcs⟩:=ha.ev hx;obtain⟨u,hu,hp⟩:=hcs 0 r hc;have hcell:=EP hw.frz hu;rw[Nat.add_zero] at hcell;exact⟨u,hp,by simp[execOp,e1,Instr.loadAt,Instr.sureAddr,loadVar,hag,hcell]⟩
theorem GO {Z:Fz}:∀{cs:List Rp} {f:Nat→Option Value},(∀j r,cs[j]? =some r→∃u,f j=some u∧r.p Z u)→∃us:List Value,AB Z cs us∧∀(j:Nat) u,us[j]? =some u→f j=some u
 | [],f,_=>⟨[],trivial,by simp⟩
 | r::rs,f,h=>by
  obtain⟨u,hu,hp⟩:=h 0 r rfl;obtain⟨us,h1,h2⟩:=GO (cs:=rs) (f:=λj=>f (j+1)) (λj r' hj=>h (j+1) r' (by simpa using hj));refine⟨u::us,⟨hp,h1⟩,λj u' hj=>?_⟩
  cases j with
  | zero=>simp at hj;subst hj;exact hu
  | succ j=>exact h2 j u' (by simpa using hj)
theorem C6 {cs r:List Rp}(hag:∀w,(isAgg t).run P w = .ok true w)(hsz:∀w,(sizeOf t).run P w = .ok sz w)(hx:ev l x=some (D3 cs))(hr:cs.take sz=r)(hl:r.length=sz) :
  AS P n c l H { dst:=d',op:=.load t x,type:=ty,pos:=pos,after:=af,guard:=g } (Bh r):=λa w Z ha hw=>by
 obtain⟨b,o,e1,hcs⟩:=ha.ev hx;obtain⟨us,h1,h2⟩:=GO (cs:=r) (f:=λj=>DZ Z b (o+j)) (λj q hj=>hcs j q (by
  subst hr;rw[QE] at hj
  split at hj
  ·exact hj
  ·cases hj))
 have h4:=run_loadCells_list (P:=P) w ⟨b,o,none⟩ us (λj u hj=>by rw[E0];exact EP hw.frz (h2 j u hj));rw[h1.length,hl] at h4;exact⟨.agg us.toArray,⟨_,rfl,h1⟩,by simp[execOp,e1,Instr.loadAt,Instr.sureAddr,loadVar,hag,hsz,h4]⟩
theorem Cv {i b off:Nat}{cs:List Rp}(hag:∀w,(sizeOf t).run P w = .ok 1 w)(hx:ev l x=some (rv (.pointer (some ⟨b,off,none⟩))))(hy:ev l y=some r)(hv:K8 H r)
  (hi:H[i]? =some (.blk b cs e)) (hlt:Nat.blt off cs.length=true) {cs':List Rp} (hcs:cs.set off r=cs') (hH:H.set i (.blk b cs' e)=H')
  (h:WL P n c ops Q rest l H'):WL P n c ops Q ({ dst:=none,op:=.store t x y,type:=ty,pos:=pos,after:=af,guard:=none }::rest) l H:=
 IL λa w Z ha hw=>by
  obtain⟨us,hb,h2⟩:=hw.ent hi;have hr:=ha.ev hy;have hone:=hv c Z w _ hw hr;have hlen:=h2.length;have hlt':off<us.length:=by rw[hlen];simpa using hlt
  have h1:=run_storeCells_at P b off e [a.eval y] 0 us.toArray w hb (by simp;omega) (by simpa using hone);have hcv:=B0 hone;have h3:us.take off++[a.eval y]++us.drop (off+1)=us.set off (a.eval y):=by
   simp[List.set_eq_take_append_cons_drop,hlt']
  simp only[Nat.add_zero,Qt,QS,QC] at h1;rw[h3] at h1;refine⟨w.setRow b (us.set off (a.eval y)).toArray,H',?_,?_,h⟩
  ·simp[execOp,ha.eval hx,Instr.storeAt,Instr.sureAddr,storeVar,hag,hcv,h1]
  ·subst hH;subst hcs;refine hw.set hi rfl rfl rfl (by simp[World.setRow]) (λk _ hk=>?_) ⟨us.set off (a.eval y),setRow_heap w b _ _ e (0,0) hb,h2.set off hr⟩ (by simp[Ent.foot]);simp only[Ent.foot,Q1] at hk;simp only[World.setRow,Array.getElem?_modify];rw[QR (λe=>hk e.symm)]
theorem BA {i b off:Nat}{cs rs:List Rp}(hsz:∀w,(sizeOf t).run P w = .ok sz w)(hx:ev l x=some (rv (.pointer (some ⟨b,off,none⟩))))(hy:ev l y=some (Bh rs))
  (hl:rs.length=sz) (hv:B5 H rs) (hi:H[i]? =some (.blk b cs e)) (hlt:Nat.ble (off+sz) cs.length=true) {cs':List Rp}
  (hcs:cs.take off++rs++cs.drop (off+sz)=cs') (hH:H.set i (.blk b cs' e)=H')
  (h:WL P n c ops Q rest l H'):WL P n c ops Q ({ dst:=none,op:=.store t x y,type:=ty,pos:=pos,after:=af,guard:=none }::rest) l H:=
 IL λa w Z ha hw=>by
  obtain⟨us,hb,h2⟩:=hw.ent hi;obtain⟨vs,e1,h4⟩:=ha.ev hy;have hlen:=h2.length;have hvl:=h4.length;have hlt':off+sz≤us.length:=by rw[hlen];simpa using hlt
  have h1:=run_storeCells_at P b off e vs 0 us.toArray w hb (by simp;omega) (λv hv'=>hv.at hw h4 v hv');simp only[Nat.add_zero] at h1;refine⟨w.setRow b (us.take off++vs++us.drop (off+sz)).toArray,H',?_,?_,h⟩
  ·have h5:vs.length=sz:=by omega
   rw[h5] at h1;simp only[QP] at h1 ⊢;simp[execOp,ha.eval hx,e1,Instr.storeAt,Instr.sureAddr,storeVar,hsz,Value.cells,h5,h1]
  ·subst hH;subst hcs;refine hw.set hi rfl rfl rfl (by simp[World.setRow]) (λk _ hk=>?_) ⟨us.take off++vs++us.drop (off+sz),setRow_heap w b _ _ e (0,0) hb,((h2.take off).append h4).append (h2.drop (off+sz))⟩ (by simp[Ent.foot]);simp only[Ent.foot,Q1] at hk;simp only[World.setRow,Array.getElem?_modify];rw[QR (λe=>hk e.symm)]
theorem B2 {p:Addr}(hx:ev l x=some (rv (.pointer (some p)))):AS P n c l H { dst:=d',op:=.nilCheck x,type:=ty,pos:=pos,after:=af,guard:=g } (rv (.pointer (some p))):=λa w Z ha hw=>C1<|by
 simp[execOp,ha.eval hx]
theorem Af {b off off' i:Nat}{fs:Array Field}{f:Field}(hu:P.underlying t=some (.struct fs))(hf:fs[i]? =some f)(hsz:∀w,(sizeOf f.type).run P w = .ok (sz+1) w)
  (hx:ev l x=some (rv (.pointer (some ⟨b,off,none⟩)))) (ho:off+f.offset=off'):AS P n c l H { dst:=d',op:=.fieldAddr t x i,type:=ty,pos:=pos,after:=af,guard:=g } (rv (.pointer (some ⟨b,off',none⟩))):=λa w Z ha hw=>C1<|by
 subst ho;simp[execOp,ha.eval hx,Instr.fieldAt,run_underlying hu,hf,Instr.sureAddr,fieldPlace,hsz,E0]
theorem AH {i:Nat}{cs cs':List Rp}{fs:Array Field}{f:Field}(hu:P.underlying t=some (.struct fs))(hf:fs[i]? =some f)(hsz:∀w,(sizeOf f.type).run P w = .ok (sz+1) w)
  (hx:ev l x=some (D3 cs)) (ho:cs.drop f.offset=cs'):AS P n c l H { dst:=d',op:=.fieldAddr t x i,type:=ty,pos:=pos,after:=af,guard:=g } (D3 cs'):=λa w Z ha hw=>by
 subst ho;obtain⟨b,o,e1,hcs⟩:=ha.ev hx;refine⟨.pointer (some ⟨b,o+f.offset,none⟩),⟨b,o+f.offset,rfl,λj r hj=>?_⟩,by simp[execOp,e1,Instr.fieldAt,run_underlying hu,hf,Instr.sureAddr,fieldPlace,hsz,E0]⟩;obtain⟨u,hu,hr⟩:=hcs (f.offset+j) r (by simpa using hj);exact⟨u,by rw[Nat.add_assoc];exact hu,hr⟩
theorem Bt {α:Type}[Inhabited α]{ys:List α}{enc:α→List Rp}{k:IntKind}{i:Int}(ht:P.underlying t=some (.slice e))(hz:∀w,(sizeOf e).run P w = .ok sz w)(h:ev l x=some (AV sz (ys.map enc)))(hi:ev l y=some (rI k i))(hg:DB i (ys.length:Int)=true) :
  AS P n c l H { dst:=d',op:=.indexAddr t x y,type:=ty,pos:=pos,after:=af,guard:=g } (D3 (enc (Ak ys i))):=λa w Z ha hw=>by
 obtain⟨A,cap,e1,_,_,_,hc⟩:=ha.ev h;have h0:=(BC hg).1;have h1:i.toNat<ys.length:=by have:=(BC hg).2;omega
 have hlt:i<(ys.length:Int):=(BC hg).2;obtain⟨hl,ad,rfl,hs,hcs⟩:=hc i.toNat (enc ys[i.toNat]) (by simp[h1]);obtain⟨b,off,spot⟩:=ad;simp only at hs;subst hs;have eat:Ak ys i=ys[i.toNat]:=by simp[Ak,h1]
 refine⟨.pointer (some ⟨b,off+i.toNat*sz,none⟩),⟨b,off+i.toNat*sz,rfl,λj r hj=>?_⟩,?_⟩
 ·obtain⟨u,hu,hr⟩:=hcs j r (by rw[← eat];exact hj);exact⟨u,by rw[Nat.add_assoc];exact hu,hr⟩
 ·simp only[Qs] at e1;simp[execOp,e1,ha.eval hi,Instr.indexAt,asIntOf,run_underlying ht,h0,hlt,hz,E0]
theorem WL.nilrow {e:TypeId}{sz:Nat}(h:WL P n c ops Q rest l (.row (.slice none 0 0) e sz []::H)):WL P n c ops Q rest l H:=λa w Z ha hw=>
 h a w Z ha (hw.add rfl rfl rfl (Qx _) (λ_ _=>rfl) ⟨by simp,[],⟨by simp,.inl ⟨rfl,rfl⟩⟩,trivial⟩ (by simp[Ent.foot,Value.ownBlock]))
theorem WC.nilrow {xx:Code}{e:TypeId}{sz:Nat}(h:WC P n c xx Q l (.row (.slice none 0 0) e sz []::H)):WC P n c xx Q l H:=λa w Z ha hw=>
 h a w Z ha (hw.add rfl rfl rfl (Qx _) (λ_ _=>rfl) ⟨by simp,[],⟨by simp,.inl ⟨rfl,rfl⟩⟩,trivial⟩ (by simp[Ent.foot,Value.ownBlock]))
theorem WK.nilrow {K:Act→World→Prop}{e:TypeId}{sz:Nat}(h:WK n c K l (.row (.slice none 0 0) e sz []::H)):WK n c K l H:=λa w Z ha hw=>
 h a w Z ha (hw.add rfl rfl rfl (Qx _) (λ_ _=>rfl) ⟨by simp,[],⟨by simp,.inl ⟨rfl,rfl⟩⟩,trivial⟩ (by simp[Ent.foot,Value.ownBlock]))
theorem KQ {i:Nat}{xs:List (List Rp)}(ht:P.underlying t=some (.slice e))(h:ev l x=some (rv v)){e':TypeId}(hi:H[i]? =some (.row v e' sz xs)):AS P n c l H { dst:=d',op:=.call { callee:=.builtin .len,args:=#[x],argTypes:=#[t] },type:=ty,pos:=pos,after:=af,guard:=g } (rI .i64 xs.length):=λa w Z ha hw=>C1<|by
 obtain⟨_,us,⟨_,h2⟩,_⟩:=hw.ent hi;rcases h2 with⟨rfl,hz⟩ | ⟨b,cap,cur,rfl,_⟩
 ·simp[execOp,resolve,invoke,builtin,ha.eval h,Builtin.len_,run_underlying ht,goInt,hz]
 ·simp[execOp,resolve,invoke,builtin,ha.eval h,Builtin.len_,run_underlying ht,goInt]
theorem Dx {i:Nat}{k:IntKind}{j:Int}{xs:List (List Rp)}(ht:P.underlying t=some (.slice e))(hz:∀w,(sizeOf e).run P w = .ok sz w)(h:ev l x=some (rv v))(hy:ev l y=some (rI k j)){e':TypeId}(hi:H[i]? =some (.row v e' sz xs))(hg:DB j (xs.length:Int)=true) :
  AS P n c l H { dst:=d',op:=.indexAddr t x y,type:=ty,pos:=pos,after:=af,guard:=g } (rv (CC sz v j.toNat 0)):=λa w Z ha hw=>C1<|by
 obtain⟨_,us,⟨_,h2⟩,_⟩:=hw.ent hi;have h0:=(BC hg).1;have h1:=(BC hg).2;rcases h2 with⟨rfl,hz⟩ | ⟨b,cap,cur,rfl,_⟩
 ·omega
 ·simp[execOp,ha.eval h,ha.eval hy,Instr.indexAt,asIntOf,run_underlying ht,h0,h1,hz,E0,CC]
theorem Dd {α:Type}[Inhabited α]{ys:List α}{enc:α→List Rp}{i off:Nat}{j:Int}(hag:∀w,(isAgg t).run P w = .ok false w)(hx:ev l x=some (rv (CC sz v j.toNat off)))(hi:H[i]? =some (.row v e sz (ys.map enc)))(hg:DB j (ys.length:Int)=true)(hc:(enc (Ak ys j))[off]? =some r) :
  AS P n c l H { dst:=d',op:=.load t x,type:=ty,pos:=pos,after:=af,guard:=g } r:=λa w Z ha hw=>by
 obtain⟨hs,us,⟨h1,h2⟩,h3⟩:=hw.ent hi;have h0:=(BC hg).1;have hlt:j.toNat<ys.length:=by have:=(BC hg).2;omega
 have eat:Ak ys j=ys[j.toNat]:=by simp[Ak,hlt]
 have hfl:=DO hs (i:=j.toNat) (c:=enc ys[j.toNat]) (by simp[hlt]) (j:=off) (u:=r) (by rw[← eat];exact hc);obtain⟨u,hu,hp⟩:=h3.at hfl;rcases h2 with⟨rfl,hz⟩ | ⟨b,cap,cur,rfl,_,hg',hcap,hm,hsz,htk⟩
 ·simp at hz;subst hz;simp at hlt
 ·have hcell:w.cell? ⟨b,j.toNat*sz+off,none⟩=some u:=by
   rw[cell_of_row w b _ cur e (0,0) hg'];rw[← htk,QE] at hu
   split at hu
   ·simpa using hu
   ·cases hu
  exact⟨u,hp,by simp[execOp,ha.eval hx,CC,Instr.loadAt,Instr.sureAddr,loadVar,hag,hcell]⟩
theorem AY {α:Type}{ys:List α}{enc:α→List Rp}{j:Int}(h:DB j (ys.length:Int)=true):DB j ((ys.map enc).length:Int)=true:=by rw[Qs];exact h
theorem Be {α:Type}{ys:List α}{enc:α→List Rp}(ht:P.underlying t=some (.slice e))(h:ev l x=some (AV sz (ys.map enc))):AS P n c l H { dst:=d',op:=.call { callee:=.builtin .len,args:=#[x],argTypes:=#[t] },type:=ty,pos:=pos,after:=af,guard:=g } (rI .i64 ys.length):=by
 have:=NR (P:=P) (n:=n) (c:=c) (H:=H) (d:=d') (ty:=ty) (pos:=pos) (af:=af) (g:=g) ht h
 rwa [Qs] at this
theorem BT {α:Type}{ys:List α}{enc:α→List Rp}{i:Nat}(ht:P.underlying t=some (.slice e))(h:ev l x=some (rv v)){e':TypeId}(hi:H[i]? =some (.row v e' sz (ys.map enc))):AS P n c l H { dst:=d',op:=.call { callee:=.builtin .len,args:=#[x],argTypes:=#[t] },type:=ty,pos:=pos,after:=af,guard:=g } (rI .i64 ys.length):=by
 have:=KQ (P:=P) (n:=n) (c:=c) (d':=d') (ty:=ty) (pos:=pos) (af:=af) (g:=g) ht h hi
 rwa [Qs] at this
theorem Bv {k off:Nat}{xs:List (List Rp)}{e':TypeId}{jj:Int}{j:Nat}(hk:H[k]? =some (.row v e' sz xs))(hg:DB jj (xs.length:Int)=true)(hj:jj.toNat=j)(hx:ev l x=some (rv (CC sz v j off))):AS P n c l H { dst:=d',op:=.nilCheck x,type:=ty,pos:=pos,after:=af,guard:=g } (rv (CC sz v j off)):=λa w Z ha hw=>C1<|by
 obtain⟨hs,us,⟨h1,h2⟩,h3⟩:=hw.ent hk;rcases h2 with⟨rfl,hz⟩ | ⟨b,cap,cur,rfl,_⟩
 ·have:=BC hg;omega
 ·simp[execOp,ha.eval hx,CC]
theorem C2 {off off' i j fsz:Nat}{fs:Array Field}{f:Field}(hu:P.underlying t=some (.struct fs))(hf:fs[i]? =some f)(hsz:∀w,(sizeOf f.type).run P w = .ok (fsz+1) w){k:Nat}{xs:List (List Rp)}{e':TypeId}{jj:Int}(hk:H[k]? =some (.row v e' sz xs))(hg:DB jj (xs.length:Int)=true)(hj:jj.toNat=j)
  (hx:ev l x=some (rv (CC sz v j off))) (ho:off+f.offset=off'):AS P n c l H { dst:=d',op:=.fieldAddr t x i,type:=ty,pos:=pos,after:=af,guard:=g } (rv (CC sz v j off')):=λa w Z ha hw=>C1<|by
 obtain⟨hs,us,⟨h1,h2⟩,h3⟩:=hw.ent hk;subst ho hj;rcases h2 with⟨rfl,hz⟩ | ⟨b,cap,cur,rfl,_⟩
 ·have:=BC hg;omega
 ·simp[execOp,ha.eval hx,CC,Instr.fieldAt,run_underlying hu,hf,Instr.sureAddr,fieldPlace,hsz,E0,Nat.add_assoc]
theorem G8 {α:Type}[Inhabited α]{ys:List α}{enc:α→List Rp}{i off:Nat}{j:Int}{y':α}(hsz:∀w,(sizeOf t).run P w = .ok 1 w)(hx:ev l x=some (rv (CC sz v j.toNat off)))(hy:ev l y=some r)(hv:K8 H r)(hi:H[i]? =some (.row v e sz (ys.map enc)))(hg:DB j (ys.length:Int)=true)
  (hy':(enc (Ak ys j)).set off r=enc y') (hlt:Nat.blt off sz=true) (hH:H.set i (.row v e sz ((ys.set j.toNat y').map enc))=H') (h:WL P n c ops Q rest l H') :
  WL P n c ops Q ({ dst:=none,op:=.store t x y,type:=ty,pos:=pos,after:=af,guard:=none }::rest) l H:=
 IL λa w Z ha hw=>by
  obtain⟨hs,us,⟨h1,h2⟩,h3⟩:=hw.ent hi;have h0:=(BC hg).1;have hlj:j.toNat<ys.length:=by have:=(BC hg).2;omega
  have hlt':off<sz:=by simpa using hlt
  have eat:Ak ys j=ys[j.toNat]:=by simp[Ak,hlj]
  have hr:=ha.ev hy;have hone:=hv c Z w _ hw hr;rcases h2 with⟨rfl,hz⟩ | ⟨b,cap,cur,rfl,_,hg',hcap,hm,hcs,htk⟩
  ·simp at hz;subst hz;simp at hlj
  ·simp only[Qs] at h1 hcap htk;have hin:j.toNat*sz+off<ys.length*sz:=by
    have:(j.toNat+1)*sz≤ys.length*sz:=Nat.mul_le_mul_right _ hlj;rw[Nat.succ_mul] at this;omega
   have hlc:j.toNat*sz+off<cur.size:=by
    have:ys.length*sz≤cap*sz:=Nat.mul_le_mul_right _ hcap;omega
   have h4:=run_storeCells_at P b (j.toNat*sz+off) e [a.eval y] 0 cur w hg' (by simp;omega) (by simpa using hone);have hcv:=B0 hone;have h5:(cur.toList.take (j.toNat*sz+off)++[a.eval y]++cur.toList.drop (j.toNat*sz+off+1)).toArray=cur.setIfInBounds (j.toNat*sz+off) (a.eval y):=by
    apply Array.ext';simp[Array.toList_setIfInBounds,List.set_eq_take_append_cons_drop,hlc]
   simp only[Nat.add_zero,Qt,QS,QC] at h4;rw[h5] at h4;have hset:((ys.set j.toNat y').map enc).flatten=(ys.map enc).flatten.set (j.toNat*sz+off) r:=by
    clear h3 h1 hcs htk hin hlc h4 h5 hi hH;have key:∀(xs:List (List Rp)) (k:Nat) (cl:List Rp),(∀c∈xs,c.length=sz)→xs[k]? =some cl→(xs.set k (cl.set off r)).flatten=xs.flatten.set (k*sz+off) r:=by
     intro xs
     induction xs with
     | nil=>intro k cl _ hk;simp at hk
     | cons z zs ih=>
      intro k cl hsz hk;have hzl:z.length=sz:=hsz z (by simp)
      cases k with
      | zero=>
       simp at hk;subst hk;simp only[List.set_cons_zero,List.flatten_cons,Nat.zero_mul,QC];rw[List.set_append_left _ _ (by omega)]
      | succ k=>
       simp only[List.set_cons_succ,List.flatten_cons];rw[ih k cl (λc hc=>hsz c (by simp[hc])) (by simpa using hk)];rw[List.set_append_right _ _ (by rw[hzl,Nat.succ_mul];omega)]
       congr 2
       rw[hzl,Nat.succ_mul];omega
    have:=key (ys.map enc) j.toNat (enc ys[j.toNat]) hs (by simp[hlj]);rw[← this,List.map_set,← hy',eat]
   refine⟨w.setRow b (cur.setIfInBounds (j.toNat*sz+off) (a.eval y)),H',?_,?_,h⟩
   ·simp[execOp,ha.eval hx,CC,Instr.storeAt,Instr.sureAddr,storeVar,hsz,hcv,h4]
   ·subst hH;refine hw.set hi rfl rfl rfl (by simp[World.setRow]) (λk _ hk=>?_) ⟨?_,us.set (j.toNat*sz+off) (a.eval y),⟨by simpa using h1,.inr ⟨b,cap,_,by simp,QJ _,setRow_heap w b cur _ e (0,0) hg',by simpa using hcap,hm,by simpa using hcs,?_⟩⟩,?_⟩ (by simp[Ent.foot,Value.ownBlock])
    ·simp only[Ent.foot,Value.ownBlock,Option.mem_toList,Option.mem_def,Option.some.injEq] at hk;simp only[World.setRow,Array.getElem?_modify];rw[QR hk]
    ·intro cl hcl;rw[List.map_set] at hcl;rcases List.mem_or_eq_of_mem_set hcl with h' | rfl
     ·exact hs cl h'
     ·rw[← hy',List.length_set,eat];exact hs _ (List.mem_map_of_mem (List.getElem_mem hlj))
    ·simp only[Qs,List.length_set];rw[Array.toList_setIfInBounds,List.take_set,htk]
    ·rw[hset];exact h3.set _ hr
end
theorem OJ {P:Program}{t e:TypeId}{sz len:Nat}{z:Value}{parts:Array (Nat×Value)}{cs:List Value}(ht:P.underlying t=some (.slice e))(hz:∀w,(sizeOf e).run P w = .ok sz w)(hzv:∀w,(zeroValue e).run P w = .ok z w)
  (hle:Nat.ble (len*sz) 16777216=true) (w:World) (hf:Instr.fill (λi=>some (i*sz,sz)) ((Array.range (len*sz)).map ((if len*sz=0 then #[] else z.cells)[· % (if len*sz=0 then #[] else z.cells).size]!)) parts.toList=some cs.toArray) :
  (Instr.buildSlice t len parts).run P w = .ok (.slice (some ⟨w.heap.size,0,none⟩) len len) (w.alloc (.cells cs.toArray e)):=by
 have hle' : ¬ 16777216<len*sz:=by simpa using hle
 unfold Instr.buildSlice
 by_cases h0:len*sz=0
 ·have er:Array.range 0 = #[]:=rfl;simp only[h0,if_true,er] at hf;have hf:Instr.fill (λi=>some (i*sz,sz)) #[] parts.toList=some cs.toArray:=by simpa using hf
  simp[run_underlying ht,hz,hle',h0,er,hf,newRow,newObj,Sem.run,Sem.run_bind]
 ·simp only[h0,if_false] at hf;simp[run_underlying ht,hz,hzv,hle',h0,hf,newRow,newObj,Sem.run,Sem.run_bind]
section
variable {P : Program} {n : Nat} {c : Cx} {ops : Array Oper} {Q : Exit → Act → World → Prop} {rest : List Oper} {l : Fr} {H H' : List Ent} {d : Nat} {d' : Option Nat} {x y z3 : Operand} {ty t t' e : TypeId} {pos : String} {af : Array Edge} {g : Option (Nat × Bool)} {v u : Value} {r : Rp} {sz : Nat}
theorem HK {i b k:Nat}{cs:List Rp}(hag:∀w,(isAgg t).run P w = .ok true w)(hsz:∀w,(sizeOf t).run P w = .ok sz w)(hx:look l k=some (rv (.pointer (some ⟨b,0,none⟩))))(hi:H[i]? =some (.blk b cs e))(hl:cs.length=sz):RV P n c l H (.cell k t) (Bh cs):=λa w Z ha hw=>by
 obtain⟨us,h1,h2⟩:=hw.ent hi;obtain⟨p,hp1,hp2⟩:=ha.tm k _ hx;rw[show p=_ from hp2] at hp1;have h4:=run_loadCells_list (P:=P) w ⟨b,0,none⟩ us (λj u hj=>by
  rw[E0,cell_of_row w b _ _ e (0,0) h1,QC];simpa using hj)
 rw[h2.length,hl] at h4;exact⟨.agg us.toArray,⟨us,rfl,h2⟩,by simp[NE,Array.getD_eq_getD_getElem?,hp1,asAddr,loadVar,hag,hsz,h4]⟩
def O5 (H:List Ent)(r:Rp)(cs:List Rp):Prop:=∀(c:Cx) Z w v,St c H Z w→r.p Z v→AB Z cs v.cells.toList
theorem O5.one {q:Rp}(h:r.one=true)(hu:Up H r q):O5 H r [q]:=λc Z w v hw hp=>by
 rw[B0 (r.hone h Z v hp)];exact⟨hu c Z w v hw hp,trivial⟩
theorem O5.agg {cs cs':List Rp}(h:Eg H cs cs'):O5 H (Bh cs) cs':=λc Z w v hw ⟨us,e,hu⟩=>by subst e;exact h.all hw hu
def Jj (H:List Ent):List Rp→List (List Rp)→Prop
 | [],[]=>True
 | r::rs,cs::css=>O5 H r cs∧Jj H rs css
 | _,_=>False
theorem Jj.all {c:Cx}{Z:Fz}{w:World}(hw:St c H Z w):∀{rs:List Rp} {css:List (List Rp)} {vs:List Value},Jj H rs css→AB Z rs vs→AB Z css.flatten (vs.flatMap λv=>v.cells.toList)∧css.length=vs.length∧∀(i:Nat) cs v,css[i]? =some cs→vs[i]? =some v→v.cells.size=cs.length
 | [],[],[],_,_=>⟨trivial,rfl,by simp⟩
 | r::rs,cs::css,v::vs,⟨h1,h2⟩,⟨h3,h4⟩=>by
  obtain⟨a1,a2,a3⟩:=h2.all hw h4;have h5:=h1 c Z w v hw h3;refine⟨by simpa using h5.append a1,by simp[a2],λi cs' v' hi hv=>?_⟩
  cases i with
  | zero=>simp at hi hv;subst hi hv;have:=h5.length;simpa using this
  | succ i=>exact a3 i cs' v' (by simpa using hi) (by simpa using hv)
theorem CG {α:Type}{ys:List α}{enc:α→List Rp}{len:Nat}{parts:Array (Nat×Operand)}{xs:List Operand}{rs:List Rp}{css:List (List Rp)}{zz:Value}(ht:P.underlying t=some (.slice e))(hz:∀w,(sizeOf e).run P w = .ok sz w)(hzv:∀w,(zeroValue e).run P w = .ok zz w)
  (hparts:parts.toList=(xs.zipIdx 0).map λp=>(p.2,p.1)) (hlen:ys.length=len) (hv:Jc l xs=some rs) (hc:Jj H rs css) (hcs:css=ys.map enc) (henc:∀z,(enc z).length=sz) (hsz:Nat.blt 0 sz=true) (hle:Nat.ble (len*sz) 16777216=true) (hn:Nat.blt d n=true)
  (h:∀b,WL P n c ops Q rest ((d,rv (.slice (some ⟨b,0,none⟩) len len))::l) (.row (.slice (some ⟨b,0,none⟩) len len) e sz (ys.map enc)::H)) :
  WL P n c ops Q ({ dst:=some d,op:=.buildSlice t len parts,type:=ty,pos:=pos,after:=af,guard:=none }::rest) l H:=
 EQ (λa w Z ha hw=>by
  have hall:=EF ha hv;obtain⟨h1,h2,h3⟩:=hc.all hw hall;have hsz':0<sz:=by simpa using hsz
  have hle' : ¬ 16777216<len*sz:=by simpa using hle
  have hxl:(xs.map a.eval).length=len:=by rw[← h2,hcs,Qs,hlen]
  have hcell:∀v∈xs.map a.eval,v.cells.size=sz:=λv hv'=>by
   obtain⟨i,hi⟩:=List.getElem?_of_mem hv';have hil:=(List.getElem?_eq_some_iff.1 hi).1;have hil2:i<css.length:=by omega
   rw[h3 i css[i] v (Qk hil2) hi];have:css[i]∈ys.map enc:=by rw[← hcs];exact List.getElem_mem hil2
   obtain⟨z,_,hz'⟩:=List.mem_map.1 this;rw[← hz'];exact henc z
  have hflen:((xs.map a.eval).flatMap λv=>v.cells.toList).length=len*sz:=by
   rw[h1.length,CS (sz:=sz) (λc hc'=>by rw[hcs] at hc';obtain⟨z,_,hz'⟩:=List.mem_map.1 hc';rw[← hz'];exact henc z),hcs,Qs,hlen]
  have hpe:(parts.map λ(i,x)=>(i,a.eval x)).toList=((xs.map a.eval).zipIdx 0).map λp=>(p.2,p.1):=by
   rw[Array.toList_map,hparts,List.zipIdx_map,QM,QM];rfl
  have hrun:(Instr.buildSlice t len (parts.map λ(i,x)=>(i,a.eval x))).run P w = .ok (.slice (some ⟨w.heap.size,0,none⟩) len len) (w.alloc (.cells ((xs.map a.eval).flatMap λv=>v.cells.toList).toArray e)):=by
   refine OJ ht hz hzv hle w ?_;rw[hpe]
   by_cases h0:len*sz=0
   ·have:len=0:=by
     rcases Nat.mul_eq_zero.1 h0 with h | h
     ·exact h
     ·omega
    subst this;have hx0:xs=[]:=by simpa using Q3 (by simpa using hxl)
    subst hx0;simp[Instr.fill]
   ·simp only[h0,if_false];exact Great.fill_whole hsz' (xs.map a.eval) _ hcell (by rw[hxl];simp)
  refine⟨_,w.alloc (.cells ((xs.map a.eval).flatMap λv=>v.cells.toList).toArray e),_,_,Z,by simp[execOp,hrun],Fz.le.refl _,rfl,
   hw.alloc _ (e:=.row (.slice (some ⟨w.heap.size,0,none⟩) len len) e sz (ys.map enc)) ⟨?_,(xs.map a.eval).flatMap (λv=>v.cells.toList),⟨?_,.inr ⟨w.heap.size,len,_,?_,QJ _,heap_alloc_new w _,?_,?_,?_,?_⟩⟩,?_⟩ (by simp[Ent.foot,Value.ownBlock]),h w.heap.size⟩
  ·intro cl hcl;obtain⟨z,_,hz'⟩:=List.mem_map.1 hcl;rw[← hz'];exact henc z
  ·rw[hflen,Qs,hlen]
  ·rw[Qs,hlen]
  ·rw[Qs,hlen];exact Qx _
  ·have:len≤len*sz:=Nat.le_mul_of_pos_right _ hsz';simp only[maxLen];omega
  ·simpa using hflen
  ·rw[Qs,hlen,← hflen];exact List.take_length
  ·rw[← hcs];exact h1) hn
theorem Ke.rds {α:Type}{ys:List α}{enc:α→List Rp}{Z:Fz}{w:World}(hf:Ny Z w)(h:Ke sz (ys.map enc) Z v)(hsz:0<sz):∃us:List Value,AB Z (ys.map enc).flatten us∧Pe sz w v ys.length us:=by
 obtain⟨A,cap,rfl,_,_,hA,hc⟩:=h;have hl:∀c∈ys.map enc,c.length=sz:=λc hm=>by
  obtain⟨i,hi⟩:=List.getElem?_of_mem hm;exact(hc i c hi).1
 cases A with
 | none=>
  have:ys=[]:=by
   cases ys with
   | nil=>rfl
   | cons y r=>obtain⟨_,a,h,_⟩:=hc 0 (enc y) (by simp);cases h
  subst this;rw[hA rfl];exact⟨[],trivial,by simp,.inl ⟨rfl,rfl⟩⟩
 | some a=>
  obtain⟨us,h1,h2⟩:=GO (Z:=Z) (cs:=(ys.map enc).flatten) (f:=λj=>DZ Z a.block (a.off+j)) (λj r hj=>by
   have hjl:j<ys.length*sz:=by
    have:=CS hl;rw[Qs] at this;rw[← this];exact(List.getElem?_eq_some_iff.1 hj).1
   have hq:j/sz<(ys.map enc).length:=by rw[Qs,Nat.div_lt_iff_lt_mul hsz];exact hjl
   have hr:j % sz<sz:=Nat.mod_lt _ hsz;obtain⟨hcl,a',e1,hsp,hcell⟩:=hc (j/sz) (ys.map enc)[j/sz] (Qk hq);simp only[Option.some.injEq] at e1;subst e1;have hdm:j/sz*sz+j % sz=j:=by rw[Nat.mul_comm];exact Nat.div_add_mod j sz
   have hlt:j % sz<((ys.map enc)[j/sz]).length:=by omega
   have h3:=DO hl (Qk hq) (Qk hlt);rw[hdm,hj] at h3;simp only[Option.some.injEq] at h3;obtain⟨u,hu,hp⟩:=hcell (j % sz) _ (Qk hlt);rw[hdm] at hu;exact⟨u,hu,by rw[h3];exact hp⟩)
  refine⟨us,h1,?_,.inr ⟨a,cap,by simp,λj u hj=>?_⟩⟩
  ·rw[h1.length,CS hl,Qs]
  ·have hjl:j<us.length:=(List.getElem?_eq_some_iff.1 hj).1;have h3:=EP hf (h2 j u hj);have hsp:a.spot=none:=by
    cases ys with
    | nil=>have:=h1.length;simp at this;subst this;simp at hjl
    | cons y r=>obtain⟨_,a',e1,hs,_⟩:=hc 0 (enc y) (by simp);simp at e1;subst e1;exact hs
   obtain⟨b,off,spot⟩:=a;simp only at hsp;subst hsp;rw[E0];exact h3
def Nw (P:Program)(n:Nat)(c:Cx)(l:Fr)(H:List Ent)(y:Operand)(sz:Nat)(k:Nat)(cs:List Rp):Prop:=∀a w Z,BI n l a Z→St c H Z w→∃us,AB Z cs us∧Pe sz w (a.eval y) k us
theorem Nw.z {α:Type}{ys:List α}{enc:α→List Rp}(h:ev l y=some (AV sz (ys.map enc)))(hsz:Nat.blt 0 sz=true):Nw P n c l H y sz ys.length (ys.map enc).flatten:=λa w Z ha hw=>Ke.rds hw.frz (ha.ev h) (by simpa using hsz)
theorem Nw.nil (h:ev l y=some (rv (.slice none 0 0))):Nw P n c l H y sz 0 []:=λa w Z ha hw=>⟨[],trivial,by simp,.inl ⟨ha.eval h,rfl⟩⟩
theorem Nw.w {α:Type}{ys:List α}{enc:α→List Rp}{i:Nat}(h:ev l y=some (rv v))(hi:H[i]? =some (.row v e sz (ys.map enc))):Nw P n c l H y sz ys.length (ys.map enc).flatten:=λa w Z ha hw=>by
 obtain⟨h0,us,h1,h2⟩:=hw.ent hi;refine⟨us,h2,?_⟩;rw[ha.eval h];have:=Pe.of_row (w:=w) (v:=v) (e:=e) (sz:=sz) (m:=(ys.map enc).length) (xs:=us) h1;simpa using this
theorem Gf {α:Type}{xs ys:List α}{enc:α→List Rp}{i:Nat}{inf:TypeInfo}{z:Value}{bytes:Nat}(ht:P.underlying t=some (.slice e))(hinf:P.info? e=some inf)(hz:inf.zero=some z)(hsize:inf.size=sz)(hby:inf.bytes=bytes)(hzs:z.cells.size=sz)(hsz:Nat.blt 0 sz=true)(hbp:Nat.blt 0 bytes=true)
  (hx:ev l x=some (rv v)) (hi:H[i]? =some (.row v e sz (xs.map enc))) (hy:Nw P n c l H y sz ys.length (ys.map enc).flatten) (henc:∀z,(enc z).length=sz) (hone:∀z,(enc z).all (·.one)=true) (hg:Ob bytes (xs.length+ys.length)=true) (hn:Nat.blt d n=true)
  (h:∀v',WL P n c ops Q rest ((d,rv v')::l) (.row v' e sz ((xs++ys).map enc)::H.eraseIdx i)) :
  WL P n c ops Q ({ dst:=some d,op:=.call { callee:=.builtin .append,args:=#[x,y],argTypes:=#[t,t] },type:=ty,pos:=pos,after:=af,guard:=none }::rest) l H:=
 EQ (λa w Z ha hw=>by
  obtain⟨h0,us,h1,h2⟩:=hw.ent hi;obtain⟨ws,h3,h4⟩:=hy a w Z ha hw;have hsz':0<sz:=by simpa using hsz
  have hbp':0<bytes:=by simpa using hbp
  have hb:(xs.length+ys.length)*bytes≤140737488355328:=by simpa[Ob] using hg
  have hle:xs.length+ys.length≤(xs.length+ys.length)*bytes:=Nat.le_mul_of_pos_right _ hbp';have hws:∀y∈ws,y.oneCell'=true:=AB.one (rs:=(ys.map enc).flatten) (by
   rw[Q0];intro r hr;obtain⟨cl,hcl,hrc⟩:=List.mem_flatten.1 hr;obtain⟨z',_,rfl⟩:=List.mem_map.1 hcl;exact List.all_eq_true.1 (hone z') r hrc) h3
  have hxl:(xs.map enc).length=xs.length:=Qs ..;rw[hxl] at h1;obtain⟨v',w',e1,e2,e3,e4⟩:=EK (P:=P) ty ht hinf hz hsize hby hzs hsz' h1 h4 hws hb (by simp only[maxLen];omega);have hent:(Ent.row v' e sz ((xs++ys).map enc)).holds Z w':=⟨λcl hcl=>by obtain⟨z',_,rfl⟩:=List.mem_map.1 hcl;exact henc z',us++ws,by simpa using e2,by rw[List.map_append,List.flatten_append];exact h2.append h3⟩
  have hst:=hw.callF hi (St.one (e':=.row v' e sz ((xs++ys).map enc)) (M:=(Ent.row v e sz (xs.map enc)).foot) hw.frz hw.env hw.emono e3.os e3.tape e3.output e3.size (λk hk hne=>e3.block k hk (λe1=>hne (by simp[Ent.foot,← e1])))
   (hw.zdis _ (Qu hi)) hent (λk hk=>by
    simp only[Ent.foot,Option.mem_toList] at hk ⊢;rcases e4 with e4 | e4
    ·exact .inl (e4▸hk)
    ·exact .inr (e4 k hk)))
  exact⟨v',w',rv v',_,Z,by simp[execOp,resolve,invoke,builtin,ha.eval hx,e1],Fz.le.refl _,rfl,hst,h v'⟩) hn
theorem DV {α:Type}{ys:List α}{enc:α→List Rp}{k:IntKind}{i:Int}(ht:P.underlying t=some (.slice e))(hz:∀w,(sizeOf e).run P w = .ok sz w)(h:ev l x=some (AV sz (ys.map enc)))(hi:ev l y=some (rI k i))(hg:JP i (ys.length:Int)=true) :
  AS P n c l H { dst:=d',op:=.slice t x (some y) none none,type:=ty,pos:=pos,after:=af,guard:=g } (AV sz ((ys.drop i.toNat).map enc)):=λa w Z ha hw=>by
 obtain⟨A,cap,e1,hc1,hc2,hA,hc⟩:=ha.ev h;have h0:=(CX hg).1;have h1:=(CX hg).2;simp only[Qs] at e1 hc1;refine⟨.slice (if cap=i.toNat then A else A.map (·.add (i.toNat*sz))) (ys.length-i.toNat) (cap-i.toNat),⟨if cap=i.toNat then A else A.map (·.add (i.toNat*sz)),cap-i.toNat,?_,?_,by omega,?_,λq cl hq=>?_⟩,by simp[execOp,e1,ha.eval hi,Instr.sliceAt,Instr.slice,run_underlying ht,Instr.sliceBounds,BO (m:=ys.length) _ _ h0 h1,hz]⟩
 ·congr 1
  simp
 ·simp;omega
 ·intro hn
  split at hn
  ·have:=hA hn;omega
  ·have:=hA (by simpa using hn);omega
 ·rw[QK,List.getElem?_drop] at hq
  cases hq':ys[i.toNat+q]? with
  | none=>rw[hq'] at hq;cases hq
  | some yy=>
   rw[hq'] at hq;simp only[Option.map_some,Option.some.injEq] at hq;subst hq;have hlt:=(List.getElem?_eq_some_iff.1 hq').1;obtain⟨hl,ad,rfl,hs,hcs⟩:=hc (i.toNat+q) (enc yy) (by simp[hq']);obtain⟨b,off,spot⟩:=ad;simp only at hs;subst hs;have hne : ¬ cap=i.toNat:=by omega
   refine⟨hl,⟨b,off+i.toNat*sz,none⟩,by simp[hne,E0],rfl,λq' r' hr'=>?_⟩;obtain⟨u,hu,hp⟩:=hcs q' r' hr';refine⟨u,?_,hp⟩;have:off+i.toNat*sz+(q*sz+q')=off+((i.toNat+q)*sz+q'):=by rw[Nat.add_mul];omega
   simp only;rw[this];exact hu
theorem Oy {α:Type}{ys:List α}{enc:α→List Rp}{i:Nat}{k:IntKind}{j:Int}(ht:P.underlying t=some (.slice e))(hz:∀w,(sizeOf e).run P w = .ok sz w)(hx:ev l x=some (rv v))(hy:ev l y=some (rI k j))(hi:H[i]? =some (.row v e sz (ys.map enc)))(hg:JP j (ys.length:Int)=true)(hn:Nat.blt d n=true)
  (h:∀v',WL P n c ops Q rest ((d,rv v')::l) (H.set i (.row v' e sz ((ys.take j.toNat).map enc)))) :
  WL P n c ops Q ({ dst:=some d,op:=.slice t x none (some y) none,type:=ty,pos:=pos,after:=af,guard:=none }::rest) l H:=
 EQ (λa w Z ha hw=>by
  obtain⟨h0,us,⟨h1,h2⟩,h3⟩:=hw.ent hi;have g0:=(CX hg).1;have g1:=(CX hg).2;rcases h2 with⟨rfl,hz0⟩ | ⟨b,cap,cur,rfl,_,hb,hcap,hm,hcs,htk⟩
  ·simp at hz0;subst hz0;obtain rfl:j=0:=by simp at g1;omega
   refine⟨.slice none 0 0,w,_,_,Z,by simp[execOp,ha.eval hx,ha.eval hy,Instr.sliceAt,Instr.slice,run_underlying ht,Instr.sliceBounds,BO (m:=0) _ _ (QF 0) (QF 0),hz],Fz.le.refl _,rfl,?_,h _⟩;exact hw.set hi rfl rfl rfl (Qx _) (λ_ _ _=>rfl) ⟨by simp,[],⟨by simp,.inl ⟨rfl,by simp⟩⟩,trivial⟩ (by simp[Ent.foot,Value.ownBlock])
  ·simp only[Qs] at h1 hcap htk;have hjc:j≤(cap:Int):=by omega
   have hjl:j.toNat≤ys.length:=by omega
   refine⟨.slice (some ⟨b,0,none⟩) j.toNat cap,w,_,_,Z,by simp[execOp,ha.eval hx,ha.eval hy,Instr.sliceAt,Instr.slice,run_underlying ht,Instr.sliceBounds,BO (m:=cap) _ _ g0 hjc,hz];intro _;rfl,Fz.le.refl _,rfl,?_,h _⟩;refine hw.set hi rfl rfl rfl (Qx _) (λ_ _ _=>rfl) ⟨λcl hcl=>?_,us.take (j.toNat*sz),⟨?_,.inr ⟨b,cap,cur,?_,QJ _,hb,?_,hm,hcs,?_⟩⟩,?_⟩ (by simp[Ent.foot,Value.ownBlock])
   ·rw[List.map_take] at hcl;exact h0 cl (List.mem_of_mem_take hcl)
   ·rw[QN,h1,Qs,QN,Nat.min_eq_left hjl];exact Nat.min_eq_left (Nat.mul_le_mul_right _ hjl)
   ·simp[Nat.min_eq_left hjl]
   ·simp;omega
   ·rw[Qs,QN,Nat.min_eq_left hjl,← htk,List.take_take,Nat.min_eq_left (Nat.mul_le_mul_right _ hjl)]
   ·have:((ys.take j.toNat).map enc).flatten=(ys.map enc).flatten.take (j.toNat*sz):=by
     rw[List.map_take];clear h3 h1 htk hcs hcap g1 hjc;generalize ys.map enc=zs at h0;have key:∀(zs:List (List Rp)) (k:Nat),(∀c∈zs,c.length=sz)→(zs.take k).flatten=zs.flatten.take (k*sz):=by
      intro zs
      induction zs with
      | nil=>intro k _;simp
      | cons z zs ih=>
       intro k hk
       cases k with
       | zero=>simp
       | succ k=>
        have hzl:=hk z (by simp);simp only[List.take_succ_cons,List.flatten_cons];rw[ih k (λc hc=>hk c (by simp[hc]))];have e1:(k+1)*sz=z.length+k*sz:=by rw[hzl,Nat.succ_mul];omega
        rw[e1,List.take_length_add_append]
     exact key zs _ h0
    rw[this];exact h3.take _) hn
theorem O1 {k:IntKind}{p q:Int}(ht:P.underlying t=some (.int k))(hx:ev l x=some (rI k p))(hy:ev l y=some (rI k q)):AS P n c l H { dst:=d',op:=.call { callee:=.builtin .max,args:=#[x,y],argTypes:=#[t,t] },type:=ty,pos:=pos,after:=af,guard:=g } (rI k (max p q)):=λa w Z ha _=>C1<|by
 have e:(if p<q then q else p)=max p q:=by split<;>omega
 simp[execOp,resolve,invoke,builtin,ha.eval hx,ha.eval hy,Builtin.max_,Builtin.max2,run_underlying ht,e]
theorem Kt {f:FuncId}{parts:Array Operand}{caps:List Value}(h:Jc l parts.toList=some (caps.map rv)):AS P n c l H { dst:=d',op:=.makeFunc (.func f) #[] parts,type:=ty,pos:=pos,after:=af,guard:=g } (rv (.func (.func f) #[] caps.toArray)):=λa w Z ha _=>C1<|by
 have h1:=AB.eq_rv (EF ha h);have h2:parts.map a.eval=caps.toArray:=by apply Array.ext';simpa using h1
 simp[execOp,Instr.makeFunc,h2]
theorem ML {p:Addr}(hu:∃e',P.underlying t=some (.pointer e'))(hx:ev l x=some (rv (.pointer (some p)))):AS P n c l H { dst:=d',op:=.binOp .eql t x (.const (.pointer none)) t',type:=ty,pos:=pos,after:=af,guard:=g } (rB false):=λa w Z ha _=>C1<|by
 obtain⟨e',hu⟩:=hu;have h1:∀dd:Nat,(Op.equalIn (dd+1) t (.pointer (some p)) (.pointer none)).run P w = .ok false w:=λdd=>by simp[Op.equalIn,run_underlying hu]
 have h2:(Op.equal t (.pointer (some p)) (.pointer none)).run P w = .ok false w:=h1 9999;have h3:(eqGuard .eql t x (.const (.pointer none)) (.pointer (some p)) (.pointer none)).run P w = .ok () w:=by unfold eqGuard;split<;>simp
 have hy:a.eval (.const (.pointer none)) = .pointer none:=rfl;simp only[execOp,ha.eval hx,hy,Sem.run_bind,h3,Result.andThen_ok,binOp,h2,Sem.run_pure]
@[reducible] def Nl (x:Int):List Rp:=[rI .i64 x]
@[reducible] def G4 (x:Int):List Rp:=[rI .u8 x]
@[reducible] def eS (x:Ai):List Rp:=[rS x]
end
section
variable (P : Program) (n : Nat) (c : Cx) (ops : Array Oper) (Q : Exit → Act → World → Prop)
def CZ (l:Fr)(H:List Ent)(o:Oper)(r:Rp)(H':List Ent):Prop:=
 ∀a w Z (K:Act→World→Prop),BI n l a Z→St c H Z w→(∀v w' Z',Fz.le Z Z'→r.p Z' v→St c H' Z' w'→K (a.put o.dst v) w')→
  (Region.wanted o (yielded ops a.tmps)=true→o.wp P a w K Q)∧(Region.wanted o (yielded ops a.tmps)=false→K (a.put o.dst undef) w)
end
def Oo (l' l:Fr):Prop:=∀i v,look l' i=some v→∃q,look l i=some q∧Kf q v
theorem BI.subL {n:Nat}{a:Act}{Z:Fz}{l l':Fr}(h:BI n l a Z)(hs:Oo l' l):BI n l' a Z:=⟨h.size,h.defers,λi v hi=>by
 obtain⟨q,hq,hle⟩:=hs i v hi;obtain⟨u,hu,hp⟩:=h.tm i q hq;exact⟨u,hu,hle Z u hp⟩⟩
structure Kp (ks:List Nat) (l l':Fr):Prop where
 one:Oo l' l
 two:∀i v,look l' i=some v→ks.contains i=true
theorem LL {ks:List Nat}:Kp ks [] []:=⟨λi v h=>by simp[look] at h,λi v h=>by simp[look] at h⟩
theorem IX {ks:List Nat}{i:Nat}{r:Rp}{l l':Fr}(h:ks.contains i=true)(t:Kp ks l l'):Kp ks ((i,r)::l) ((i,r)::l'):=by
 refine⟨λj v hj=>?_,λj v hj=>?_⟩
 ·rw[Bz] at hj ⊢
  split at hj
  ·rename_i e;rw[if_pos e];simp at hj;subst hj;exact⟨r,rfl,Kf.refl r⟩
  ·rename_i e;rw[QR e];exact t.one j v hj
 ·rw[Bz] at hj
  split at hj
  ·rename_i e;subst e;exact h
  ·exact t.two j v hj
theorem JM {ks:List Nat}{i:Nat}{r:Rp}{l l':Fr}(h:ks.contains i=false)(t:Kp ks l l'):Kp ks ((i,r)::l) l':=by
 refine⟨λj v hj=>?_,t.two⟩;rw[Bz]
 by_cases e:i=j
 ·subst e;rw[t.two i v hj] at h;cases h
 ·rw[QR e];exact t.one j v hj
structure Sp where
 deps:List Nat
 r:Rp
 kd:Nat
def Cp (sp:List Sp)(i:Nat):Sp:=sp.getD i ⟨[],rv undef,0⟩
def Co (ops:List Oper)(i:Nat):Option Nat:=(ops[i]?).bind (·.dst)
def Bw (ops:List Oper)(sp:List Sp):List Nat→Fr→Fr
 | [],l=>l
 | j::r,l=>match Co ops j with
  | some d=>(d,(Cp sp j).r)::Bw ops sp r l
  | none=>Bw ops sp r l
def CT (o:Oper):List Nat:=(o.after.toList.filter (Region.binds .any)).map (·.on)
def Id:List Oper→List Nat→List Nat
 | [],acc=>acc
 | o::rest,acc=>Id rest (acc++[(CT o).foldl (λs e=>s||| 2 ^ e||| acc.getD e 0) 0])
def D8 (l:Fr):List Nat:=l.map (·.1)
def PB (n:Nat)(ops:List Oper)(N:Nat)(keys:List Nat)(deps:List (List Nat))(kds:List Nat):Bool:=
 let cl:=Id ops []
 (List.range ops.length).all (λi=>(CT (ops.getD i default)).all (·<i))&&
 (List.range N).all (λi=>match Co ops i with
  | some d=>decide (d<n)&&!keys.contains d&&(List.range N).all (λj=>j ==i||Co ops j !=some d)
  | none=>true)&&
 (List.range N).all (λi=>(deps.getD i []).all (λj=>(CT (ops.getD i default)).contains j))&&
 (List.range N).all (λi=>kds.getD i 0 ==0||(List.range N).all (λj=>kds.getD j 0 !=2||j ==i||(if j<i then(cl.getD i 0).testBit j else(cl.getD j 0).testBit i)))&&
 (List.range ops.length).all (λi=>i<N||(List.range N).all (λj=>(cl.getD i 0).testBit j))&&ops.length≤N+1&&kds.all (·≤2)
section
variable {P : Program} {n : Nat} {c : Cx} {opsA : Array Oper} {Q : Exit → Act → World → Prop}
theorem DP (ops:List Oper)(F:Nat→Prop):∀(rest:List Oper) (acc:List Nat),(∀(t:Nat) o,rest[t]? =some o→∀e∈CT o,F (acc.length+t)→F e)→
  (∀(j i:Nat),(acc.getD j 0).testBit i=true→F j→F i)→∀(j i:Nat),((Id rest acc).getD j 0).testBit i=true→F j→F i
 | [],acc,_,h=>h
 | o::rest,acc,hr,h=>by
  unfold Id;refine DP ops F rest _ (λt o' ht e he hF=>hr (t+1) o' (by simpa using ht) e he (by simpa[Nat.add_assoc,Nat.add_comm 1 t] using hF)) (λj i hb hF=>?_)
  by_cases hj:j<acc.length
  ·refine h j i ?_ hF;simpa[List.getElem?_append_left hj] using hb
  ·by_cases hj2:j=acc.length
   ·subst hj2;simp only[Qp,List.getElem?_append_right (Qx _),Nat.sub_self,List.getElem?_cons_zero,QI] at hb;have key:∀(es:List Nat) (s0:Nat),(es.foldl (λs e=>s||| 2 ^ e||| acc.getD e 0) s0).testBit i=true→s0.testBit i=true∨∃e∈es,e=i∨(acc.getD e 0).testBit i=true:=by
     intro es
     induction es with
     | nil=>intro s0 h0;exact .inl h0
     | cons e es ih=>
      intro s0 h0;rcases ih _ h0 with h1 | ⟨e',he',h1⟩
      ·simp only[Nat.testBit_or,QT,Nat.testBit_two_pow,Qh] at h1;rcases h1 with(h1 | h1) | h1
       ·exact .inl h1
       ·exact .inr ⟨e,by simp,.inl h1⟩
       ·exact .inr ⟨e,by simp,.inr h1⟩
      ·exact .inr ⟨e',by simp[he'],h1⟩
    rcases key (CT o) 0 hb with h0 | ⟨e,he,h1 | h1⟩
    ·simp at h0
    ·subst h1;exact hr 0 o rfl e he (by simpa using hF)
    ·exact h e i h1 (hr 0 o rfl e he (by simpa using hF))
   ·have:(acc++[(CT o).foldl (λs e=>s||| 2 ^ e||| acc.getD e 0) 0]).getD j 0=0:=by
     rw[Qp,List.getElem?_eq_none (by simp;omega)];rfl
    rw[this] at hb;simp at hb
def Hz (P:Program)(n:Nat)(c:Cx)(opsA:Array Oper)(Q:Exit→Act→World→Prop)(ops:List Oper)(sp:List Sp)(l0:Fr):Nat→List Oper→List (List Ent)→Prop
 | i,o::rest,H::H'::Hs=>
  (match (Cp sp i).kd with
   | 0=>H'=H∧∀H,CZ P n c opsA Q (Bw ops sp (Cp sp i).deps l0) H o (Cp sp i).r H
   | 1=>H'=H∧CZ P n c opsA Q (Bw ops sp (Cp sp i).deps l0) H o (Cp sp i).r H
   | _=>CZ P n c opsA Q (Bw ops sp (Cp sp i).deps l0) H o (Cp sp i).r H')∧Hz P n c opsA Q ops sp l0 (i+1) rest (H'::Hs)
 | _,[],[_]=>True
 | _,_,_=>False
theorem Hz.at {ops:List Oper}{sp:List Sp}{l0:Fr}:∀{k:Nat} {rest:List Oper} {Hs:List (List Ent)},Hz P n c opsA Q ops sp l0 k rest Hs→Hs.length=rest.length+1∧∀(t:Nat) o,rest[t]? =some o→
  (match (Cp sp (k+t)).kd with
   | 0=>Hs.getD (t+1) []=Hs.getD t []∧∀H,CZ P n c opsA Q (Bw ops sp (Cp sp (k+t)).deps l0) H o (Cp sp (k+t)).r H
   | 1=>Hs.getD (t+1) []=Hs.getD t []∧CZ P n c opsA Q (Bw ops sp (Cp sp (k+t)).deps l0) (Hs.getD t []) o (Cp sp (k+t)).r (Hs.getD t [])
   | _=>CZ P n c opsA Q (Bw ops sp (Cp sp (k+t)).deps l0) (Hs.getD t []) o (Cp sp (k+t)).r (Hs.getD (t+1) []))
 | k,o::rest,H::H'::Hs,⟨h1,h2⟩=>by
  obtain⟨hl,ih⟩:=Hz.at h2;refine⟨by simp at hl ⊢;omega,λt o' ht=>?_⟩
  cases t with
  | zero=>simp at ht;subst ht;simpa using h1
  | succ t=>
   have:=ih t o' (by simpa using ht);rw[show k+(t+1)=k+1+t from by omega];simpa using this
 | _,[],[_],_=>⟨rfl,λt o h=>by simp at h⟩
theorem HU:∀{l:Fr} {i:Nat} {r:Rp},look l i=some r→i∈D8 l
 | [],i,r,h=>by simp[look] at h
 | p::l,i,r,h=>by
  obtain⟨j,u⟩:=p;rw[Bz] at h
  split at h
  ·rename_i e;subst e;simp[D8]
  ·simp only[D8,QB,QO];exact .inr (HU h)
theorem Hy {ops:List Oper}{sp:List Sp}{l0:Fr}{a:Act}{Z:Fz}(h0:BI n l0 a Z):∀{ds:List Nat},(∀j∈ds,∀d,Co ops j=some d→∃v,a.tmps[d]? =some v∧(Cp sp j).r.p Z v)→BI n (Bw ops sp ds l0) a Z
 | [],_=>h0
 | j::ds,h=>by
  have ih:=Hy h0 (ds:=ds) (λj' hj'=>h j' (by simp[hj']));unfold Bw
  cases hd:Co ops j with
  | none=>exact ih
  | some d=>
   refine⟨ih.size,ih.defers,λi r hi=>?_⟩;rw[Bz] at hi
   split at hi
   ·rename_i e;subst e;simp at hi;subst hi;exact h j (by simp) d hd
   ·exact ih.tm i r hi
theorem Jq {id:Nat}{pre last:List Oper}(sp:List Sp)(Hs:List (List Ent)){l0 l:Fr}{H:List Ent}(hm:P.follows .mixedOrders=true)
  (hB:PB n (pre++last) pre.length (D8 l0) (sp.map (·.deps)) (sp.map (·.kd))=true) (hl0:Oo l0 l) (hsp:sp.length=pre.length) (hH:Hs.getD 0 []=H)
  (hob:Hz P n c (pre++last).toArray Q (pre++last) sp l0 0 pre Hs)
  (h:WL P n c (pre++last).toArray Q last (Bw (pre++last) sp (List.range pre.length) l0) (Hs.getD pre.length [])):WC P n c (.region id (pre++last).toArray true) Q l H:=by
 intro a w Z ha hw;generalize hops:pre++last=ops at *;obtain⟨hHl,hat⟩:=hob.at;simp only[PB,Qm,Q0,List.mem_range,Qh] at hB;obtain⟨⟨⟨⟨⟨⟨b1,b2⟩,b3⟩,b4⟩,b5⟩,b6⟩,b7⟩:=hB;have hN:pre.length≤ops.length:=by rw[← hops];simp
 have hget:∀i,i<pre.length→ops[i]? =pre[i]?:=λi hi=>by rw[← hops,List.getElem?_append_left hi]
 have hkd:∀i,i<pre.length→(sp.map (·.kd)).getD i 0=(Cp sp i).kd:=λi hi=>by
  simp[Cp,Qp,QK,Qk (show i<sp.length by omega)]
 have hdp:∀i,i<pre.length→(sp.map (·.deps)).getD i []=(Cp sp i).deps:=λi hi=>by
  simp[Cp,Qp,QK,Qk (show i<sp.length by omega)]
 have hconst:∀(k b:Nat),b+k≤pre.length→(∀j,b≤j→j<b+k→(Cp sp j).kd≠2)→Hs.getD (b+k) []=Hs.getD b []:=by
  intro k
  induction k with
  | zero=>intro b _ _;rfl
  | succ k ih=>
   intro b hb hj;have hlt:b+k<pre.length:=by omega
   have h1:=hat (b+k) pre[b+k] (Qk hlt);rw[QC] at h1;have hk2:(Cp sp (b+k)).kd≤2:=by
    have:=b7 ((sp.map (·.kd)).getD (b+k) 0) (by
     rw[Qp,Qk (by simp;omega)];exact List.getElem_mem _)
    rw[hkd _ hlt] at this;exact this
   have hne:=hj (b+k) (by omega) (by omega);have e1:Hs.getD (b+k+1) []=Hs.getD (b+k) []:=by
    match hq:(Cp sp (b+k)).kd,h1 with
    | 0,h1=>exact h1.1
    | 1,h1=>exact h1.1
    | 2,_=>exact absurd hq hne
    | q+3,_=>omega
   rw[show b+(k+1)=b+k+1 from by omega,e1];exact ih b (by omega) (λj h1 h2=>hj j h1 (by omega))
 refine wp_region_any hm ?_;have main:∀(fuel:Nat) (listed:Array Bool) (a:Act) (w:World) (Z:Fz) (m:Nat),listed.size=ops.length→listed.toList.count false=fuel→m≤pre.length→
   St c (Hs.getD m []) Z w→BI n l0 a Z→(∀j,j<pre.length→listed.getD j true=true→∀d,Co ops j=some d→∃v,a.tmps[d]? =some v∧(Cp sp j).r.p Z v)→
   (∀j,j<pre.length→(Cp sp j).kd=2→(listed.getD j true=true↔j<m))→(∀j o,ops[j]? =some o→listed.getD j true=true→∀e∈CT o,listed.getD e true=true)→
   (∀j,pre.length≤j→j<ops.length→listed.getD j true=false)→wpAny P .any ops.toArray Q fuel listed a w:=by
  have rdy:∀(listed:Array Bool),listed.size=ops.length→Region.ready .any ops.toArray listed=[]→∀j,j<ops.length→listed.getD j true=true:=by
   intro listed hsz hr j
   induction j using Nat.strongRecOn with
   | ind j ih=>
    intro hj
    cases hb:listed.getD j true with
    | true=>rfl
    | false=>
     have:j∈Region.ready .any ops.toArray listed:=mem_ready.2 ⟨hb,ops[j],by simp[hj],λe he hbn=>by
      have h1:=b1 j hj;rw[Qp,Qk hj] at h1;have hlt:e.on<j:=h1 e.on (by
       simp only[CT,QI,List.mem_map,List.mem_filter];exact⟨e,⟨by simpa using he,hbn⟩,rfl⟩)
      have:=ih e.on hlt (by omega);rw[Array.getD_eq_getD_getElem?] at this ⊢;rw[Array.getElem?_eq_getElem (by omega)] at this ⊢;simpa using this⟩
     rw[hr] at this;cases this
  have fin:∀(listed:Array Bool) (a:Act) (w:World) (Z:Fz) (m:Nat),listed.size=ops.length→m≤pre.length→St c (Hs.getD m []) Z w→BI n l0 a Z→(∀j,j<pre.length→listed.getD j true=true)→
    (∀j,j<pre.length→listed.getD j true=true→∀d,Co ops j=some d→∃v,a.tmps[d]? =some v∧(Cp sp j).r.p Z v)→
    (∀j,j<pre.length→(Cp sp j).kd=2→(listed.getD j true=true↔j<m))→wpList P ops.toArray Q last a w:=by
   intro listed a w Z m hsz hmN hst hag hall hv hloud;refine h a w Z (Hy hag (λj hj d hd=>hv j (by simpa using hj) (hall j (by simpa using hj)) d hd)) ?_;have:=hconst (pre.length-m) m (by omega) (λj h1 h2 h3=>by
    have:=(hloud j (by omega) h3).1 (hall j (by omega));omega)
   rw[show m+(pre.length-m)=pre.length from by omega] at this;rw[this];exact hst
  intro fuel
  induction fuel with
  | zero=>
   intro listed a w Z m hsz hcnt hmN hst hag hv hloud hcl hlast;have hall:∀j,j<ops.length→listed.getD j true=true:=λj hj=>by
    cases hb:listed.getD j true with
    | true=>rfl
    | false=>
     have:false∈listed.toList:=by
      rw[Array.getD_eq_getD_getElem?,Array.getElem?_eq_getElem (by omega)] at hb;simp at hb;rw[← hb];simp
     have:=List.count_pos_iff.2 this;omega
   have hl0':last=[]:=by
    cases last with
    | nil=>rfl
    | cons o r=>
     have hlt:pre.length<ops.length:=by rw[← hops];simp
     have:=hall pre.length hlt;rw[hlast pre.length (Qx _) hlt] at this;cases this
   subst hl0';refine⟨?_,fin listed a w Z m hsz hmN hst hag (λj hj=>hall j (by omega)) hv hloud⟩
   cases hr:Region.ready .any ops.toArray listed with
   | nil=>rfl
   | cons i r=>
    have hi:i∈Region.ready .any ops.toArray listed:=by rw[hr];simp
    obtain⟨h1,o,ho,_⟩:=mem_ready.1 hi;rw[hall i (by have:=(Array.getElem?_eq_some_iff.1 ho).1;simpa using this)] at h1;cases h1
  | succ fuel ih=>
   intro listed a w Z m hsz hcnt hmN hst hag hv hloud hcl hlast;have clo:∀(j i:Nat),((Id ops []).getD j 0).testBit i=true→listed.getD j true=true→listed.getD i true=true:=
    DP ops (λi=>listed.getD i true=true) ops [] (λt o ht e he hF=>hcl t o ht (by simpa using hF) e he) (λj i hb=>by simp at hb)
   refine⟨λhr=>?_,λi hi=>?_⟩
   ·have hall:=rdy listed hsz hr;have:listed.toList.count false=0:=by
     rw[List.count_eq_zero];intro hmem;obtain⟨k,hk⟩:=List.getElem?_of_mem hmem;have hkl:=(List.getElem?_eq_some_iff.1 hk).1;have:=hall k (by simpa[hsz] using hkl);rw[Array.getD_eq_getD_getElem?] at this;simp at hk this;rw[hk] at this;simp at this
    omega
   ·obtain⟨hun,o,ho,haft⟩:=mem_ready.1 hi;have ho':ops[i]? =some o:=by simpa using ho
    have hil:i<ops.length:=(List.getElem?_eq_some_iff.1 ho').1;have hbl:∀e∈CT o,listed.getD e true=true:=λe he=>by
     simp only[CT,List.mem_map,List.mem_filter] at he;obtain⟨x,⟨hx1,hx2⟩,rfl⟩:=he;have h3:=haft x (by simpa using hx1) hx2;rw[Array.getD_eq_getD_getElem?] at h3 ⊢
     cases hq:listed[x.on]? with
     | none=>rw[hq] at h3;cases h3
     | some b=>rw[hq] at h3;simpa using h3
    have hset:∀j,(listed.setIfInBounds i true).getD j true=true↔(j=i∨listed.getD j true=true):=λj=>by
     by_cases hj:i=j
     ·subst hj;have:i<listed.size:=by omega
      simp[this]
     ·rw[getD_set_ne true hj];constructor
      ·exact .inr
      ·rintro(h1 | h1)
       ·exact absurd h1.symm hj
       ·exact h1
    have hsz':(listed.setIfInBounds i true).size=ops.length:=by simpa using hsz
    have hcnt':(listed.setIfInBounds i true).toList.count false=fuel:=by
     have hlt:i<listed.size:=by omega
     have hfi:listed.toList[i]? =some false:=by
      rw[Array.getD_eq_getD_getElem?,Array.getElem?_eq_getElem hlt] at hun;simp at hun;simp[hlt,hun]
     rw[Array.toList_setIfInBounds];have h1:=List.count_set (a:=true) (b:=false) (l:=listed.toList) (i:=i) (by simpa using hlt);have h2:listed.toList[i]'(by simpa using hlt)=false:=by
      have:=List.getElem?_eq_some_iff.1 hfi;exact this.2
     rw[h1,h2,hcnt];rfl
    have hcl':∀j o,ops[j]? =some o→(listed.setIfInBounds i true).getD j true=true→∀e∈CT o,(listed.setIfInBounds i true).getD e true=true:=λj o' hj hl e he=>by
     rw[hset] at hl ⊢;rcases hl with rfl | hl
     ·rw[ho'] at hj;simp at hj;subst hj;exact .inr (hbl e he)
     ·exact .inr (hcl j o' hj hl e he)
    unfold wpOp;have hoA:ops.toArray[i]? =some o:=ho;simp only[hoA]
    by_cases hiN:i<pre.length
    · -- one of those at the front
     have hpre:pre[i]? =some o:=by rw[← hget i hiN];exact ho'
     have h1:=hat i o hpre;rw[QC] at h1;have hag':BI n (Bw ops sp (Cp sp i).deps l0) a Z:=Hy hag (λj hj d hd=>by
      have h3:=b3 i hiN;rw[hdp i hiN] at h3;have h4:=h3 j hj;rw[Qp,ho',QI,List.contains_iff_mem] at h4;have hlj:=hbl j h4;have hji:j<i:=by
       have:=b1 i hil;rw[Qp,ho',QI] at this;exact this j h4
      exact hv j (by omega) hlj d hd)
     have hdst:∀d,o.dst=some d→(d<n∧d ∉ D8 l0)∧∀j,j<pre.length→j≠i→Co ops j≠some d:=λd hd=>by
      have h3:=b2 i hiN;have:Co ops i=some d:=by simp[Co,ho',hd]
      rw[this] at h3;simp only[Qm,QL,Q0,List.mem_range,Qh] at h3;refine⟨⟨h3.1.1,λhmem=>by rw[← List.contains_iff_mem] at hmem;rw[hmem] at h3;cases h3.1.2⟩,λj hj hne he=>?_⟩;have:=h3.2 j hj;simp[hne,he] at this
     have after:∀(v:Value) (w':World) (Z':Fz) (m':Nat),m'≤pre.length→Fz.le Z Z'→(o.dst≠none→(Cp sp i).r.p Z' v)→St c (Hs.getD m' []) Z' w'→
       (∀j,j<pre.length→(Cp sp j).kd=2→((listed.setIfInBounds i true).getD j true=true↔j<m'))→wpAny P .any ops.toArray Q fuel (listed.setIfInBounds i true) (a.put o.dst v) w':=by
      intro v w' Z' m' hm' hz hp hst' hloud';have hput:∀k u,a.tmps[k]? =some u→o.dst≠some k→(a.put o.dst v).tmps[k]? =some u:=λk u hk hne=>by
       cases hd:o.dst with
       | none=>simpa[Act.put] using hk
       | some d=>
        simp only[Act.put,Array.getElem?_setIfInBounds];rw[QR (λe=>hne (by rw[hd,e]))];exact hk
      refine ih _ _ _ Z' m' hsz' hcnt' hm' hst' ⟨?_,?_,λk r hk=>?_⟩ (λj hj hl d hd=>?_) hloud' hcl' (λj h1 h2=>?_)
      ·cases o.dst<;>simp[Act.put,hag.size]
      ·cases o.dst<;>simp[Act.put,hag.defers]
      ·obtain⟨u,hu,hpu⟩:=hag.tm k r hk;exact⟨u,hput k u hu (λe=>(hdst k e).1.2 (HU hk)),r.mono hz hpu⟩
      ·by_cases hji:j=i
       ·subst hji;have hod:o.dst=some d:=by simpa[Co,ho'] using hd
        refine⟨v,?_,hp (by simp[hod])⟩;have hdn:d<a.tmps.size:=by rw[hag.size];exact(hdst d hod).1.1
        simp[Act.put,hod,hdn]
       ·rw[hset] at hl;rcases hl with hl | hl
        ·exact absurd hl hji
        ·obtain⟨u,hu,hpu⟩:=hv j hj hl d hd;exact⟨u,hput d u hu (λe=>(hdst d e).2 j hj hji hd),(Cp sp j).r.mono hz hpu⟩
      ·rw[getD_set_ne true (by omega)];exact hlast j h1 h2
     have loudSame:(Cp sp i).kd≠2→∀j,j<pre.length→(Cp sp j).kd=2→((listed.setIfInBounds i true).getD j true=true↔j<m):=λhne j hj hk=>by
      rw[hset,← hloud j hj hk];constructor
      ·rintro(h1 | h1)
       ·subst h1;exact absurd hk hne
       ·exact h1
      ·exact .inr
     have level:(Cp sp i).kd≠0→Hs.getD i []=Hs.getD m []∧∀j,j<pre.length→(Cp sp j).kd=2→j≠i→(listed.getD j true=true↔j<i):=λhne=>by
      have ord:∀j,j<pre.length→(Cp sp j).kd=2→j≠i→(listed.getD j true=true↔j<i):=λj hj hk hji=>by
       have h3:=b4 i hiN;rw[hkd i hiN,QT,beq_iff_eq] at h3;rcases h3 with h3 | h3
       ·exact absurd h3 hne
       ·rw[Q0] at h3;have h4:=h3 j (by simpa using hj);rw[hkd j hj,hk] at h4;simp only[bne_self_eq_false,Qz,QT,beq_iff_eq,hji,false_or] at h4
        by_cases hlt:j<i
        ·rw[if_pos hlt] at h4;have:listed.getD j true=true:=by
          have hcl2:∀(k q:Nat),((Id ops []).getD k 0).testBit q=true→(k=i∨listed.getD k true=true)→(q=i∨listed.getD q true=true):=
           DP ops (λk=>k=i∨listed.getD k true=true) ops [] (λt o' ht e he hF=>by
            rcases hF with hF | hF
            ·simp at hF;subst hF;rw[ho'] at ht;simp at ht;subst ht;exact .inr (hbl e he)
            ·exact .inr (hcl t o' ht (by simpa using hF) e he)) (λj i hb=>by simp at hb)
          rcases hcl2 i j h4 (.inl rfl) with h5 | h5
          ·exact absurd h5 hji
          ·exact h5
         exact⟨λ_=>hlt,λ_=>this⟩
        ·rw[QR hlt] at h4;refine⟨λh5=>?_,λh5=>absurd h5 hlt⟩;have:=clo j i h4 h5;rw[this] at hun;cases hun
      refine⟨?_,ord⟩;rcases Nat.le_total m i with hmi | hmi
      ·have:=hconst (i-m) m (by omega) (λj h1 h2 h3=>by
        have h4:=(ord j (by omega) h3 (by omega)).2 (by omega);have:=(hloud j (by omega) h3).1 h4;omega)
       rw[show m+(i-m)=i from by omega] at this;exact this
      ·have:=hconst (m-i) i (by omega) (λj h1 h2 h3=>by
        have h4:=(hloud j (by omega) h3).2 (by omega)
        by_cases hji:j=i
        ·subst hji;rw[h4] at hun;cases hun
        ·have:=(ord j (by omega) h3 hji).1 h4;omega)
       rw[show i+(m-i)=m from by omega] at this;exact this.symm
     have step:∀H',CZ P n c ops.toArray Q (Bw ops sp (Cp sp i).deps l0) (Hs.getD m []) o (Cp sp i).r H'→(∃m',m'≤pre.length∧H'=Hs.getD m' []∧∀j,j<pre.length→(Cp sp j).kd=2→((listed.setIfInBounds i true).getD j true=true↔j<m'))→
       (if Region.wanted o (yielded ops.toArray a.tmps) then o.wp P a w (wpAny P .any ops.toArray Q fuel (listed.setIfInBounds i true)) Q∨(o.asks P a w∧LetsOut Q) else wpAny P .any ops.toArray Q fuel (listed.setIfInBounds i true) (a.put o.dst undef) w):=λH' hok ⟨m',hm',hHm,hl'⟩=>by
      obtain⟨k1,k2⟩:=hok a w Z (wpAny P .any ops.toArray Q fuel (listed.setIfInBounds i true)) hag' hst (λv w' Z' hz hp hs=>after v w' Z' m' hm' hz (λ_=>hp) (by rw[← hHm];exact hs) hl')
      split
      ·rename_i hw';exact .inl (k1 hw')
      ·rename_i hw';exact k2 (by simpa using hw')
     have hk2:(Cp sp i).kd≤2:=by
      have:=b7 ((sp.map (·.kd)).getD i 0) (by
       rw[Qp,Qk (by simp;omega)];exact List.getElem_mem _)
      rw[hkd _ hiN] at this;exact this
     match hq:(Cp sp i).kd,h1 with
     | 0,h1=>exact step _ (h1.2 _) ⟨m,hmN,rfl,loudSame (by omega)⟩
     | 1,h1=>
      obtain⟨e1,e2⟩:=level (by omega);refine step _ (by rw[← e1];exact h1.2) ⟨m,hmN,e1,loudSame (by omega)⟩
     | 2,h1=>
      obtain⟨e1,e2⟩:=level (by omega);refine step _ (by rw[← e1];exact h1) ⟨i+1,by omega,rfl,λj hj hk=>?_⟩;rw[hset]
      by_cases hji:j=i
      ·subst hji;simp
      ·rw[e2 j hj hk hji];simp[hji];omega
     | q+3,_=>omega
    · -- the last one
     have hNi:i=pre.length:=by omega
     have hlast1:∃r,last=o::r:=by
      cases last with
      | nil=>rw[← hops] at hil;simp at hil;omega
      | cons o' r=>
       rw[← hops,hNi] at ho';simp at ho';exact⟨r,by rw[ho']⟩
     obtain⟨r,rfl⟩:=hlast1;have hr:r=[]:=by
      have:=b6;rw[← hops] at this;simp at this
      cases r with
      | nil=>rfl
      | cons _ _=>simp at this
     subst hr;have hall:∀j,j<pre.length→listed.getD j true=true:=λj hj=>by
      have hcl2:∀(k q:Nat),((Id ops []).getD k 0).testBit q=true→(k=i∨listed.getD k true=true)→(q=i∨listed.getD q true=true):=
       DP ops (λk=>k=i∨listed.getD k true=true) ops [] (λt o' ht e he hF=>by
        rcases hF with hF | hF
        ·simp at hF;subst hF;rw[ho'] at ht;simp at ht;subst ht;exact .inr (hbl e he)
        ·exact .inr (hcl t o' ht (by simpa using hF) e he)) (λj i hb=>by simp at hb)
      have h5:=b5 i hil;simp only[QT,Qh,Q0,List.mem_range] at h5;rcases h5 with h5 | h5
      ·omega
      ·rcases hcl2 i j (h5 j hj) (.inl rfl) with h6 | h6
       ·omega
       ·exact h6
     have hf:=fin listed a w Z m hsz hmN hst hag hall hv hloud;have kk:∀a' w',Q .normal a' w'→wpAny P .any ops.toArray Q fuel (listed.setIfInBounds i true) a' w':=λa' w' hq=>by
      have hall':∀j,j<ops.length→(listed.setIfInBounds i true).getD j true=true:=λj hj=>by
       rw[hset]
       by_cases hji:j=i
       ·exact .inl hji
       ·refine .inr (hall j ?_);have:ops.length=pre.length+1:=by rw[← hops];simp
        omega
      have hnr:Region.ready .any ops.toArray (listed.setIfInBounds i true)=[]:=by
       cases hr:Region.ready .any ops.toArray (listed.setIfInBounds i true) with
       | nil=>rfl
       | cons k r=>
        have hk:k∈Region.ready .any ops.toArray (listed.setIfInBounds i true):=by rw[hr];simp
        obtain⟨h1,o2,ho2,_⟩:=mem_ready.1 hk;rw[hall' k (by have:=(Array.getElem?_eq_some_iff.1 ho2).1;simpa using this)] at h1;cases h1
      cases fuel with
      | zero=>exact⟨hnr,hq⟩
      | succ f=>exact⟨λ_=>hq,λk hk=>by rw[hnr] at hk;cases hk⟩
     simp only[wpList] at hf
     split
     ·rename_i hw'
      rw[if_pos hw'] at hf;exact hf.imp (λh=>Oper.wp_mono kk h) (λh=>h)
     ·rename_i hw'
      rw[QR hw'] at hf;exact kk _ _ hf
 have e0:∀j,j<ops.length→(Array.replicate ops.length false).getD j true=false:=λj hj=>by simp[hj]
 have hsz0:ops.toArray.size=ops.length:=by simp
 rw[hsz0];refine main ops.length (Array.replicate ops.length false) a _ Z 0 (by simp) (by simp) (QJ _) (by rw[hH];exact hw.drawn _) (ha.subL hl0) (λj hj hl=>?_) (λj hj _=>?_) (λj o hj hl=>?_) (λj _ h2=>e0 j h2)
 ·rw[e0 j (by omega)] at hl;cases hl
 ·rw[e0 j (by omega)];simp
 ·rw[e0 j (List.getElem?_eq_some_iff.1 hj).1] at hl;cases hl
section
variable {ops : List Oper} {sp : List Sp} {l0 l : Fr} {H H' : List Ent} {Hs : List (List Ent)} {i : Nat} {o : Oper} {rest all : List Oper}
theorem Er (hk:(Cp sp i).kd=0)(h:∀H,CZ P n c opsA Q (Bw all sp (Cp sp i).deps l0) H o (Cp sp i).r H)(hr:Hz P n c opsA Q all sp l0 (i+1) rest (H::Hs)):Hz P n c opsA Q all sp l0 i (o::rest) (H::H::Hs):=by
 refine⟨?_,hr⟩;rw[hk];exact⟨rfl,h⟩
theorem Pp (hk:(Cp sp i).kd=1)(h:CZ P n c opsA Q (Bw all sp (Cp sp i).deps l0) H o (Cp sp i).r H)(hr:Hz P n c opsA Q all sp l0 (i+1) rest (H::Hs)):Hz P n c opsA Q all sp l0 i (o::rest) (H::H::Hs):=by
 refine⟨?_,hr⟩;rw[hk];exact⟨rfl,h⟩
theorem HP (hk:(Cp sp i).kd=2)(h:CZ P n c opsA Q (Bw all sp (Cp sp i).deps l0) H o (Cp sp i).r H')(hr:Hz P n c opsA Q all sp l0 (i+1) rest (H'::Hs)):Hz P n c opsA Q all sp l0 i (o::rest) (H::H'::Hs):=by
 refine⟨?_,hr⟩;rw[hk];exact h
theorem CI:Hz P n c opsA Q all sp l0 i [] [H]:=trivial
def Jm:List Oper→List Sp→Fr→Fr
 | o::os,s::sp,l=>match o.dst with
  | some d=>(d,s.r)::Jm os sp l
  | none=>Jm os sp l
 | _,_,l=>l
theorem Jl {all:List Oper}{sp:List Sp}{l0:Fr}:∀(os:List Oper) (ss:List Sp) (k:Nat),os=all.drop k→ss=sp.drop k→ss.length=os.length→Bw all sp (List.range' k os.length) l0=Jm os ss l0
 | [],_,_,_,_,_=>by cases ‹List Sp›<;>rfl
 | o::os,[],_,_,_,h=>by simp at h
 | o::os,s::ss,k,ho,hs,h=>by
  have e1:all[k]? =some o:=by
   have:=congrArg (·[0]?) ho;simp at this;exact this.symm
  have e2:sp[k]? =some s:=by
   have:=congrArg (·[0]?) hs;simp at this;exact this.symm
  have ih:=Jl (l0:=l0) os ss (k+1) (by have:=congrArg List.tail ho;simpa using this) (by have:=congrArg List.tail hs;simpa using this) (by simpa using h);simp only[Qt,List.range'_succ];unfold Bw Jm;rw[ih];simp only[Co,Cp,e1,e2,Option.bind_some,Qp,QI]
  cases o.dst<;>rfl
structure Kz (ks:List Nat) (os:List Oper) (sp:List Sp) (l0 l1:Fr):Prop where
 go:Kp ks (Jm os sp l0) l1
theorem Py {ks:List Nat}{d:Nat}{r:Rp}{ty:TypeId}{pos:String}{af:Array Edge}{op:Op}{g:Option (Nat×Bool)}{os:List Oper}{ds:List Nat}{kd:Nat}{sp:List Sp}{l0 l1:Fr}(h:ks.contains d=true)(t:Kz ks os sp l0 l1) :
  Kz ks ({ dst:=some d,op:=op,type:=ty,pos:=pos,after:=af,guard:=g }::os) (⟨ds,r,kd⟩::sp) l0 ((d,r)::l1):=⟨IX h t.go⟩
theorem P0 {ks:List Nat}{d:Nat}{r:Rp}{ty:TypeId}{pos:String}{af:Array Edge}{op:Op}{g:Option (Nat×Bool)}{os:List Oper}{ds:List Nat}{kd:Nat}{sp:List Sp}{l0 l1:Fr}(h:ks.contains d=false)(t:Kz ks os sp l0 l1) :
  Kz ks ({ dst:=some d,op:=op,type:=ty,pos:=pos,after:=af,guard:=g }::os) (⟨ds,r,kd⟩::sp) l0 l1:=⟨JM h t.go⟩
theorem Pz {ks:List Nat}{ty:TypeId}{pos:String}{af:Array Edge}{op:Op}{g:Option (Nat×Bool)}{os:List Oper}{s:Sp}{sp:List Sp}{l0 l1:Fr}(t:Kz ks os sp l0 l1) :
  Kz ks ({ dst:=none,op:=op,type:=ty,pos:=pos,after:=af,guard:=g }::os) (s::sp) l0 l1:=⟨t.go⟩
theorem P1 {ks:List Nat}{l0 l1:Fr}(t:Kp ks l0 l1):Kz ks [] [] l0 l1:=⟨t⟩
theorem Em {id:Nat}{os:List Oper}{l0 l1:Fr}(ks0:List Nat)(sp:List Sp)(Hs:List (List Ent))(ks:List Nat){H1:List Ent}
  (hob:Hz P n c os.toArray Q os sp l0 0 os Hs) (h:WK n c (Q .normal) l1 H1)
  (h0:Kp ks0 l l0:=by repeat (first | exact LL | (apply IX;rfl) | (apply JM;rfl)))
  (hz:Kz ks os sp l0 l1:=by repeat (first | (apply Py;rfl) | (apply P0;rfl) | apply Pz | apply P1 | exact LL | (apply IX;rfl) | (apply JM;rfl)))
  (hm:P.follows .mixedOrders=true:=by kernel_rfl) (hB:PB n os os.length (D8 l0) (sp.map (·.deps)) (sp.map (·.kd))=true:=by kernel_rfl)
  (hsp:sp.length=os.length:=by rfl) (hH:Hs.getD 0 []=H:=by rfl) (hH1:Hs.getD os.length []=H1:=by rfl):WC P n c (.region id os.toArray true) Q l H:=by
 have hk:WK n c (Q .normal) (Bw os sp (List.range os.length) l0) (Hs.getD os.length []):=λa w Z ha hw=>h a w Z (ha.subL (by
   have e:=Jl (all:=os) (sp:=sp) (l0:=l0) os sp 0 (by simp) (by simp) hsp;rw[List.range_eq_range',e];exact hz.go.one)) (by rw[← hH1];exact hw)
 have:=Jq (Q:=Q) (id:=id) (pre:=os) (last:=[]) sp Hs (l0:=l0) (l:=l) (H:=H) hm (by simpa using hB) h0.one hsp hH (by simpa using hob) (Au (by simpa using hk));simpa using this
theorem Da {id:Nat}{os:List Oper}{l0 l1:Fr}(ks0:List Nat)(sp:List Sp)(ks:List Nat)
  (hob:Hz P n c os.toArray Q os sp l0 0 os (List.replicate (os.length+1) H)) (h:WK n c (Q .normal) l1 H)
  (h0:Kp ks0 l l0:=by repeat (first | exact LL | (apply IX;rfl) | (apply JM;rfl)))
  (hz:Kz ks os sp l0 l1:=by repeat (first | (apply Py;rfl) | (apply P0;rfl) | apply Pz | apply P1 | exact LL | (apply IX;rfl) | (apply JM;rfl)))
  (hm:P.follows .mixedOrders=true:=by kernel_rfl) (hB:PB n os os.length (D8 l0) (sp.map (·.deps)) (sp.map (·.kd))=true:=by kernel_rfl)
  (hsp:sp.length=os.length:=by rfl):WC P n c (.region id os.toArray true) Q l H:=
 Em ks0 sp _ ks hob h h0 hz hm hB hsp (by simp) (by simp[Qp,List.getElem?_replicate])
end
section
variable {l : Fr} {H H' : List Ent} {d : Nat} {op : Op} {ty : TypeId} {pos : String} {af : Array Edge} {r : Rp}
theorem NP (hr:AS P n c l H { dst:=some d,op:=op,type:=ty,pos:=pos,after:=af,guard:=none } r):CZ P n c opsA Q l H { dst:=some d,op:=op,type:=ty,pos:=pos,after:=af,guard:=none } r H:=λa w Z K ha hw hK=>
 ⟨λ_=>by
  obtain⟨v,hv,he⟩:=hr a w Z ha hw;unfold Oper.wp;rw[he];exact hK v w Z (Fz.le.refl _) hv hw,λh=>by simp[Region.wanted] at h⟩
theorem I1 {d:Option Nat}{j dj:Nat}{want b:Bool}(hj:Cf opsA j=some dj)(hv:look l dj=some (rB b))(hb:b=want)
  (h:CZ P n c opsA Q l H { dst:=d,op:=op,type:=ty,pos:=pos,after:=af,guard:=none } r H'):CZ P n c opsA Q l H { dst:=d,op:=op,type:=ty,pos:=pos,after:=af,guard:=some (j,want) } r H':=λa w Z K ha hw hK=>by
 obtain⟨h1,_⟩:=h a w Z K ha hw hK;have hy:=BR ha hj hv;subst hb;refine⟨λ_=>h1 (by simp[Region.wanted]),λh2=>?_⟩;simp[Region.wanted,hy] at h2
theorem OL {d:Option Nat}{j dj:Nat}{want b:Bool}(hj:Cf opsA j=some dj)(hv:look l dj=some (rB b))(hb:b = !want):CZ P n c opsA Q l H { dst:=d,op:=op,type:=ty,pos:=pos,after:=af,guard:=some (j,want) } (rv undef) H:=λa w Z K ha hw hK=>by
 have hy:=BR ha hj hv;subst hb;refine⟨λh2=>?_,λ_=>hK undef w Z (Fz.le.refl _) rfl hw⟩;simp[Region.wanted,hy] at h2
theorem MF {d:Option Nat}{j dj:Nat}{want:Bool}(hj:Cf opsA j=some dj)(hv:look l dj=some (rv undef)):CZ P n c opsA Q l H { dst:=d,op:=op,type:=ty,pos:=pos,after:=af,guard:=some (j,want) } (rv undef) H:=λa w Z K ha hw hK=>by
 have hy:=CU ha hj hv;refine⟨λh2=>?_,λ_=>hK undef w Z (Fz.le.refl _) rfl hw⟩;simp[Region.wanted,hy] at h2
theorem oq {all:List Oper}{sp:List Sp}{l0:Fr}{i:Nat}{rest:List Oper}{Hs:List (List Ent)}{c:Cx}
  (hr:∀{H},AS P n c (Bw all sp (Cp sp i).deps l0) H { dst:=some d,op:=op,type:=ty,pos:=pos,after:=af,guard:=none } (Cp sp i).r)
  (h:Hz P n c opsA Q all sp l0 (i+1) rest (H::Hs)) (hk:(Cp sp i).kd=0:=by rfl):Hz P n c opsA Q all sp l0 i ({ dst:=some d,op:=op,type:=ty,pos:=pos,after:=af,guard:=none }::rest) (H::H::Hs):=Er hk (λ_=>NP hr) h
theorem of {all:List Oper}{sp:List Sp}{l0:Fr}{i:Nat}{rest:List Oper}{Hs:List (List Ent)}{c:Cx}
  (hr:AS P n c (Bw all sp (Cp sp i).deps l0) H { dst:=some d,op:=op,type:=ty,pos:=pos,after:=af,guard:=none } (Cp sp i).r)
  (h:Hz P n c opsA Q all sp l0 (i+1) rest (H::Hs)) (hk:(Cp sp i).kd=1:=by rfl):Hz P n c opsA Q all sp l0 i ({ dst:=some d,op:=op,type:=ty,pos:=pos,after:=af,guard:=none }::rest) (H::H::Hs):=Pp hk (NP hr) h
theorem on {d:Option Nat}{all:List Oper}{sp:List Sp}{l0:Fr}{i:Nat}{rest:List Oper}{Hs:List (List Ent)}{c:Cx}{j dj:Nat}{want b:Bool}(hb:b=want)
  (h:Hz P n c opsA Q all sp l0 i ({ dst:=d,op:=op,type:=ty,pos:=pos,after:=af,guard:=none }::rest) (H::H'::Hs))
  (hj:Cf opsA j=some dj:=by rfl) (hv:look (Bw all sp (Cp sp i).deps l0) dj=some (rB b):=by rfl):Hz P n c opsA Q all sp l0 i ({ dst:=d,op:=op,type:=ty,pos:=pos,after:=af,guard:=some (j,want) }::rest) (H::H'::Hs):=by
 obtain⟨h1,h2⟩:=h;refine⟨?_,h2⟩;revert h1
 split
 ·exact λh1=>⟨h1.1,λH=>I1 hj hv hb (h1.2 H)⟩
 ·exact λh1=>⟨h1.1,I1 hj hv hb h1.2⟩
 ·exact λh1=>I1 hj hv hb h1
theorem oz {d:Option Nat}{all:List Oper}{sp:List Sp}{l0:Fr}{i:Nat}{rest:List Oper}{Hs:List (List Ent)}{c:Cx}{j dj:Nat}{want b:Bool}(hb:b = !want)(h:Hz P n c opsA Q all sp l0 (i+1) rest (H::Hs))(hk:(Cp sp i).kd=0:=by rfl)(hr:rv undef=(Cp sp i).r:=by rfl)
  (hj:Cf opsA j=some dj:=by rfl) (hv:look (Bw all sp (Cp sp i).deps l0) dj=some (rB b):=by rfl):Hz P n c opsA Q all sp l0 i ({ dst:=d,op:=op,type:=ty,pos:=pos,after:=af,guard:=some (j,want) }::rest) (H::H::Hs):=
 Er hk (λ_=>hr▸OL hj hv hb) h
theorem ou {d:Option Nat}{all:List Oper}{sp:List Sp}{l0:Fr}{i:Nat}{rest:List Oper}{Hs:List (List Ent)}{c:Cx}{j dj:Nat}{want:Bool}(h:Hz P n c opsA Q all sp l0 (i+1) rest (H::Hs))(hk:(Cp sp i).kd=0:=by rfl)(hr:rv undef=(Cp sp i).r:=by rfl)
  (hj:Cf opsA j=some dj:=by rfl) (hv:look (Bw all sp (Cp sp i).deps l0) dj=some (rv undef):=by rfl):Hz P n c opsA Q all sp l0 i ({ dst:=d,op:=op,type:=ty,pos:=pos,after:=af,guard:=some (j,want) }::rest) (H::H::Hs):=
 Er hk (λ_=>hr▸MF hj hv) h
theorem MG {f:FuncId}{args:List Operand}{ats:Array TypeId}{rs:List Rp}{r r':Rp}(hcall:∀(as1:Array Value) (w:World),(callFunc f as1).run P w = .ok (.enter f as1) w)(hv:Jc l args=some rs)
  (hc:II P c.E f rs r') (hr:r'=r):CZ P n c opsA Q l H { dst:=some d,op:=.call { callee:=.value (.func f),args:=args.toArray,argTypes:=ats },type:=ty,pos:=pos,after:=af,guard:=none } r H:=λa w Z K ha hw hK=>
 ⟨λ_=>by
  unfold Oper.wp;rw[DU rfl hcall w];refine(hc w Z _ (EF ha hv) (St.enter (Hin:=[]) (Hr:=H) hw)).mono ?_;rintro e w' ⟨r2,v,Ho,Z',rfl,⟨rfl,rfl⟩,hr2,hs⟩;subst hr;exact hK v w' Z' hs.le hr2 (by simpa using hw.call0 hs),λh=>by simp[Region.wanted] at h⟩
def Pd (P:Program)(n:Nat)(c:Cx)(l:Fr)(H:List Ent)(o:Oper)(H':List Ent):Prop:=∀a w Z,BI n l a Z→St c H Z w→∃w',(execOp a.eval o).run P w = .ok .skip w'∧St c H' Z w'
theorem J8 (hr:Pd P n c l H { dst:=none,op:=op,type:=ty,pos:=pos,after:=af,guard:=none } H'):CZ P n c opsA Q l H { dst:=none,op:=op,type:=ty,pos:=pos,after:=af,guard:=none } (rv undef) H':=λa w Z K ha hw hK=>
 ⟨λ_=>by
  obtain⟨w',he,hs⟩:=hr a w Z ha hw;unfold Oper.wp;rw[he];exact hK undef w' Z (Fz.le.refl _) rfl hs,λh=>by simp[Region.wanted] at h⟩
end
section
variable {ops : Array Oper} {rest : List Oper} {l : Fr} {H H' : List Ent} {d : Nat} {d' : Option Nat} {x y : Operand} {ty t t' e : TypeId} {pos : String} {af : Array Edge} {g : Option (Nat × Bool)} {v u : Value} {r : Rp} {sz : Nat}
theorem IH {i b off:Nat}{cs:List Rp}(hag:∀w,(sizeOf t).run P w = .ok 1 w)(hx:ev l x=some (rv (.pointer (some ⟨b,off,none⟩))))(hy:ev l y=some r)(hv:K8 H r)
  (hi:H[i]? =some (.blk b cs e)) (hlt:Nat.blt off cs.length=true) {cs':List Rp} (hcs:cs.set off r=cs') (hH:H.set i (.blk b cs' e)=H'):Pd P n c l H { dst:=none,op:=.store t x y,type:=ty,pos:=pos,after:=af,guard:=none } H':=λa w Z ha hw=>by
  obtain⟨us,hb,h2⟩:=hw.ent hi;have hr:=ha.ev hy;have hone:=hv c Z w _ hw hr;have hlen:=h2.length;have hlt':off<us.length:=by rw[hlen];simpa using hlt
  have h1:=run_storeCells_at P b off e [a.eval y] 0 us.toArray w hb (by simp;omega) (by simpa using hone);have hcv:=B0 hone;have h3:us.take off++[a.eval y]++us.drop (off+1)=us.set off (a.eval y):=by
   simp[List.set_eq_take_append_cons_drop,hlt']
  simp only[Nat.add_zero,Qt,QS,QC] at h1;rw[h3] at h1;refine⟨w.setRow b (us.set off (a.eval y)).toArray,?_,?_⟩
  ·simp[execOp,ha.eval hx,Instr.storeAt,Instr.sureAddr,storeVar,hag,hcv,h1]
  ·subst hH;subst hcs;refine hw.set hi rfl rfl rfl (by simp[World.setRow]) (λk _ hk=>?_) ⟨us.set off (a.eval y),setRow_heap w b _ _ e (0,0) hb,h2.set off hr⟩ (by simp[Ent.foot]);simp only[Ent.foot,Q1] at hk;simp only[World.setRow,Array.getElem?_modify];rw[QR (λe=>hk e.symm)]
theorem BU {i b off:Nat}{cs rs:List Rp}(hsz:∀w,(sizeOf t).run P w = .ok sz w)(hx:ev l x=some (rv (.pointer (some ⟨b,off,none⟩))))(hy:ev l y=some (Bh rs))
  (hl:rs.length=sz) (hv:B5 H rs) (hi:H[i]? =some (.blk b cs e)) (hlt:Nat.ble (off+sz) cs.length=true) {cs':List Rp}
  (hcs:cs.take off++rs++cs.drop (off+sz)=cs') (hH:H.set i (.blk b cs' e)=H'):Pd P n c l H { dst:=none,op:=.store t x y,type:=ty,pos:=pos,after:=af,guard:=none } H':=λa w Z ha hw=>by
  obtain⟨us,hb,h2⟩:=hw.ent hi;obtain⟨vs,e1,h4⟩:=ha.ev hy;have hlen:=h2.length;have hvl:=h4.length;have hlt':off+sz≤us.length:=by rw[hlen];simpa using hlt
  have h1:=run_storeCells_at P b off e vs 0 us.toArray w hb (by simp;omega) (λv hv'=>hv.at hw h4 v hv');simp only[Nat.add_zero] at h1;refine⟨w.setRow b (us.take off++vs++us.drop (off+sz)).toArray,?_,?_⟩
  ·have h5:vs.length=sz:=by omega
   rw[h5] at h1;simp only[QP] at h1 ⊢;simp[execOp,ha.eval hx,e1,Instr.storeAt,Instr.sureAddr,storeVar,hsz,Value.cells,h5,h1]
  ·subst hH;subst hcs;refine hw.set hi rfl rfl rfl (by simp[World.setRow]) (λk _ hk=>?_) ⟨us.take off++vs++us.drop (off+sz),setRow_heap w b _ _ e (0,0) hb,((h2.take off).append h4).append (h2.drop (off+sz))⟩ (by simp[Ent.foot]);simp only[Ent.foot,Q1] at hk;simp only[World.setRow,Array.getElem?_modify];rw[QR (λe=>hk e.symm)]
end
end
end Go.Proofs.YtkoiaconljdbeaaDoor.Q
namespace Go.Proofs.YtkoiaconljdbeaaDoor
open Go Go.RowKit
set_option linter.unusedVariables false
set_option linter.unusedSimpArgs false
set_option maxRecDepth 100000
theorem KJ (c:Int)(w:World):Calls Tryd.prog 57 [.int .i32 (c)].toArray w (It w (.bool (BV c))):=by
 refine GM (n:=9) Tryd.func57 rfl Tryd.ntmps57 rfl (Ax (Av (Aw (An rfl) rfl (Au (A0 (Bl ?_))))));refine AI [(2,.bool (((decide ((97)≤(c)))&&(decide ((c)≤(122))))))] [] (φ:=True) ?_ (λhm1=>?_)
 ·refine Av (Aw (Aj rfl) rfl (Aw (HR rfl rfl) rfl (Aw (Aj rfl) rfl (AG (decide ((97)≤(c))) (λh1=>?_) (λh1=>?_)))))
  ·have g1:=h1;try simp only[Qh,Qi] at g1
   refine AF rfl rfl h1 (Aw (Aj rfl) rfl (AF rfl rfl h1 (Aw (EW rfl rfl) rfl (Aw (Aq rfl h1 rfl) rfl (Aw (An rfl) rfl (Au ?_))))));exact A0 (Bu trivial ⟨fb (by simp[h1]),trivial⟩ .slnil)
  ·have g1:=h1;try simp only[Qh,Qi] at g1
   refine Am rfl rfl h1 rfl (Am rfl rfl h1 rfl (Aw (Ay rfl h1 rfl) rfl (Aw (An rfl) rfl (Au ?_))));exact A0 (Bu trivial ⟨fb (by simp[h1]),trivial⟩ .slnil)
 refine A4 (A3 (BF rfl rfl) ?_);exact J1 (by first | rfl | simp[])
theorem Lf (c:Int)(w:World):Calls Tryd.prog 58 [.int .i32 (c)].toArray w (It w (.bool (C5 c))):=by
 refine GM (n:=9) Tryd.func58 rfl Tryd.ntmps58 rfl (Ax (Av (Aw (An rfl) rfl (Au (A0 (Bl ?_))))));refine AI [(2,.bool (((decide ((48)≤(c)))&&(decide ((c)≤(57))))))] [] (φ:=True) ?_ (λhm3=>?_)
 ·refine Av (Aw (Aj rfl) rfl (Aw (HR rfl rfl) rfl (Aw (Aj rfl) rfl (AG (decide ((48)≤(c))) (λh3=>?_) (λh3=>?_)))))
  ·have g3:=h3;try simp only[Qh,Qi] at g3
   refine AF rfl rfl h3 (Aw (Aj rfl) rfl (AF rfl rfl h3 (Aw (EW rfl rfl) rfl (Aw (Aq rfl h3 rfl) rfl (Aw (An rfl) rfl (Au ?_))))));exact A0 (Bu trivial ⟨fb (by simp[h3]),trivial⟩ .slnil)
  ·have g3:=h3;try simp only[Qh,Qi] at g3
   refine Am rfl rfl h3 rfl (Am rfl rfl h3 rfl (Aw (Ay rfl h3 rfl) rfl (Aw (An rfl) rfl (Au ?_))));exact A0 (Bu trivial ⟨fb (by simp[h3]),trivial⟩ .slnil)
 refine A4 (A3 (BF rfl rfl) ?_);exact J1 (by first | rfl | simp[])
theorem MY (c:Int)(w:World):Calls Tryd.prog 56 [.int .i32 (c)].toArray w (It w (.bool (CK c))):=by
 refine GM (n:=37) Tryd.func56 rfl Tryd.ntmps56 rfl (Ax (Av (Aw (An rfl) rfl (Au (A0 (Bl ?_))))));refine AI [(2,.bool (((BV c)||((C5 c)||(bif decide ((65)≤(c)) then((decide ((c)≤(90)))||((decide ((c)=(45)))||((decide ((c)=(95)))||((decide ((c)=(46)))||((decide ((c)=(58)))||(decide ((c)=(47)))))))) else((decide ((c)=(45)))||((decide ((c)=(95)))||((decide ((c)=(46)))||((decide ((c)=(58)))||(decide ((c)=(47))))))))))))] [] (φ:=True) ?_ (λhp=>?_)
 ·refine Av (Aw (Aj rfl) rfl (Db Tryd.call57 rfl (λw hw=>KJ c w) rfl (Aw (Aj rfl) rfl (AG (BV c) (λh5=>?_) (λh5=>?_)))))
  ·have g5:=h5;try simp only[Qh,Qi] at g5
   refine Am rfl rfl h5 rfl (Am rfl rfl h5 rfl (Aw (Aq rfl h5 rfl) rfl (Aw (Aj rfl) rfl (Am rfl rfl rfl rfl (Am rfl rfl rfl rfl (Am rfl rfl rfl rfl (Br rfl rfl rfl (Br rfl rfl rfl (Am rfl rfl rfl rfl (Aw (Aq rfl rfl rfl) rfl (Aw (Aj rfl) rfl (Am rfl rfl rfl rfl (Am rfl rfl rfl rfl (Aw (Aq rfl rfl rfl) rfl (Aw (Aj rfl) rfl (Am rfl rfl rfl rfl (Am rfl rfl rfl rfl (Aw (Aq rfl rfl rfl) rfl (Aw (Aj rfl) rfl (Am rfl rfl rfl rfl (Am rfl rfl rfl rfl (Aw (Aq rfl rfl rfl) rfl (Aw (Aj rfl) rfl ?_)))))))))))))))))))))));refine Am rfl rfl rfl rfl (Am rfl rfl rfl rfl (Aw (Aq rfl rfl rfl) rfl (Aw (Aj rfl) rfl (Am rfl rfl rfl rfl (Am rfl rfl rfl rfl (Aw (Aq rfl rfl rfl) rfl (Aw (An rfl) rfl (Au ?_))))))));exact A0 (Bu trivial ⟨fb (by simp[h5]),trivial⟩ .slnil)
  ·have g5:=h5;try simp only[Qh,Qi] at g5
   refine AF rfl rfl h5 (Aw (Aj rfl) rfl (AF rfl rfl h5 (Db Tryd.call58 rfl (λw hw=>Lf c w) rfl (Aw (Ay rfl h5 rfl) rfl (Aw (Aj rfl) rfl (AG (C5 c) (λh6=>?_) (λh6=>?_)))))))
   ·have g6:=h6;try simp only[Qh,Qi] at g6
    refine Am rfl rfl h6 rfl (Am rfl rfl h6 rfl (Am rfl rfl h6 rfl (Br rfl rfl rfl (Br rfl rfl rfl (Am rfl rfl h6 rfl (Aw (Aq rfl h6 rfl) rfl (Aw (Aj rfl) rfl (Am rfl rfl rfl rfl (Am rfl rfl rfl rfl (Aw (Aq rfl rfl rfl) rfl (Aw (Aj rfl) rfl (Am rfl rfl rfl rfl (Am rfl rfl rfl rfl (Aw (Aq rfl rfl rfl) rfl (Aw (Aj rfl) rfl (Am rfl rfl rfl rfl (Am rfl rfl rfl rfl (Aw (Aq rfl rfl rfl) rfl (Aw (Aj rfl) rfl (Am rfl rfl rfl rfl (Am rfl rfl rfl rfl (Aw (Aq rfl rfl rfl) rfl (Aw (Aj rfl) rfl ?_)))))))))))))))))))))));refine Am rfl rfl rfl rfl (Am rfl rfl rfl rfl (Aw (Aq rfl rfl rfl) rfl (Aw (An rfl) rfl (Au ?_))));exact A0 (Bu trivial ⟨fb (by simp[h5,h6]),trivial⟩ .slnil)
   ·have g6:=h6;try simp only[Qh,Qi] at g6
    refine AF rfl rfl h6 (Aw (Aj rfl) rfl (AF rfl rfl h6 (Aw (HR rfl rfl) rfl (AF rfl rfl h6 (Aw (Aj rfl) rfl (AG (decide ((65)≤(c))) (λh7=>?_) (λh7=>?_)))))))
    ·have g7:=h7;try simp only[Qh,Qi] at g7
     refine AF rfl rfl h7 (Aw (Aj rfl) rfl (AF rfl rfl h7 (Aw (EW rfl rfl) rfl (AF rfl rfl h6 (Aw (Aq rfl h7 rfl) rfl (Aw (Ay rfl h6 rfl) rfl (Aw (Aj rfl) rfl (AG (decide ((c)≤(90))) (λh8=>?_) (λh8=>?_)))))))))
     ·have g8:=h8;try simp only[Qh,Qi] at g8
      refine Am rfl rfl h8 rfl (Am rfl rfl h8 rfl (Aw (Aq rfl h8 rfl) rfl (Aw (Aj rfl) rfl (Am rfl rfl rfl rfl (Am rfl rfl rfl rfl (Aw (Aq rfl rfl rfl) rfl (Aw (Aj rfl) rfl (Am rfl rfl rfl rfl (Am rfl rfl rfl rfl (Aw (Aq rfl rfl rfl) rfl (Aw (Aj rfl) rfl (Am rfl rfl rfl rfl (Am rfl rfl rfl rfl (Aw (Aq rfl rfl rfl) rfl (Aw (Aj rfl) rfl (Am rfl rfl rfl rfl (Am rfl rfl rfl rfl (Aw (Aq rfl rfl rfl) rfl (Aw (An rfl) rfl (Au ?_))))))))))))))))))));exact A0 (Bu trivial ⟨fb (by simp[h5,h6,h7,h8]),trivial⟩ .slnil)
     ·have g8:=h8;try simp only[Qh,Qi] at g8
      refine AF rfl rfl h8 (Aw (Aj rfl) rfl (AF rfl rfl h8 (Aw (B4 rfl rfl) rfl (Aw (Ay rfl h8 rfl) rfl (Aw (Aj rfl) rfl (AG (decide ((c)=(45))) (λh9=>?_) (λh9=>?_)))))))
      ·have g9:=h9;try simp only[Qh,Qi] at g9
       refine Am rfl rfl h9 rfl (Am rfl rfl h9 rfl (Aw (Aq rfl h9 rfl) rfl (Aw (Aj rfl) rfl (Am rfl rfl rfl rfl (Am rfl rfl rfl rfl (Aw (Aq rfl rfl rfl) rfl (Aw (Aj rfl) rfl (Am rfl rfl rfl rfl (Am rfl rfl rfl rfl (Aw (Aq rfl rfl rfl) rfl (Aw (Aj rfl) rfl (Am rfl rfl rfl rfl (Am rfl rfl rfl rfl (Aw (Aq rfl rfl rfl) rfl (Aw (An rfl) rfl (Au ?_))))))))))))))));exact A0 (Bu trivial ⟨fb (by simp[h5,h6,h7,h8,h9]),trivial⟩ .slnil)
      ·have g9:=h9;try simp only[Qh,Qi] at g9
       refine AF rfl rfl h9 (Aw (Aj rfl) rfl (AF rfl rfl h9 (Aw (B4 rfl rfl) rfl (Aw (Ay rfl h9 rfl) rfl (Aw (Aj rfl) rfl (AG (decide ((c)=(95))) (λhb=>?_) (λhb=>?_)))))))
       ·have hi:=hb;try simp only[Qh,Qi] at hi
        refine Am rfl rfl hb rfl (Am rfl rfl hb rfl (Aw (Aq rfl hb rfl) rfl (Aw (Aj rfl) rfl (Am rfl rfl rfl rfl (Am rfl rfl rfl rfl (Aw (Aq rfl rfl rfl) rfl (Aw (Aj rfl) rfl (Am rfl rfl rfl rfl (Am rfl rfl rfl rfl (Aw (Aq rfl rfl rfl) rfl (Aw (An rfl) rfl (Au ?_))))))))))));exact A0 (Bu trivial ⟨fb (by simp[h5,h6,h7,h8,h9,hb]),trivial⟩ .slnil)
       ·have hi:=hb;try simp only[Qh,Qi] at hi
        refine AF rfl rfl hb (Aw (Aj rfl) rfl (AF rfl rfl hb (Aw (B4 rfl rfl) rfl (Aw (Ay rfl hb rfl) rfl (Aw (Aj rfl) rfl (AG (decide ((c)=(46))) (λhe=>?_) (λhe=>?_)))))))
        ·have hj:=he;try simp only[Qh,Qi] at hj
         refine Am rfl rfl he rfl (Am rfl rfl he rfl (Aw (Aq rfl he rfl) rfl (Aw (Aj rfl) rfl (Am rfl rfl rfl rfl (Am rfl rfl rfl rfl (Aw (Aq rfl rfl rfl) rfl (Aw (An rfl) rfl (Au ?_))))))));exact A0 (Bu trivial ⟨fb (by simp[h5,h6,h7,h8,h9,hb,he]),trivial⟩ .slnil)
        ·have hj:=he;try simp only[Qh,Qi] at hj
         refine AF rfl rfl he (Aw (Aj rfl) rfl (AF rfl rfl he (Aw (B4 rfl rfl) rfl (Aw (Ay rfl he rfl) rfl (Aw (Aj rfl) rfl (AG (decide ((c)=(58))) (λhg=>?_) (λhg=>?_)))))))
         ·have hk:=hg;try simp only[Qh,Qi] at hk
          refine Am rfl rfl hg rfl (Am rfl rfl hg rfl (Aw (Aq rfl hg rfl) rfl (Aw (An rfl) rfl (Au ?_))));exact A0 (Bu trivial ⟨fb (by simp[h5,h6,h7,h8,h9,hb,he,hg]),trivial⟩ .slnil)
         ·have hk:=hg;try simp only[Qh,Qi] at hk
          refine AF rfl rfl hg (Aw (Aj rfl) rfl (AF rfl rfl hg (Aw (B4 rfl rfl) rfl (Aw (Ay rfl hg rfl) rfl (Aw (An rfl) rfl (Au ?_))))));exact A0 (Bu trivial ⟨fb (by simp[h5,h6,h7,h8,h9,hb,he,hg]),trivial⟩ .slnil)
    ·have g7:=h7;try simp only[Qh,Qi] at g7
     refine Am rfl rfl h7 rfl (Am rfl rfl h7 rfl (AF rfl rfl h6 (Aw (Ay rfl h7 rfl) rfl (Aw (Ay rfl h6 rfl) rfl (Aw (Aj rfl) rfl (AF rfl rfl rfl (Aw (Aj rfl) rfl (AF rfl rfl rfl (Aw (B4 rfl rfl) rfl (Aw (Ay rfl rfl rfl) rfl (Aw (Aj rfl) rfl (AG (decide ((c)=(45))) (λha=>?_) (λha=>?_)))))))))))))
     ·have hl:=ha;try simp only[Qh,Qi] at hl
      refine Am rfl rfl ha rfl (Am rfl rfl ha rfl (Aw (Aq rfl ha rfl) rfl (Aw (Aj rfl) rfl (Am rfl rfl rfl rfl (Am rfl rfl rfl rfl (Aw (Aq rfl rfl rfl) rfl (Aw (Aj rfl) rfl (Am rfl rfl rfl rfl (Am rfl rfl rfl rfl (Aw (Aq rfl rfl rfl) rfl (Aw (Aj rfl) rfl (Am rfl rfl rfl rfl (Am rfl rfl rfl rfl (Aw (Aq rfl rfl rfl) rfl (Aw (An rfl) rfl (Au ?_))))))))))))))));exact A0 (Bu trivial ⟨fb (by simp[h5,h6,h7,ha]),trivial⟩ .slnil)
     ·have hl:=ha;try simp only[Qh,Qi] at hl
      refine AF rfl rfl ha (Aw (Aj rfl) rfl (AF rfl rfl ha (Aw (B4 rfl rfl) rfl (Aw (Ay rfl ha rfl) rfl (Aw (Aj rfl) rfl (AG (decide ((c)=(95))) (λhd=>?_) (λhd=>?_)))))))
      ·have hm:=hd;try simp only[Qh,Qi] at hm
       refine Am rfl rfl hd rfl (Am rfl rfl hd rfl (Aw (Aq rfl hd rfl) rfl (Aw (Aj rfl) rfl (Am rfl rfl rfl rfl (Am rfl rfl rfl rfl (Aw (Aq rfl rfl rfl) rfl (Aw (Aj rfl) rfl (Am rfl rfl rfl rfl (Am rfl rfl rfl rfl (Aw (Aq rfl rfl rfl) rfl (Aw (An rfl) rfl (Au ?_))))))))))));exact A0 (Bu trivial ⟨fb (by simp[h5,h6,h7,ha,hd]),trivial⟩ .slnil)
      ·have hm:=hd;try simp only[Qh,Qi] at hm
       refine AF rfl rfl hd (Aw (Aj rfl) rfl (AF rfl rfl hd (Aw (B4 rfl rfl) rfl (Aw (Ay rfl hd rfl) rfl (Aw (Aj rfl) rfl (AG (decide ((c)=(46))) (λhf=>?_) (λhf=>?_)))))))
       ·have hn:=hf;try simp only[Qh,Qi] at hn
        refine Am rfl rfl hf rfl (Am rfl rfl hf rfl (Aw (Aq rfl hf rfl) rfl (Aw (Aj rfl) rfl (Am rfl rfl rfl rfl (Am rfl rfl rfl rfl (Aw (Aq rfl rfl rfl) rfl (Aw (An rfl) rfl (Au ?_))))))));exact A0 (Bu trivial ⟨fb (by simp[h5,h6,h7,ha,hd,hf]),trivial⟩ .slnil)
       ·have hn:=hf;try simp only[Qh,Qi] at hn
        refine AF rfl rfl hf (Aw (Aj rfl) rfl (AF rfl rfl hf (Aw (B4 rfl rfl) rfl (Aw (Ay rfl hf rfl) rfl (Aw (Aj rfl) rfl (AG (decide ((c)=(58))) (λhh=>?_) (λhh=>?_)))))))
        ·have ho:=hh;try simp only[Qh,Qi] at ho
         refine Am rfl rfl hh rfl (Am rfl rfl hh rfl (Aw (Aq rfl hh rfl) rfl (Aw (An rfl) rfl (Au ?_))));exact A0 (Bu trivial ⟨fb (by simp[h5,h6,h7,ha,hd,hf,hh]),trivial⟩ .slnil)
        ·have ho:=hh;try simp only[Qh,Qi] at ho
         refine AF rfl rfl hh (Aw (Aj rfl) rfl (AF rfl rfl hh (Aw (B4 rfl rfl) rfl (Aw (Ay rfl hh rfl) rfl (Aw (An rfl) rfl (Au ?_))))));exact A0 (Bu trivial ⟨fb (by simp[h5,h6,h7,ha,hd,hf,hh]),trivial⟩ .slnil)
 refine A4 (A3 (BF rfl rfl) ?_);exact J1 (by simp only[CK];by_cases h:65≤c<;>simp[h,Bool.or_assoc])
theorem OP (p:List UInt8)(w:World):Calls Tryd.prog 44 [.string (B p)].toArray w (It w (.bool (C7 p))):=by
 refine GM (n:=39) Tryd.func44 rfl Tryd.ntmps44 rfl (Ax (Av (Aw (An rfl) rfl (Au (A0 (Bl ?_))))));refine Ax (Ax (Av (Aw (Aj rfl) rfl (Iv Hb rfl rfl (λhh=>?_)))));refine Au (A0 (Bl ?_));refine AN (Hk (S:=Nat) (λ(k:Nat)=>k≤p.length∧Ba C3 0 p=Ba C3 k (p.drop k)) (λ(k:Nat)=>[(0,.string (B (p))),(2,.bool (false)),(6,.pointer (some ⟨hh,0,none⟩))]) (λ(k:Nat)=>[.blk hh (.stringIter (B p) (k))]) (λ(k:Nat)=>p.length-k) (0) ?_ ⟨rfl,rfl,rfl,trivial⟩ (.cons_cons _ (.slnil)) ?_)
 ·exact⟨QJ _,by simp⟩
 rintro k hi0;refine Ax (Av (Jr (i:=0) rfl rfl rfl (λhend=>?_) (λhr hd hp hq hlu21 hhu21 hwu21=>?_)))
 ·refine Aw (Bm rfl rfl) rfl (Au (A0 (Bl ?_)));refine Ax (CP rfl rfl (B6 (AA (AA (Bq (A0 (Bl ?_)))))));refine AI [(2,.bool (((decide ((1)≤((p.length:Int))))&&(decide (((p.length:Int))≤(24))))))] [.blk hh (.stringIter (B p) (k))] (φ:=True) ?_ (λhs=>?_)
  ·refine Av (Aw (Aj rfl) rfl (Aw (BY Hb rfl) rfl (Aw (HR rfl rfl) rfl (Aw (Aj rfl) rfl (AG (decide ((1)≤((p.length:Int)))) (λhe=>?_) (λhe=>?_))))))
   ·have hj:=he;try simp only[Qh,Qi] at hj
    refine AF rfl rfl he (Aw (Aj rfl) rfl (AF rfl rfl he (Aw (BY Hb rfl) rfl (AF rfl rfl he (Aw (EW rfl rfl) rfl (Aw (Aq rfl he rfl) rfl (Aw (An rfl) rfl (Au ?_))))))));exact A0 (Bu trivial ⟨fb (by first | (simp only[he,Q4,Q6,QD,Qz,Q9,Q7,QG,Q8,Qw,Q5,Qv,Qr,if_true,if_false,reduceIte,QH];done) | simp[he]),trivial⟩ (.cons_cons _ (.slnil)))
   ·have hj:=he;try simp only[Qh,Qi] at hj
    refine Am rfl rfl he rfl (Am rfl rfl he rfl (Am rfl rfl he rfl (Aw (Ay rfl he rfl) rfl (Aw (An rfl) rfl (Au ?_)))));exact A0 (Bu trivial ⟨fb (by first | (simp only[he,Q4,Q6,QD,Qz,Q9,Q7,QG,Q8,Qw,Q5,Qv,Qr,if_true,if_false,reduceIte,QH];done) | simp[he]),trivial⟩ (.cons_cons _ (.slnil)))
  refine A4 (A3 (BF rfl rfl) ?_);exact J1 (by rw[MN hi0 hend])
 ·refine Aw (Bm rfl rfl) rfl (Au (A0 (Bl ?_)));refine Ax (DE rfl rfl (AC (A0 (Bl ?_))));refine AN (Ax (Av (Aw (Bm rfl rfl) rfl (Aw (Bm rfl rfl) rfl (Aw (An rfl) rfl (Aw (An rfl) rfl (Au (A0 (Bl ?_)))))))));refine AI [(0,.string (B (p))),(2,.bool (false)),(3,.int .i64 ((k:Int))),(4,.int .i32 ((hd:Int))),(6,.pointer (some ⟨hh,0,none⟩)),(7,.tuple #[.bool (true),.int .i64 ((k:Int)),.int .i32 ((hd:Int))]),(8,.bool (true)),(9,.int .i64 ((k:Int))),(10,.int .i32 ((hd:Int))),(11,.int .i32 ((hd:Int))),(12,.bool (BV (hd:Int))),(13,.bool (!(BV (hd:Int)))),(14,.bool (!(BV (hd:Int)))),(30,.bool (((!(BV (hd:Int)))&&((decide (((k:Int))=(0)))||((!(C5 (hd:Int)))&&((!(decide (((hd:Int))=(45))))&&(!(decide (((hd:Int))=(95))))))))))] [.blk hh (.stringIter (B p) (k+hp))] (φ:=True) ?_ (λht=>?_)
  ·refine Av (Aw (Aj rfl) rfl (Db Tryd.call57 rfl (λw hw=>KJ (hd:Int) w) rfl (Aw (BX rfl) rfl (Aw (Aj rfl) rfl (AG (!(BV (hd:Int))) (λhb=>?_) (λhb=>?_))))))
   ·have hk:=hb;try simp only[Qh,Qi] at hk
    refine AF rfl rfl hb (Aw (Aj rfl) rfl (AF rfl rfl hb (Aw (B4 rfl rfl) rfl (AF rfl rfl hb (Aw (Aj rfl) rfl (AG (decide (((k:Int))=(0))) (λha=>?_) (λha=>?_)))))))
    ·have hl:=ha;try simp only[Qh,Qi] at hl
     refine Am rfl rfl ha rfl (Am rfl rfl ha rfl (Am rfl rfl ha rfl (Am rfl rfl ha rfl (Br rfl rfl rfl (Br rfl rfl rfl (Am rfl rfl ha rfl (Am rfl rfl ha rfl (Br rfl rfl rfl (Br rfl rfl rfl (Am rfl rfl ha rfl (AF rfl rfl hb (Aw (Aq rfl ha rfl) rfl (Aw (Aq rfl hb rfl) rfl (Au ?_))))))))))))));exact A0 (Bu trivial ⟨rfl,rfl,rfl,rfl,rfl,rfl,rfl,rfl,rfl,rfl,rfl,rfl,rfl,fb (by first | (simp only[hb,ha,Q4,Q6,QD,Qz,Q9,Q7,QG,Q8,Qw,Q5,Qv,Qr,if_true,if_false,reduceIte,QH];done) | simp[hb,ha]),trivial⟩ (.cons_cons _ (.slnil)))
    ·have hl:=ha;try simp only[Qh,Qi] at hl
     refine AF rfl rfl ha (Aw (Aj rfl) rfl (AF rfl rfl ha (Db Tryd.call58 rfl (λw hw=>Lf (hd:Int) w) rfl (AF rfl rfl ha (Aw (BX rfl) rfl (AF rfl rfl ha (Aw (Aj rfl) rfl (AG (!(C5 (hd:Int))) (λhf=>?_) (λhf=>?_)))))))))
     ·have hm:=hf;try simp only[Qh,Qi] at hm
      refine AF rfl rfl hf (Aw (Aj rfl) rfl (AF rfl rfl hf (Aw (D7 rfl rfl) rfl (AF rfl rfl ha (Aw (Aq rfl hf rfl) rfl (AF rfl rfl ha (Aw (Aj rfl) rfl (AG (!(decide (((hd:Int))=(45)))) (λhg=>?_) (λhg=>?_)))))))))
      ·have hn:=hg;try simp only[Qh,Qi] at hn
       refine AF rfl rfl hg (Aw (Aj rfl) rfl (AF rfl rfl hg (Aw (D7 rfl rfl) rfl (AF rfl rfl ha (Aw (Aq rfl hg rfl) rfl (AF rfl rfl hb (Aw (Ay rfl ha rfl) rfl (Aw (Aq rfl hb rfl) rfl (Au ?_)))))))));exact A0 (Bu trivial ⟨rfl,rfl,rfl,rfl,rfl,rfl,rfl,rfl,rfl,rfl,rfl,rfl,rfl,fb (by first | (simp only[hb,ha,hf,hg,Q4,Q6,QD,Qz,Q9,Q7,QG,Q8,Qw,Q5,Qv,Qr,if_true,if_false,reduceIte,QH];done) | simp[hb,ha,hf,hg]),trivial⟩ (.cons_cons _ (.slnil)))
      ·have hn:=hg;try simp only[Qh,Qi] at hn
       refine Am rfl rfl hg rfl (Am rfl rfl hg rfl (AF rfl rfl ha (Aw (Ay rfl hg rfl) rfl (AF rfl rfl hb (Aw (Ay rfl ha rfl) rfl (Aw (Aq rfl hb rfl) rfl (Au ?_)))))));exact A0 (Bu trivial ⟨rfl,rfl,rfl,rfl,rfl,rfl,rfl,rfl,rfl,rfl,rfl,rfl,rfl,fb (by first | (simp only[hb,ha,hf,hg,Q4,Q6,QD,Qz,Q9,Q7,QG,Q8,Qw,Q5,Qv,Qr,if_true,if_false,reduceIte,QH];done) | simp[hb,ha,hf,hg]),trivial⟩ (.cons_cons _ (.slnil)))
     ·have hm:=hf;try simp only[Qh,Qi] at hm
      refine Am rfl rfl hf rfl (Am rfl rfl hf rfl (AF rfl rfl ha (Aw (Ay rfl hf rfl) rfl (AF rfl rfl ha (Aw (Aj rfl) rfl (Am rfl rfl rfl rfl (Am rfl rfl rfl rfl (AF rfl rfl ha (Aw (Ay rfl rfl rfl) rfl (AF rfl rfl hb (Aw (Ay rfl ha rfl) rfl (Aw (Aq rfl hb rfl) rfl (Au ?_)))))))))))));exact A0 (Bu trivial ⟨rfl,rfl,rfl,rfl,rfl,rfl,rfl,rfl,rfl,rfl,rfl,rfl,rfl,fb (by first | (simp only[hb,ha,hf,Q4,Q6,QD,Qz,Q9,Q7,QG,Q8,Qw,Q5,Qv,Qr,if_true,if_false,reduceIte,QH];done) | simp[hb,ha,hf]),trivial⟩ (.cons_cons _ (.slnil)))
   ·have hk:=hb;try simp only[Qh,Qi] at hk
    refine Am rfl rfl hb rfl (Am rfl rfl hb rfl (Am rfl rfl hb rfl (Br rfl rfl rfl (Br rfl rfl rfl (Br rfl rfl rfl (Br rfl rfl rfl (Br rfl rfl rfl (Br rfl rfl rfl (Br rfl rfl rfl (Br rfl rfl rfl (Br rfl rfl rfl (Br rfl rfl rfl (Br rfl rfl rfl (Am rfl rfl hb rfl (Aw (Ay rfl hb rfl) rfl (Au ?_))))))))))))))));exact A0 (Bu trivial ⟨rfl,rfl,rfl,rfl,rfl,rfl,rfl,rfl,rfl,rfl,rfl,rfl,rfl,fb (by first | (simp only[hb,Q4,Q6,QD,Qz,Q9,Q7,QG,Q8,Qw,Q5,Qv,Qr,if_true,if_false,reduceIte,QH];done) | simp[hb]),trivial⟩ (.cons_cons _ (.slnil)))
  refine A6 (b:=((!(BV (hd:Int)))&&((decide (((k:Int))=(0)))||((!(C5 (hd:Int)))&&((!(decide (((hd:Int))=(45))))&&(!(decide (((hd:Int))=(95))))))))) rfl (λhi=>?_) (λhi=>?_)
  ·have ho:=hi;try simp only[Qh,Qi] at ho
   refine Ax (Av (Aw (An rfl) rfl (Au (A0 (Bl ?_)))));refine A4 (A9 (Al (A9 (Al (A3 (BF rfl rfl) ?_)))));exact J1 (by rw[NU hi0 hq hlu21 hhu21 hi])
  ·have ho:=hi;try simp only[Qh,Qi] at ho
   refine AC (AT (A0 (AQ (k+hp) ?_ ⟨rfl,rfl,rfl,trivial⟩ (.cons_cons _ (.slnil)))));exact L5 hi0 hq hlu21 hhu21 hi
theorem PR (p:List UInt8)(w:World):Calls Tryd.prog 43 [.string (B p)].toArray w (It w (.bool (Nf p))):=by
 refine GM (n:=21) Tryd.func43 rfl Tryd.ntmps43 rfl (Ax (Av (Aw (An rfl) rfl (Au (A0 (Bl ?_))))));refine Ax (Ax (Av (Aw (Aj rfl) rfl (Iv Hb rfl rfl (λhd=>?_)))));refine Au (A0 (Bl ?_));refine AN (Hk (S:=Nat) (λ(k:Nat)=>k≤p.length∧Ba Hf 0 p=Ba Hf k (p.drop k)) (λ(k:Nat)=>[(0,.string (B (p))),(2,.bool (false)),(6,.pointer (some ⟨hd,0,none⟩))]) (λ(k:Nat)=>[.blk hd (.stringIter (B p) (k))]) (λ(k:Nat)=>p.length-k) (0) ?_ ⟨rfl,rfl,rfl,trivial⟩ (.cons_cons _ (.slnil)) ?_)
 ·exact⟨QJ _,by simp⟩
 rintro k hi0;refine Ax (Av (Jr (i:=0) rfl rfl rfl (λhend=>?_) (λhj hg hi hh hlu33 hhu33 hwu33=>?_)))
 ·refine Aw (Bm rfl rfl) rfl (Au (A0 (Bl ?_)));refine Ax (CP rfl rfl (B6 (AA (AA (Bq (A0 (Bl ?_)))))));refine AI [(2,.bool (((decide ((1)≤((p.length:Int))))&&(decide (((p.length:Int))≤(64))))))] [.blk hd (.stringIter (B p) (k))] (φ:=True) ?_ (λhk=>?_)
  ·refine Av (Aw (Aj rfl) rfl (Aw (BY Hb rfl) rfl (Aw (HR rfl rfl) rfl (Aw (Aj rfl) rfl (AG (decide ((1)≤((p.length:Int)))) (λha=>?_) (λha=>?_))))))
   ·have he:=ha;try simp only[Qh,Qi] at he
    refine AF rfl rfl ha (Aw (Aj rfl) rfl (AF rfl rfl ha (Aw (BY Hb rfl) rfl (AF rfl rfl ha (Aw (EW rfl rfl) rfl (Aw (Aq rfl ha rfl) rfl (Aw (An rfl) rfl (Au ?_))))))));exact A0 (Bu trivial ⟨fb (by first | (simp only[ha,Q4,Q6,QD,Qz,Q9,Q7,QG,Q8,Qw,Q5,Qv,Qr,if_true,if_false,reduceIte,QH];done) | simp[ha]),trivial⟩ (.cons_cons _ (.slnil)))
   ·have he:=ha;try simp only[Qh,Qi] at he
    refine Am rfl rfl ha rfl (Am rfl rfl ha rfl (Am rfl rfl ha rfl (Aw (Ay rfl ha rfl) rfl (Aw (An rfl) rfl (Au ?_)))));exact A0 (Bu trivial ⟨fb (by first | (simp only[ha,Q4,Q6,QD,Qz,Q9,Q7,QG,Q8,Qw,Q5,Qv,Qr,if_true,if_false,reduceIte,QH];done) | simp[ha]),trivial⟩ (.cons_cons _ (.slnil)))
  refine A4 (A3 (BF rfl rfl) ?_);exact J1 (by rw[OX hi0 hend])
 ·refine Aw (Bm rfl rfl) rfl (Au (A0 (Bl ?_)));refine Ax (DE rfl rfl (AC (A0 (Bl ?_))));refine AN (Ax (Av (Aw (Bm rfl rfl) rfl (Aw (An rfl) rfl (Au (A0 (Bl ?_)))))));refine Ax (Av (Aw (Aj rfl) rfl (Db Tryd.call56 rfl (λw hw=>MY (hg:Int) w) rfl (Aw (BX rfl) rfl (Au (A0 (Bl ?_)))))));refine A6 (b:=!(CK (hg:Int))) rfl (λhb=>?_) (λhb=>?_)
  ·have hf:=hb;try simp only[Qh,Qi] at hf
   refine Ax (Av (Aw (An rfl) rfl (Au (A0 (Bl ?_)))));refine A4 (A9 (Al (A9 (Al (A3 (BF rfl rfl) ?_)))));exact J1 (by rw[P3 hi0 hh hlu33 hhu33 hb])
  ·have hf:=hb;try simp only[Qh,Qi] at hf
   refine AC (AT (A0 (AQ (k+hi) ?_ ⟨rfl,rfl,rfl,trivial⟩ (.cons_cons _ (.slnil)))));exact Oc hi0 hh hlu33 hhu33 hb
open Go
theorem Nj (m:Int)(h0 : -9223372036854775808≤m)(h1:m≤9223372036854775807)(w:World)(hE:Md w):Calls Tryd.prog 73 [.int .i64 (m)].toArray w (It w (.string (B (Lib.itoa m)))):=by
 refine GM (n:=5) Tryd.func73 rfl Tryd.ntmps73 rfl (Ax (Av (Aw (An rfl) rfl (Au (A0 (Bl ?_))))));refine Ax (Av (Aw (Aj rfl) rfl (Db Tryd.call77 rfl (λw hw=>OS m (by omega) (by omega) w (hE.st0 hw)) rfl (Aw (An rfl) rfl (Au (A0 (Bl ?_)))))));refine A4 (A3 (BF rfl rfl) ?_);exact J1 (by first | rfl | simp[])
end Go.Proofs.YtkoiaconljdbeaaDoor
namespace Go.Proofs
open Go.Shelf
def Tryd.lays138_ren:Go.Shelf.Ren:=⟨fun | 138=>72 | 195=>74 | 218=>75 | 143=>76 | 219=>78 | 217=>80 | 225=>81 | 224=>82 | 267=>83 | 266=>85 | 314=>86 | n=>n,fun | 9=>9 | 3=>3 | 4=>4 | 5=>5 | 0=>0 | 46=>76 | 146=>119 | 51=>90 | n=>n,fun | 1=>0 | n=>n⟩
theorem Tryd.lays138:Go.Proofs.Lays.n138 Tryd.prog Tryd.lays138_ren:={
 mixed:=by kernel_rfl
 f138:=Tryd.func72.trans (congrArg some (by kernel_rfl))
 f143:=Tryd.func76.trans (congrArg some (by kernel_rfl))
 f195:=Tryd.func74.trans (congrArg some (by kernel_rfl))
 f217:=Tryd.func80.trans (congrArg some (by kernel_rfl))
 f218:=Tryd.func75.trans (congrArg some (by kernel_rfl))
 f219:=Tryd.func78.trans (congrArg some (by kernel_rfl))
 f224:=Tryd.func82.trans (congrArg some (by kernel_rfl))
 f225:=Tryd.func81.trans (congrArg some (by kernel_rfl))
 f266:=Tryd.func85.trans (congrArg some (by kernel_rfl))
 f267:=Tryd.func83.trans (congrArg some (by kernel_rfl))
 f314:=Tryd.func86.trans (congrArg some (by kernel_rfl))
 t0:=Tryd.underlying0
 a0:=Tryd.isAgg0
 z0:=Tryd.sizeOf0
 v0:=Tryd.zeroValue0
 t3:=Tryd.underlying3
 a3:=Tryd.isAgg3
 z3:=Tryd.sizeOf3
 v3:=Tryd.zeroValue3
 t4:=Tryd.underlying4
 a4:=Tryd.isAgg4
 z4:=Tryd.sizeOf4
 v4:=Tryd.zeroValue4
 t5:=Tryd.underlying5
 a5:=Tryd.isAgg5
 z5:=Tryd.sizeOf5
 v5:=Tryd.zeroValue5
 t9:=Tryd.underlying9
 a9:=Tryd.isAgg9
 z9:=Tryd.sizeOf9
 v9:=Tryd.zeroValue9
 t46:=Tryd.underlying76
 a46:=Tryd.isAgg76
 z46:=Tryd.sizeOf76
 v46:=Tryd.zeroValue76
 t51:=Tryd.underlying90
 a51:=Tryd.isAgg90
 z51:=Tryd.sizeOf90
 v51:=Tryd.zeroValue90
 t146:=Tryd.underlying119
 a146:=Tryd.isAgg119
 z146:=Tryd.sizeOf119
 v146:=Tryd.zeroValue119
 g1:=by kernel_rfl }
open Go.RowKit Go.Lib in
theorem Tryd.strings_Count_one (s:ByteArray)(c:UInt8)(w:World) :
  Calls Tryd.prog 72 #[.string s,.string ⟨#[c]⟩] w λe w'=>e = .returned (.int .i64 (Lib.countByte s.data.toList c))∧w'=w:=Any.strings_Count_one Tryd.lays138 s c w
end Go.Proofs
namespace Go.Proofs.YtkoiaconljdbeaaDoor.Q
open Go Go.RowKit
set_option linter.unusedVariables false
def GE (Z:Fz):Prop:=∀w,Ny Z w→Md w
theorem GE.mono {Z Z':Fz}(h:Fz.le Z Z')(hg:GE Z):GE Z':=λw hw=>hg w (λb o e=>hw b o (h b o e))
theorem II.rle {P:Program}{E:Fz→Prop}{f:FuncId}{args:List Rp}{r r':Rp}(h:II P E f args r)(hr:Kf r r'):II P E f args r':=λw Z vs hv hs=>
 (h w Z vs hv hs).mono λe w' ⟨q,v,H,Z',he,⟨hq,hH⟩,hp,ht⟩=>⟨r',v,H,Z',he,⟨rfl,hH⟩,hr Z' v (hq▸hp),ht⟩
theorem II.of_id {P:Program}{E:Fz→Prop}{f:FuncId}{vs:List Value}{v:Value}(h:∀w,Calls P f vs.toArray w (λe w'=>e = .returned v∧w'=w)):II P E f (vs.map rv) (rv v):=
 II.of_old λw Z _ _=>(h w).mono λe w' ⟨he,hw⟩=>⟨he,by rw[hw];exact Proofs.YtkoiaconljdbeaaDoor.St.refl w []⟩
theorem Ni (m:Int)(g:Ci .i64 m=true):II Tryd.prog GE 73 [rI .i64 m] (rS (Lib.itoa m)):=II.of_old (vs:=[.int .i64 m]) λw Z hf he=>Nj m (G0 g).1 (G0 g).2 w (he w hf)
theorem Lg (s:Ai)(c:UInt8):II Tryd.prog GE 72 [rS s,rS [c]] (rI .i64 (Lib.countByte s c)):=II.of_id (vs:=[.string (B s),.string (B [c])]) λw=>by have:=Tryd.strings_Count_one (B s) c w;rwa [Pg] at this
theorem PQ (s:Ai):II Tryd.prog GE 43 [rS s] (rB (Nf s)):=II.of_old (vs:=[.string (B s)]) λw Z hf he=>PR s w
theorem MO (s:Ai):II Tryd.prog GE 44 [rS s] (rB (C7 s)):=II.of_old (vs:=[.string (B s)]) λw Z hf he=>OP s w
set_option linter.unusedSimpArgs false
theorem Ix (l:List UInt8):((LZ l).map G4).flatten=(l.map λc=>Value.int .u8 c.toNat).map rv:=by
 induction l with
 | nil=>rfl
 | cons c r ih=>simp only[LZ,QB,List.flatten_cons] at ih ⊢;rw[ih];rfl
theorem KF (l:List UInt8):(LZ l).length=l.length:=by simp[LZ]
section
variable {P : Program} {n : Nat} {c : Cx} {ops : Array Oper} {Q : Exit → Act → World → Prop} {rest : List Oper} {l : Fr} {H H' : List Ent} {d : Nat} {d' : Option Nat} {x y z3 : Operand} {ty t t' e : TypeId} {pos : String} {af : Array Edge} {g : Option (Nat × Bool)} {v u : Value} {r : Rp} {sz : Nat} {K : Act → World → Prop}
theorem Fn.bld {E:Fz→Prop}{f:FuncId}{args:List Rp}{T te:TypeId}{b:Nat}{v:Value}{s s':List UInt8}{res:Rp}
  (h:∀p,(p = .pointer none∨p = .pointer (some ⟨b,0,none⟩))→Fn P E f args [.blk b [rv p,rv v] T,.row v te 1 ((LZ s).map G4)] (λR H=>∃w0:Value,R=res∧H=[.blk b [rv (.pointer (some ⟨b,0,none⟩)),rv w0] T,.row w0 te 1 ((LZ s').map G4)])) :
  Fn P E f args [.bld T te b v s] (λR H=>∃w0:Value,R=res∧H=[.bld T te b w0 s']):=λw Z vs hv hs=>by
 obtain⟨p,hp,h1,h2,h3⟩:=hs.has _ (List.mem_singleton.2 rfl);have hfoot:[Ent.bld T te b v s].flatMap Ent.foot=[Ent.blk b [rv p,rv v] T,Ent.row v te 1 ((LZ s).map G4)].flatMap Ent.foot:=by simp[Ent.foot]
 have hs':St ⟨w,Z,[Ent.blk b [rv p,rv v] T,Ent.row v te 1 ((LZ s).map G4)].flatMap Ent.foot,E⟩ [Ent.blk b [rv p,rv v] T,Ent.row v te 1 ((LZ s).map G4)] Z w:=by
  refine⟨rfl,rfl,rfl,Qx _,λ_ _ _=>rfl,?_,λe he k hk=>.inr (List.mem_flatMap.2 ⟨e,he,hk⟩),?_,hs.frz,Fz.le.refl _,λ_ _ e=>.inl e,λe he k hk=>?_,hs.env,hs.emono⟩
  ·intro e he;simp only[QO,List.not_mem_nil,or_false] at he;rcases he with rfl | rfl
   ·exact⟨[p,v],h1,rfl,rfl,trivial⟩
   ·refine⟨λcl hcl=>by obtain⟨z,_,rfl⟩:=List.mem_map.1 hcl;rfl,_,by simpa[KF] using h2,?_⟩;rw[Ix];exact AB.rvs Z _
  ·refine List.pairwise_cons.2 ⟨λe he k hk hk'=>?_,List.pairwise_singleton ..⟩;simp only[Q1] at he;subst he;simp only[Ent.foot,Q1] at hk;subst hk;simp only[Ent.foot,Option.mem_toList] at hk';exact h3 hk'
  ·have hmem:k∈[Ent.bld T te b v s].flatMap Ent.foot:=by rw[hfoot];exact List.mem_flatMap.2 ⟨e,he,hk⟩
   obtain⟨e',he',hk'⟩:=List.mem_flatMap.1 hmem;exact hs.zdis e' he' k hk'
 rw[hfoot] at hs ⊢;refine(h p hp w Z vs hv hs').mono λe w' ⟨R,vv,H,Z',he,⟨w0,hR,hH⟩,hpR,ht⟩=>⟨R,vv,[.bld T te b w0 s'],Z',he,⟨w0,hR,rfl⟩,hpR,?_⟩
 subst hH;obtain⟨us,k1,k2⟩:=ht.has (.blk b [rv (.pointer (some ⟨b,0,none⟩)),rv w0] T) (by simp);obtain⟨k3,ws,k4,k5⟩:=ht.has (.row w0 te 1 ((LZ s').map G4)) (by simp);have e1:=AB.eq_rv (us:=[.pointer (some ⟨b,0,none⟩),w0]) k2;subst e1;rw[Ix] at k5;have e2:=AB.eq_rv k5;subst e2;have hd:=List.pairwise_cons.1 ht.dis;have hne:w0.ownBlock≠some b:=λhb=>hd.1 _ (List.mem_singleton.2 rfl) b (by simp[Ent.foot]) (by simp[Ent.foot,hb]);refine { ht with has:=?_,own:=?_,dis:=List.pairwise_singleton ..,zdis:=?_ }
 ·intro e' he';simp only[Q1] at he';subst he';exact⟨_,.inr rfl,k1,by simpa[KF] using k4,hne⟩
 ·intro e' he' k hk;simp only[Q1] at he';subst he';simp only[Ent.foot,QO] at hk;rcases hk with rfl | hk
  ·exact ht.own (.blk k [rv (.pointer (some ⟨k,0,none⟩)),rv w0] T) (by simp) k (by simp[Ent.foot])
  ·exact ht.own (.row w0 te 1 ((LZ s').map G4)) (by simp) k hk
 ·intro e' he' k hk;simp only[Q1] at he';subst he';simp only[Ent.foot,QO] at hk;rcases hk with rfl | hk
  ·exact ht.zdis (.blk k [rv (.pointer (some ⟨k,0,none⟩)),rv w0] T) (by simp) k (by simp[Ent.foot])
  ·exact ht.zdis (.row w0 te 1 ((LZ s').map G4)) (by simp) k hk
theorem I3 {p:Addr}(hu:∃e',P.underlying t=some (.pointer e'))(hx:ev l x=some (rv (.pointer (some p)))):AS P n c l H { dst:=d',op:=.binOp .neq t x (.const (.pointer none)) t',type:=ty,pos:=pos,after:=af,guard:=g } (rB true):=λa w Z ha _=>C1<|by
 obtain⟨e',hu⟩:=hu;have h1:∀dd:Nat,(Op.equalIn (dd+1) t (.pointer (some p)) (.pointer none)).run P w = .ok false w:=λdd=>by simp[Op.equalIn,run_underlying hu]
 have h2:(Op.equal t (.pointer (some p)) (.pointer none)).run P w = .ok false w:=h1 9999;have h3:(eqGuard .neq t x (.const (.pointer none)) (.pointer (some p)) (.pointer none)).run P w = .ok () w:=by unfold eqGuard;split<;>simp
 have hy:a.eval (.const (.pointer none)) = .pointer none:=rfl;simp only[execOp,ha.eval hx,hy,Sem.run_bind,h3,Result.andThen_ok,binOp,h2,Sem.run_pure];rfl
section
variable {P : Program} {n : Nat} {c : Cx} {l : Fr} {H : List Ent} {d' : Option Nat} {x : Operand} {ty t t' e : TypeId} {pos : String} {af : Array Edge} {g : Option (Nat × Bool)} {v : Value}
end
theorem Jy {f:FuncId}{args:List Operand}{ats:Array TypeId}{o:Oper}{a:Act}{caps:List Value}(ho:o.op = .call { callee:=.value x,args:=args.toArray,argTypes:=ats })(hx:a.eval x = .func (.func f) #[] caps.toArray)
  (hcall:∀(as1:Array Value) (w:World),(callFunc f as1).run P w = .ok (.enter f as1) w) (w:World):(execOp a.eval o).run P w = .ok (.enter f (args.map a.eval++caps).toArray) w:=by
 simp[execOp,ho,resolve,hx,Deferred.ofValue,invoke,hcall]
theorem KD {f:FuncId}{args:List Operand}{ats:Array TypeId}{rs:List Rp}{caps:List Value}{Hin Hr:List Ent}{Φ:Rp→List Ent→Prop}(hcall:∀(as1:Array Value) (w:World),(callFunc f as1).run P w = .ok (.enter f as1) w)(hx:ev l x=some (rv (.func (.func f) #[] caps.toArray)))(hv:Jc l args=some rs)
  (hp:H.Perm (Hin++Hr)) (hc:Fn P c.E f (rs++caps.map rv) Hin Φ) (hn:Nat.blt d n=true) (h:∀r Ho,Φ r Ho→WL P n c ops Q rest ((d,r)::l) (Ho++Hr)) :
  WL P n c ops Q ({ dst:=some d,op:=.call { callee:=.value x,args:=args.toArray,argTypes:=ats },type:=ty,pos:=pos,after:=af,guard:=none }::rest) l H:=
 Hi (args:=λa=>(args.map a.eval++caps).toArray) (λa w Z ha hw=>⟨Jy rfl (ha.eval hx) hcall w,by
  have hw2:=hw.perm hp;refine(hc w Z _ (by have:=(EF ha hv).append (AB.rvs Z caps);simpa using this) hw2.enter).mono ?_;rintro e w' ⟨r,v,Ho,Z',he,hΦ,hr,hs⟩;exact⟨v,r,Ho++Hr,Z',he,hs.le,hr,hw2.call hs,h r Ho hΦ⟩⟩) hn
end
section
variable {P : Program} {n : Nat} {c : Cx} {ops : Array Oper} {Q : Exit → Act → World → Prop} {rest : List Oper} {l : Fr} {H : List Ent} {d : Nat} {ty : TypeId} {pos : String} {af : Array Edge} {r : Rp} {x y z3 : Operand}
theorem wo {d:Option Nat}{op:Op}{j dj:Nat}{want b:Bool}(hb:b=want)(h:WL P n c ops Q ({ dst:=d,op:=op,type:=ty,pos:=pos,after:=af,guard:=none }::rest) l H)(hj:Cf ops j=some dj:=by rfl)(hv:look l dj=some (rB b):=by rfl) :
  WL P n c ops Q ({ dst:=d,op:=op,type:=ty,pos:=pos,after:=af,guard:=some (j,want) }::rest) l H:=AF hj hv hb h
theorem wf {op:Op}{j dj:Nat}{want b:Bool}(hb:b = !want)(h:WL P n c ops Q rest ((d,rv undef)::l) H)(hj:Cf ops j=some dj:=by rfl)(hv:look l dj=some (rB b):=by rfl)(hn:Nat.blt d n=true:=by rfl) :
  WL P n c ops Q ({ dst:=some d,op:=op,type:=ty,pos:=pos,after:=af,guard:=some (j,want) }::rest) l H:=Am hj hv hb hn h
theorem wu {op:Op}{j dj:Nat}{want:Bool}(h:WL P n c ops Q rest ((d,rv undef)::l) H)(hj:Cf ops j=some dj:=by rfl)(hv:look l dj=some (rv undef):=by rfl)(hn:Nat.blt d n=true:=by rfl) :
  WL P n c ops Q ({ dst:=some d,op:=op,type:=ty,pos:=pos,after:=af,guard:=some (j,want) }::rest) l H:=Br hj hv hn h
theorem wv {op:Op}(hr:AS P n c l H { dst:=some d,op:=op,type:=ty,pos:=pos,after:=af,guard:=none } r)(h:WL P n c ops Q rest ((d,r)::l) H)(hn:Nat.blt d n=true:=by rfl):WL P n c ops Q ({ dst:=some d,op:=op,type:=ty,pos:=pos,after:=af,guard:=none }::rest) l H:=Aw hr hn h
theorem wm (h:ev l x=some r)(hk:WL P n c ops Q rest ((d,r)::l) H)(hn:Nat.blt d n=true:=by rfl):WL P n c ops Q ({ dst:=some d,op:=.move x,type:=ty,pos:=pos,after:=af,guard:=none }::rest) l H:=Aw (Aj h) hn hk
theorem wa (h:ev l x=some r)(hk:WL P n c ops Q rest ((d,r)::l) H)(hn:Nat.blt d n=true:=by rfl):WL P n c ops Q ({ dst:=some d,op:=.assign x,type:=ty,pos:=pos,after:=af,guard:=none }::rest) l H:=Aw (An h) hn hk
theorem Iu {b:Bool}(hc:ev l z3=some (rB b))(hb:b=true)(h:ev l x=some r)(hk:WL P n c ops Q rest ((d,r)::l) H)(hn:Nat.blt d n=true:=by rfl):WL P n c ops Q ({ dst:=some d,op:=.pick z3 x y,type:=ty,pos:=pos,after:=af,guard:=none }::rest) l H:=Aw (Aq hc hb h) hn hk
theorem He {b:Bool}(hc:ev l z3=some (rB b))(hb:b=false)(h:ev l y=some r)(hk:WL P n c ops Q rest ((d,r)::l) H)(hn:Nat.blt d n=true:=by rfl):WL P n c ops Q ({ dst:=some d,op:=.pick z3 x y,type:=ty,pos:=pos,after:=af,guard:=none }::rest) l H:=Aw (Ay hc hb h) hn hk
theorem Ig {f:FuncId}{args:List Operand}{ats:Array TypeId}{rs:List Rp}(hcall:∀(as1:Array Value) (w:World),(callFunc f as1).run P w = .ok (.enter f as1) w)(hc:II P c.E f rs r)(hv:Jc l args=some rs)(h:WL P n c ops Q rest ((d,r)::l) H)(hn:Nat.blt d n=true:=by rfl) :
  WL P n c ops Q ({ dst:=some d,op:=.call { callee:=.value (.func f),args:=args.toArray,argTypes:=ats },type:=ty,pos:=pos,after:=af,guard:=none }::rest) l H:=DT hcall hv hc rfl hn h
theorem Ej {f:FuncId}{args:List Operand}{ats:Array TypeId}{rs:List Rp}{Hin Hr:List Ent}{Φ:Rp→List Ent→Prop}(hcall:∀(as1:Array Value) (w:World),(callFunc f as1).run P w = .ok (.enter f as1) w)(hc:Fn P c.E f rs Hin Φ)(hv:Jc l args=some rs)
  (hp:H.Perm (Hin++Hr)) (hn:Nat.blt d n=true) (h:∀r Ho,Φ r Ho→WL P n c ops Q rest ((d,r)::l) (Ho++Hr)) :
  WL P n c ops Q ({ dst:=some d,op:=.call { callee:=.value (.func f),args:=args.toArray,argTypes:=ats },type:=ty,pos:=pos,after:=af,guard:=none }::rest) l H:=Db hcall hv hp hc hn h
theorem Gu {opsA:Array Oper}{f:FuncId}{args:List Operand}{ats:Array TypeId}{rs:List Rp}(hcall:∀(as1:Array Value) (w:World),(callFunc f as1).run P w = .ok (.enter f as1) w)(hc:II P c.E f rs r)(hv:Jc l args=some rs) :
  CZ P n c opsA Q l H { dst:=some d,op:=.call { callee:=.value (.func f),args:=args.toArray,argTypes:=ats },type:=ty,pos:=pos,after:=af,guard:=none } r H:=MG hcall hv hc rfl
theorem wt {K:Exit→Act→World→Prop}{l1:Fr}{H1:List Ent}(hl:AM l1 l:=by repeat (first | exact AM.nil | refine AM.c rfl ?_))(hH:H1.Sublist H:=by repeat (first | exact sN | refine sC ?_ | refine sS ?_)):WK n c (Exit.then (Pf n c l1 H1) K .normal) l H:=A0 (Bu hl hH)
theorem CD {p:Prop}(hp:p){K:Exit→Act→World→Prop}{l1:Fr}{H1:List Ent}(hl:p→AM l1 l:=by intro hp;repeat (first | exact AM.nil | refine AM.c rfl ?_ | refine AM.c (by first | (simp only[hp];rfl) | simp[hp]) ?_))(hH:H1.Sublist H:=by repeat (first | exact sN | refine sC ?_ | refine sS ?_)):WK n c (Exit.then (Pf n c l1 H1) K .normal) l H:=A0 (Bu (hl hp) hH)
end
open Go Go.RowKit Go.ChangeShapes Go.Deep
def ZW (W:World):Fz:=λb=>W.heap[b]?
theorem ZW.frz (W:World):Ny (ZW W) W:=λ_ _ h=>h
def GQ (P:Program)(e:TypeId){α:Type}(enc:α→List Rp)(ok:α→Bool):Prop:=
 ∀{H:Type} {encH:TypeId×Value→H} {W:World} {sp:Nat→Bool} {held:Bool} {n:Nat} {cs:List Value} {x:DataW H×List MemPlace},DataW.trod encH P W 0 sp held n e cs=some x→∃y:α,ok y=true∧AB (ZW W) (enc y) cs
section
variable {P : Program} {e t : TypeId}
theorem GQ.int {k:IntKind}{enc:Int→List Rp}(ht:P.underlying e=some (.int k))(he:∀n,enc n=[rI k n]):GQ P e enc (Ci k):=λh=>by
 obtain⟨n,rfl,_,hwf⟩:=DataW.trod_int ht h;exact⟨n,hwf,by rw[he];exact⟨rfl,trivial⟩⟩
theorem GQ.str {enc:Ai→List Rp}(ht:P.underlying e=some .string)(he:∀n,enc n=[rS n]):GQ P e enc Nu:=λh=>by
 obtain⟨s,rfl,_,hl⟩:=DataW.trod_string ht h;exact⟨s.data.toList,Qn (by rw[Array.length_toList];exact hl),by rw[he];exact⟨congrArg Value.string (PV s),trivial⟩⟩
theorem GQ.bool {enc:Bool→List Rp}(ht:P.underlying e=some .bool)(he:∀n,enc n=[rB n]):GQ P e enc (λ_=>true):=λh=>by
 obtain⟨b,rfl,_⟩:=DataW.trod_bool ht h;exact⟨b,rfl,by rw[he];exact⟨rfl,trivial⟩⟩
theorem IF {W:World}{a:Addr}{v:Value}(h:W.cell? a=some v):a.spot=none∧DZ (ZW W) a.block a.off=some v:=by
 unfold World.cell? at h;unfold DZ ZW
 cases hh:W.heap[a.block]? with
 | none=>rw[hh] at h;cases h
 | some o=>
  rw[hh] at h
  cases o with
  | cells cs t fz=>
   cases hs:a.spot with
   | none=>simp[hs] at h;exact⟨rfl,h⟩
   | some _=>simp[hs] at h
  | _=>simp at h
theorem GQ.slice {α:Type}[Inhabited α]{enc:α→List Rp}{ok:α→Bool}{sz:Nat}(ht:P.underlying t=some (.slice e))(hc:P.cellsOf e=sz)(hsz:0<sz)(h:GQ P e enc ok)(hlen:∀y,(enc y).length=sz){enc':List α→List Rp}(he:∀ys,enc' ys=[AV sz (ys.map enc)]) :
  GQ P t enc' (λys=>ys.all ok&&decide (ys.length≤9223372036854775807)):=fun {H encH W sp held n cs x} hx=>by
 rcases open_slice ht hx with⟨rfl,_⟩ | ⟨a,len,cap,m,n',D,Pl,rfl,hb,hl,hm,hmm,_,hel⟩
 ·exact⟨[],by simp,by rw[he];exact⟨Ke.nil sz _,trivial⟩⟩
 ·have hlm:len≤m:=by rw[hmm];split<;>omega
  have each:∀i,i<len→∃y:α,ok y=true∧∃cs',W.cells? 0 (a.add (i*sz)) sz=some cs'∧AB (ZW W) (enc y) cs':=λi hi=>by
   obtain⟨cs',h1,h2⟩:=hel i (by omega);obtain⟨y,hy,hr⟩:=h h2;rw[hc] at h1;exact⟨y,hy,cs',h1,hr⟩
  obtain⟨f,hf⟩:=choose_lt each;refine⟨(List.range len).map f,?_,?_⟩
  ·simp only[Qm,Q0,List.mem_map,List.mem_range,Qh];refine⟨?_,by simp;simp only[maxLen] at hm;omega⟩;rintro _ ⟨i,hi,rfl⟩;exact(hf i hi).1
  ·rw[he];refine⟨⟨some a,cap,by simp,by simpa using hl,hm,(λh=>by cases h),λi c hi=>?_⟩,trivial⟩;rw[QM,QK] at hi;have hil:i<len:=by
    cases hq:(List.range len)[i]? with
    | none=>rw[hq] at hi;cases hi
    | some _=>have:=(List.getElem?_eq_some_iff.1 hq).1;simpa using this
   rw[List.getElem?_range hil] at hi;simp only[Option.map_some,Option.some.injEq,Function.comp] at hi;subst hi;obtain⟨_,cs',h1,hr⟩:=hf i hil;obtain⟨_,hcl,hcell⟩:=World.cells?_some h1;have hsp:a.spot=none:=by
    obtain⟨_,cs0,g1,_⟩:=hf 0 (by omega);obtain⟨_,gcl,gcell⟩:=World.cells?_some g1;have h0:=gcell 0 hsz;rw[Qk (by omega)] at h0;have:=(IF h0).1;simpa[Addr.add] using this
   refine⟨hlen _,a,rfl,hsp,λj r hj=>?_⟩;obtain⟨u,hu,hp⟩:=hr.at hj;have hjs:j<sz:=by have:=(List.getElem?_eq_some_iff.1 hj).1;rw[hlen] at this;exact this
   have h3:=hcell j hjs;rw[hu] at h3;have h4:=(IF h3).2;refine⟨u,?_,hp⟩;have e1:((a.add (i*sz)).add j).block=a.block:=by simp only[Addr.add];split<;>split<;>rfl
   have e2:((a.add (i*sz)).add j).off=a.off+(i*sz+j):=by simp only[Addr.add];split<;>split<;>simp_all<;>omega
   rw[e1,e2] at h4;exact h4
theorem IS {Z:Fz}{cs:List Value}{o:Nat}(h:cs.length=o):AB Z [] (cs.drop o):=by rw[List.drop_of_length_le (by omega)];trivial
theorem BS {Z:Fz}{cs:List Value}{o s o':Nat}{rs rs':List Rp}(h:AB Z rs ((cs.drop o).take s))(ho:o+s=o')(h2:AB Z rs' (cs.drop o')):AB Z (rs++rs') (cs.drop o):=by
 rw[← List.take_append_drop s (cs.drop o),List.drop_drop];subst ho;exact h.append h2
theorem GQ.val {α:Type}{enc:α→List Rp}{ok:α→Bool}(h:GQ P e enc ok){r:α→Rp}(he:∀y,enc y=[r y]){H:Type}{encH:TypeId×Value→H}{W:World}{sp:Nat→Bool}{held:Bool}{v:Value}{d:DataW H}{ps:List MemPlace}
  (hone:v.cells = #[v]) (ht:DataW.Trod encH P W 0 sp held e v d ps):∃y:α,ok y=true∧(r y).p (ZW W) v:=by
 obtain⟨fuel,hf⟩:=ht;rw[hone] at hf;obtain⟨y,hy,hr⟩:=h hf;rw[he] at hr;exact⟨y,hy,hr.1⟩
end
theorem Nh {W w:World}(hw:Ny (ZW W) w):W.heap.size≤w.heap.size:=by
 rcases Nat.eq_zero_or_pos W.heap.size with h | h
 ·omega
 ·have h1:W.heap[W.heap.size-1]? =some (W.heap[W.heap.size-1]'(by omega)):=Array.getElem?_eq_getElem (by omega);have:=(Array.getElem?_eq_some_iff.1 (hw _ _ h1)).1;omega
theorem LM {W:World}(hE:Md W):GE (ZW W):=λw hw=>by
 have hb:Below W.heap.size W { w with os:=W.os,tape:=W.tape,output:=W.output }:=⟨rfl,rfl,rfl,Nh hw,λk hk=>by
  have h1:W.heap[k]? =some (W.heap[k]'hk):=Array.getElem?_eq_getElem hk;rw[h1];exact hw k _ h1⟩
 have hE2:=hE.st0 (St.of_below hb);exact⟨Ji.block { w with os:=W.os,tape:=W.tape,output:=W.output } w (λ_ _=>rfl) hE2.tabs,hE2.size⟩
theorem M3 {W:World}(hE:Md W):St ⟨W,ZW W,[],GE⟩ [] (ZW W) W where
 os:=rfl
 tape:=rfl
 output:=rfl
 size:=Qx _
 old:=λ_ _ _=>rfl
 has:=λ_ h=>by cases h
 own:=λ_ h=>by cases h
 dis:=.nil
 frz:=ZW.frz W
 le:=Fz.le.refl _
 new:=λ_ _ h=>.inl h
 zdis:=λ_ h=>by cases h
 env:=LM hE
 emono:=λh hg=>GE.mono h hg
theorem M4 {W W':World}{Z Z':Fz}{E:Fz→Prop}{H:List Ent}(h:St ⟨W,Z,[],E⟩ H Z' W'):Below W.heap.size W W':=⟨h.os,h.tape,h.output,h.size,λk hk=>h.old k hk (by simp)⟩
open Go
set_option maxRecDepth 100000
set_option maxHeartbeats 4000000
end Go.Proofs.YtkoiaconljdbeaaDoor.Q
namespace Go.Proofs.YtkoiaconljdbeaaDoor
open Go
set_option linter.unusedVariables false
end Go.Proofs.YtkoiaconljdbeaaDoor
namespace Go.Proofs.YtkoiaconljdbeaaDoor.Q
open Go Go.RowKit
set_option linter.unusedVariables false
set_option linter.unusedSimpArgs false
set_option maxRecDepth 100000
set_option maxHeartbeats 4000000
end Go.Proofs.YtkoiaconljdbeaaDoor.Q
namespace Go.Proofs.YtkoiaconljdbeaaDoor
open Go
set_option linter.unusedVariables false
structure Ad where
 fKind:Int
 fInt:Int
 fStr:Ai
 fN:Int
 deriving DecidableEq,Inhabited
structure Ap where
 fPairs:Bool
 fLeft:Int
 fKey:Bool
 fLast:Ai
 fStarted:Bool
 deriving DecidableEq,Inhabited
structure At where
 fDepth:Int
 fBytes:Int
 fOutside:Bool
 fLong:Bool
 deriving DecidableEq,Inhabited
def AX (n:Int):Option (Bool):=
 some ((decide ((-1000000000000)≤n))&&(decide (n≤1000000000000)))
def DG (s:Ai)(ha:Int):Option (Stp (Int) (Out (Bool) (Unit))):=
 BJ (decide (ha<(s.length:Int))) (B9 (DB ha (s.length:Int))<|BJ (((decide ((Kd s ha)<32))||(decide (126<(Kd s ha))))) (some (.out (.ret false))) (B9 (Ci .i64 (ha+1))<|some (.next (ha+1)))) (some (.out (.go ())))
def DF :Option (Bool):=
 some true
def GT (F:Nat)(s:Ai):Option (Bool):=
 BK (Dq (λσ=>DG s σ) F 0) (CE λν=>DF )
def E6 (s:Ai):Option (Int):=
 B9 (Ci .i64 ((s.length:Int)+2))<|B9 (Ci .i64 (((s.length:Int)+2)+(Lib.countByte s 34:Int)))<|B9 (Ci .i64 ((((s.length:Int)+2)+(Lib.countByte s 34:Int))+(Lib.countByte s 92:Int)))<|some ((((s.length:Int)+2)+(Lib.countByte s 34:Int))+(Lib.countByte s 92:Int))
def H7 (F:Nat)(c:Ad):Option (Bool):=
 BJ (decide (c.fKind=1)) (some ((decide (c.fInt=0))&&((decide (c.fStr=([]:Ai)))&&(decide (c.fN=0))))) (BJ (decide (c.fKind=2)) (some (bif decide (c.fInt=0) then((decide (c.fStr=([]:Ai)))&&(decide (c.fN=0))) else((decide (c.fInt=1))&&((decide (c.fStr=([]:Ai)))&&(decide (c.fN=0)))))) (BJ (decide (c.fKind=3)) (some ((decide (c.fStr=([]:Ai)))&&(decide (c.fN=0)))) (BJ (decide (c.fKind=4)) (B9 (imp (decide (c.fInt=0)) (imp (decide (c.fN=0)) ((GT F c.fStr).isSome)))<|some ((decide (c.fInt=0))&&((decide (c.fN=0))&&(ov (GT F c.fStr))))) (BJ (decide (c.fKind=5)) (some ((decide (c.fInt=0))&&((decide (c.fStr=([]:Ai)))&&(decide (0≤c.fN))))) (BJ (decide (c.fKind=6)) (some ((decide (c.fInt=0))&&((decide (c.fStr=([]:Ai)))&&(decide (0≤c.fN))))) (some false))))))
def Jt (c:Ad):Option (Int):=
 BJ (decide (c.fKind=1)) (some 4) (BJ (decide (c.fKind=2)) (some (IntKind.wrap .i64 (5-c.fInt))) (BJ (decide (c.fKind=3)) (B9 (Ci .i64 c.fInt)<|some ((Lib.itoa c.fInt).length:Int)) (BJ (decide (c.fKind=4)) (BK (E6 c.fStr) λha=>some ha) (some (IntKind.wrap .i64 (2+(max 0 (IntKind.wrap .i64 (c.fN-1)))))))))
def Cb (ha:(List Ap)):Option (Stp ((List Ap)) (Out ((List Ap)) ((List Ap)))):=
 BJ (decide (0<(ha.length:Int))) (B9 (Ci .i64 ((ha.length:Int)-1))<|B9 (DB ((ha.length:Int)-1) (ha.length:Int))<|B9 (Ci .i64 (((Ak ha ((ha.length:Int)-1)).fLeft)-1))<|Mc (List.set ha (Int.toNat ((ha.length:Int)-1)) (Ap.mk ((Ak ha ((ha.length:Int)-1)).fPairs) (((Ak ha ((ha.length:Int)-1)).fLeft)-1) ((Ak ha ((ha.length:Int)-1)).fKey) ((Ak ha ((ha.length:Int)-1)).fLast) ((Ak ha ((ha.length:Int)-1)).fStarted))) λhb=>BJ (decide (0<((Ak hb ((ha.length:Int)-1)).fLeft))) (Mc (List.set hb (Int.toNat ((ha.length:Int)-1)) (Ap.mk ((Ak hb ((ha.length:Int)-1)).fPairs) ((Ak hb ((ha.length:Int)-1)).fLeft) ((Ak hb ((ha.length:Int)-1)).fPairs) ((Ak hb ((ha.length:Int)-1)).fLast) ((Ak hb ((ha.length:Int)-1)).fStarted))) λhd=>some (.out (.ret hd))) (B9 (Ci .i64 ((hb.length:Int)-1))<|B9 (JP ((hb.length:Int)-1) (hb.length:Int))<|some (.next (List.take (Int.toNat ((hb.length:Int)-1)) hb)))) (some (.out (.go ha)))
def Cz (ha:(List Ap)):Option ((List Ap)):=
 some ha
def Gi (F:Nat)(stack:(List Ap)):Option ((List Ap)):=
 BK (Dq (λσ=>Cb σ) F stack) (CE λν=>Cz ν)
def Cq (ha:Int)(hb:(List Ap))(hd:At):Option (Stp ((List Ap)×Int×At) (Out (Int×At×Bool) (At))):=
 B9 (Ci .i64 (ha+1))<|some (.next (hb,ha+1,hd))
def Ca (F:Nat)(v:(List Ad))(ha:(List Ap))(hb:Int)(hd:At):Option (Stp ((List Ap)×Int×At) (Out (Int×At×Bool) (At))):=
 BJ (decide (hb<(v.length:Int))) (B9 (DB hb (v.length:Int))<|BK (H7 F (Ak v hb)) λhj=>BJ (!hj) (some (.out (.ret (0,hd,false)))) (B9 (imp (decide (0<(ha.length:Int))) (Ci .i64 ((ha.length:Int)-1)))<|B9 (imp (decide (0<(ha.length:Int))) (DB ((ha.length:Int)-1) (ha.length:Int)))<|BJ (((decide (0<(ha.length:Int)))&&((Ak ha ((ha.length:Int)-1)).fKey))) (B9 (Ci .i64 ((ha.length:Int)-1))<|B9 (DB ((ha.length:Int)-1) (ha.length:Int))<|BJ (((!decide (((Ak v hb).fKind)=4))||(((Ak ha ((ha.length:Int)-1)).fStarted)&&(Bg ((Ak v hb).fStr) ((Ak ha ((ha.length:Int)-1)).fLast)||decide (((Ak v hb).fStr)=((Ak ha ((ha.length:Int)-1)).fLast)))))) (some (.out (.ret (0,hd,false)))) (Mc (List.set ha (Int.toNat ((ha.length:Int)-1)) (Ap.mk ((Ak ha ((ha.length:Int)-1)).fPairs) ((Ak ha ((ha.length:Int)-1)).fLeft) ((Ak ha ((ha.length:Int)-1)).fKey) ((Ak v hb).fStr) ((Ak ha ((ha.length:Int)-1)).fStarted))) λhe=>Mc (List.set he (Int.toNat ((ha.length:Int)-1)) (Ap.mk ((Ak he ((ha.length:Int)-1)).fPairs) ((Ak he ((ha.length:Int)-1)).fLeft) ((Ak he ((ha.length:Int)-1)).fKey) ((Ak he ((ha.length:Int)-1)).fLast) true)) λhf=>Mc (List.set hf (Int.toNat ((ha.length:Int)-1)) (Ap.mk ((Ak hf ((ha.length:Int)-1)).fPairs) ((Ak hf ((ha.length:Int)-1)).fLeft) false ((Ak hf ((ha.length:Int)-1)).fLast) ((Ak hf ((ha.length:Int)-1)).fStarted))) λhk=>BK (E6 ((Ak v hb).fStr)) λhh=>B9 (Ci .i64 (hh+1))<|Cq hb hk (At.mk hd.fDepth (IntKind.wrap .i64 (hd.fBytes+(hh+1))) hd.fOutside (hd.fLong||(decide (200<(((Ak v hb).fStr).length:Int))))))) (B9 (Ci .i64 ((ha.length:Int)+1))<|BK (Jt (Ak v hb)) λhg=>B9 (imp (!hd.fOutside) (imp (decide (((Ak v hb).fKind)=3)) ((AX ((Ak v hb).fInt)).isSome)))<|BJ (decide (0<((Ak v hb).fN))) (BJ (decide ((v.length:Int)<((Ak v hb).fN))) (some (.out (.ret (0,(At.mk (max hd.fDepth ((ha.length:Int)+1)) (IntKind.wrap .i64 (hd.fBytes+hg)) (hd.fOutside||((decide (((Ak v hb).fKind)=3))&&(!(ov (AX ((Ak v hb).fInt)))))) (hd.fLong||(decide (200<(((Ak v hb).fStr).length:Int))))),false)))) (B9 (Ob 48 (ha.length+([(Ap.mk (decide (((Ak v hb).fKind)=6)) ((Ak v hb).fN) (decide (((Ak v hb).fKind)=6)) ([]:Ai) false)]:List Ap).length))<|Cq hb (ha++([(Ap.mk (decide (((Ak v hb).fKind)=6)) ((Ak v hb).fN) (decide (((Ak v hb).fKind)=6)) ([]:Ai) false)]:List Ap)) (At.mk (max hd.fDepth ((ha.length:Int)+1)) (IntKind.wrap .i64 (hd.fBytes+hg)) (hd.fOutside||((decide (((Ak v hb).fKind)=3))&&(!(ov (AX ((Ak v hb).fInt)))))) (hd.fLong||(decide (200<(((Ak v hb).fStr).length:Int))))))) (BK (Gi F ha) λhi=>BJ (decide ((hi.length:Int)=0)) (B9 (Ci .i64 (hb+1))<|some (.out (.ret (hb+1,(At.mk (max hd.fDepth ((ha.length:Int)+1)) (IntKind.wrap .i64 (hd.fBytes+hg)) (hd.fOutside||((decide (((Ak v hb).fKind)=3))&&(!(ov (AX ((Ak v hb).fInt)))))) (hd.fLong||(decide (200<(((Ak v hb).fStr).length:Int))))),true)))) (Cq hb hi (At.mk (max hd.fDepth ((ha.length:Int)+1)) (IntKind.wrap .i64 (hd.fBytes+hg)) (hd.fOutside||((decide (((Ak v hb).fKind)=3))&&(!(ov (AX ((Ak v hb).fInt)))))) (hd.fLong||(decide (200<(((Ak v hb).fStr).length:Int)))))))))) (some (.out (.go hd)))
def Gg (ha:At):Option (Int×At×Bool):=
 some (0,ha,false)
def Gh (F:Nat)(v:(List Ad)):Option (Int×At×Bool):=
 BK (Dq (λσ=>Ca F v σ.1 σ.2.1 σ.2.2) F (([]:List Ap),0,(At.mk 0 0 false false))) (CE λν=>Gg ν)
def H9 (F:Nat)(v:(List Ad)):Option (Int):=
 BK (Gh F v) λr1=>BJ (((!r1.2.2)||(!decide (r1.1=(v.length:Int))))) (some 1) (BJ (r1.2.1.fOutside) (some 2) (BJ ((r1.2.1.fLong||((decide (200<(v.length:Int)))||((decide (8<r1.2.1.fDepth))||(decide (4000<r1.2.1.fBytes)))))) (some 3) (some 0)))
end Go.Proofs.YtkoiaconljdbeaaDoor
