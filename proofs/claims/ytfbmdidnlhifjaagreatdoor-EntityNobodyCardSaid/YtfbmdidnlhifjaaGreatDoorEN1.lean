/-
  Texts of the proof, put together: AL, FwA, FwB, QA, FwC, FwD, QB, PlA, PQ0, QC, FwE, FwF, FwH, FwK, QD, QE, QR, QS, QZ, ShelfN, FwG, Row, IdA, PlB, IdB, PlC, IdC, ShelfV, PlD, PlE, FwJ, IdR, QG, QO, RowQ, PQB, WQB, PVa, WVa.
-/
import Derived.Test.YtfbmdidnlhifjaaGreatDoorProg
import Derived.WalkKit
import Derived.Deep.QuietTactic
import Derived.Deep.LoopGhost
import Derived.Lib.Strings
import Derived.Scope
import GoSem.Core.View
import GoSem.Op.String
import Derived.IntWalk
import Derived.Lib.Bytealg
import Derived.Laws.AppendOwn
import Derived.Laws.OwnMore
import Derived.Great.FillDense
import Derived.Laws.BytesString
import Derived.Lib.Builder
import Derived.Lib.UnsafeStr
import Derived.Lib.AppendStr
import Derived.Laws.Externs
import Derived.Shelf.Strconv.Itoa3
import Derived.Shelf.LaysM
import Derived.Shelf.LaysC
import Derived.Shelf.Strconv.AtoiAll
import Derived.Shelf.Strconv.ErrVarAll
import Derived.Lib.SmallJoins
import Derived.Lib.AppendIntMem
import Derived.Test.YtfbmdidnlhifjaaGreatDoorCards
import Derived.Test.YtfbmdidnlhifjaaGreatDoorTie
import Derived.Carry
import Derived.ChangeSame
import Derived.ProofKit
import Derived.OpenShut
import Derived.Deep.DeepHandedRow
import Derived.Deep.DeepWitnessRowRef
import Derived.Lib.LaidTab
import Derived.Lib.LaidIn
import Derived.Stop.LaidErr
import Derived.Lib.AtoiAllCases
import Derived.Lib.ItoaNum
import Derived.Lib.ItoaLen
import Derived.Shelf.Strings.Builder1
import Derived.Shelf.Strings.Count
import Derived.Shelf.Strings.Search1
import Derived.Shelf.Strings.Search2
import Derived.Shelf.Strings.Search3
import Derived.Shelf.Small.Strs
import Derived.Lib.ItoaMem
import Derived.Deep.Slices
import Derived.ChangeArms
import Derived.DataReads
import Derived.Laws.Tables
namespace Go.Proofs.YtfbmdidnlhifjaaGreatDoor
open Go
abbrev EY:=@Tryz.isAgg105
abbrev Ez:=@Tryz.isAgg22
abbrev GT:=@Tryz.isAgg23
abbrev G0:=@Tryz.isAgg25
abbrev DN:=@Tryz.isAgg3
abbrev Du:=@Tryz.isAgg31
abbrev N7:=@Tryz.isAgg4
abbrev Gz:=@Tryz.isAgg44
abbrev H6:=@Tryz.isAgg61
abbrev Ja:=@Tryz.isAgg63
abbrev IZ:=@Tryz.isAgg65
abbrev N6:=@Tryz.isAgg66
abbrev My:=@Tryz.isAgg85
abbrev Dm:=@Tryz.isAgg9
abbrev Mx:=@Tryz.call18
abbrev Mw:=@Tryz.call21
abbrev H5:=@Tryz.call39
abbrev Ey:=@Tryz.call44
abbrev Mv:=@Tryz.call47
abbrev LF:=@Tryz.results11
abbrev K6:=@Tryz.results17
abbrev Iu:=@Tryz.results18
abbrev N5:=@Tryz.results19
abbrev N4:=@Tryz.results21
abbrev N3:=@Tryz.results36
abbrev N2:=@Tryz.results37
abbrev Mu:=@Tryz.results56
abbrev K5:=@Tryz.results59
abbrev Pq:=@Tryz.results7
abbrev K4:=@Tryz.results76
abbrev Mt:=@Tryz.results78
abbrev Dq:=@Tryz.sizeOf105
abbrev JH:=@Tryz.sizeOf120
abbrev D2:=@Tryz.sizeOf22
abbrev Ex:=@Tryz.sizeOf23
abbrev Dt:=@Tryz.sizeOf25
abbrev C0:=@Tryz.sizeOf3
abbrev B4:=@Tryz.sizeOf31
abbrev Gy:=@Tryz.sizeOf4
abbrev Cv:=@Tryz.sizeOf44
abbrev H4:=@Tryz.sizeOf61
abbrev Cu:=@Tryz.sizeOf63
abbrev IY:=@Tryz.sizeOf65
abbrev N1:=@Tryz.sizeOf66
abbrev IX:=@Tryz.sizeOf85
abbrev N0:=@Tryz.sizeOf88
abbrev CM:=@Tryz.sizeOf9
abbrev CC:=@Tryz.underlying105
abbrev JG:=@Tryz.underlying115
abbrev Eo:=@Tryz.underlying117
abbrev En:=@Tryz.underlying120
abbrev Ms:=@Tryz.underlying153
abbrev BW:=@Tryz.underlying22
abbrev D1:=@Tryz.underlying23
abbrev BI:=@Tryz.underlying25
abbrev Px:=@Tryz.underlying3
abbrev Nz:=@Tryz.underlying31
abbrev O1:=@Tryz.underlying41
abbrev Ew:=@Tryz.underlying44
abbrev Ev:=@Tryz.underlying49
abbrev It:=@Tryz.underlying51
abbrev BB:=@Tryz.underlying63
abbrev JF:=@Tryz.underlying65
abbrev Ny:=@Tryz.underlying66
abbrev Ea:=@Tryz.underlying68
abbrev Nx:=@Tryz.underlying69
abbrev JE:=@Tryz.underlying78
abbrev JD:=@Tryz.underlying85
abbrev Gx:=@Tryz.underlying87
abbrev Eu:=@Tryz.underlying9
abbrev Gw:=@Tryz.zeroValue31
abbrev H3:=@Tryz.zeroValue44
abbrev Is:=@Tryz.zeroValue63
abbrev Nw:=@Tryz.zeroValue83
abbrev O0:=@Tryz.zeroValue88
abbrev OS:=@Tryz.zeroValue9
theorem Aa {α:Sort _}{a:α}:a=a:=rfl
abbrev PN:=@List.Perm.cons
abbrev PO:=@List.Perm.refl
abbrev PP:=@decide_eq_false_iff_not
abbrev PQ:=@decide_eq_true_eq
abbrev PR:=@List.getElem?_eq_getElem
abbrev PS:=@List.getD_eq_getElem?_getD
abbrev PT:=@List.length_map
abbrev PU:=@List.mem_of_getElem?
abbrev PV:=@List.mem_singleton
abbrev PW:=@Nat.le_refl
abbrev PX:=@Nat.lt_succ_self
abbrev PY:=@Bool.and_eq_true
abbrev PZ:=@decide_eq_false
abbrev Qa:=@cond_false
abbrev Qb:=@List.eq_nil_of_length_eq_zero
abbrev Qc:=@List.getElem?_append_left
abbrev Qd:=@Option.getD_some
abbrev Qe:=@Bool.not_true
abbrev Qf:=@decide_eq_true
abbrev Qg:=@List.length_cons
abbrev Qh:=@Nat.zero_add
abbrev Qi:=@Bool.eq_iff_iff
abbrev Qj:=@List.all_eq_true
abbrev Qk:=@Bool.false_or
abbrev Ql:=@cond_true
abbrev Qm:=@if_neg
abbrev Qn:=@Bool.true_and
abbrev Qp:=@List.getElem?_take
abbrev Qq:=@List.mem_cons
abbrev Qr:=@List.map_cons
abbrev Qs:=@List.getElem?_map
abbrev Qt:=@List.map_map
abbrev Qu:=@Bool.true_or
abbrev Qv:=@Bool.or_true
abbrev Qw:=@Nat.zero_le
abbrev Qx:=@Bool.and_true
abbrev Qy:=@Bool.not_false
abbrev Qz:=@Bool.false_and
abbrev Q0:=@Bool.and_false
abbrev Q1:=@List.getElem?_set
abbrev Q2:=@Bool.or_false
open Go Go.RowKit
set_option linter.unusedVariables false
abbrev Fr:=List (Nat×Value)
def look:Fr→Nat→Option Value
 | [],_=>none
 | p::l,i=>bif Nat.beq p.1 i then some p.2 else look l i
theorem Bo (j:Nat)(v:Value)(l:Fr)(i:Nat):look ((j,v)::l) i=if j=i then some v else look l i:=by
 by_cases h:j=i
 ·subst h;simp[look]
 ·have:Nat.beq j i=false:=by
   cases hb:Nat.beq j i
   ·rfl
   ·exact absurd (Nat.eq_of_beq_eq_true hb) h
  simp[look,this,h]
structure BO (n:Nat) (l:Fr) (a:Act):Prop where
 size:a.tmps.size=n
 defers:a.defers=[]
 tm:∀i v,look l i=some v→a.tmps[i]? =some v
def ev:Fr→Operand→Option Value
 | l,.tmp t=>look l t
 | _,.const v=>some v
 | _,.global g=>some (.pointer (some ⟨g,0,none⟩))
 | _,.func f=>some (.func (.func f) #[] #[])
section
variable {n : Nat} {l l' : Fr} {a : Act}
theorem BO.eval (h:BO n l a){x:Operand}{v:Value}(hx:ev l x=some v):a.eval x=v:=by
 cases x with
 | tmp t=>simp[Act.eval,Array.getD_eq_getD_getElem?,h.tm t v hx]
 | const u=>simp only[ev,Option.some.injEq] at hx;subst hx;rfl
 | global g=>simpa[ev,Act.eval] using hx
 | func f=>simpa[ev,Act.eval] using hx
theorem BO.put (h:BO n l a){d:Nat}(hd:Nat.blt d n=true)(v:Value):BO n ((d,v)::l) (a.put (some d) v):=by
 have hd':d<n:=by simpa using hd
 refine⟨by simp[Act.put,h.size],by simp[Act.put,h.defers],λi u hi=>?_⟩;rw[Bo] at hi;simp only[Act.put,Array.getElem?_setIfInBounds]
 split at hi
 ·rename_i e;subst e;simp at hi;subst hi;simp[h.size,hd']
 ·rename_i e;rw[Qm e];exact h.tm i u hi
theorem BO.put_none (h:BO n l a)(v:Value):BO n l (a.put none v):=h
def AQ:Fr→Fr→Prop
 | [],_=>True
 | p::r,l=>look l p.1=some p.2∧AQ r l
theorem AQ.look:∀{l' l:Fr},AQ l' l→∀i v,look l' i=some v→Proofs.YtfbmdidnlhifjaaGreatDoor.look l i=some v
 | [],_,_,i,v,h=>by simp[Proofs.YtfbmdidnlhifjaaGreatDoor.look] at h
 | p::r,l,⟨h1,h2⟩,i,v,h=>by
  obtain⟨j,u⟩:=p;rw[Bo] at h
  split at h
  ·rename_i e;subst e;simp at h;subst h;exact h1
  ·exact AQ.look h2 i v h
theorem BO.sub (h:BO n l a)(hs:AQ l' l):BO n l' a:=⟨h.size,h.defers,λi v hi=>h.tm i v (hs.look i v hi)⟩
end
inductive Ent where
 | blk (b:Nat) (o:Obj)
 | row (v:Value) (e:TypeId) (sz:Nat) (n:Nat) (xs:List Value)
def Ent.foot:Ent→List Nat
 | .blk b _=>[b]
 | .row v _ _ _ _=>v.ownBlock.toList
def Ent.holds (w:World):Ent→Prop
 | .blk b o=>w.heap[b]? =some o
 | .row v e sz n xs=>w.ownsRow 0 e sz v n xs
theorem Ent.lt {w:World}{e:Ent}(h:e.holds w){k:Nat}(hk:k∈e.foot):k<w.heap.size:=by
 cases e with
 | blk b o=>simp[Ent.foot] at hk;subst hk;exact(Array.getElem?_eq_some_iff.1 h).1
 | row v e sz n xs=>simp[Ent.foot,Option.mem_toList] at hk;exact(World.ownsRow.lt h k hk).2
theorem Ent.keep {w w':World}{e:Ent}(h:e.holds w)(hk:∀k∈e.foot,w'.heap[k]? =w.heap[k]?):e.holds w':=by
 cases e with
 | blk b o=>exact(hk b (by simp[Ent.foot])).trans h
 | row v e sz n xs=>
  refine⟨h.1,?_⟩;rcases h.2 with hn | ⟨g,cap,cur,rfl,hb,hgg,rest⟩
  ·exact .inl hn
  ·exact .inr ⟨g,cap,cur,rfl,hb,(hk g (by simp[Ent.foot,Value.ownBlock])).trans hgg,rest⟩
structure St (w0:World) (M:List Nat) (H:List Ent) (w:World):Prop where
 os:w.os=w0.os
 tape:w.tape=w0.tape
 output:w.output=w0.output
 size:w0.heap.size≤w.heap.size
 old:∀k,k<w0.heap.size→k ∉ M→w.heap[k]? =w0.heap[k]?
 has:∀e∈H,e.holds w
 own:∀e∈H,∀k∈e.foot,w0.heap.size≤k∨k∈M
 dis:H.Pairwise (λe e'=>∀k∈e.foot,k ∉ e'.foot)
section
variable {w0 w w' : World} {M M2 : List Nat} {H H' Hr Hin Hout : List Ent}
theorem St.refl (w:World)(M:List Nat):St w M [] w:=⟨rfl,rfl,rfl,PW _,λ_ _ _=>rfl,by simp,by simp,.nil⟩
theorem St.enter (h:St w0 M H w):St w (H.flatMap Ent.foot) H w:=
 ⟨rfl,rfl,rfl,PW _,λ_ _ _=>rfl,h.has,λe he k hk=>.inr (List.mem_flatMap.2 ⟨e,he,hk⟩),h.dis⟩
theorem St.below (h:St w0 [] H w):Below w0.heap.size w0 w:=⟨h.os,h.tape,h.output,h.size,λk hk=>h.old k hk (by simp)⟩
theorem St.of_below (h:Below w0.heap.size w0 w):St w0 [] [] w:=⟨h.os,h.tape,h.output,h.size,λk hk _=>h.block k hk,by simp,by simp,.nil⟩
theorem St.sub (h:St w0 M H w)(hs:H'.Sublist H):St w0 M H' w:=
 ⟨h.os,h.tape,h.output,h.size,h.old,λe he=>h.has e (hs.subset he),λe he=>h.own e (hs.subset he),h.dis.sublist hs⟩
theorem St.perm (h:St w0 M H w)(hp:H.Perm H'):St w0 M H' w:=
 ⟨h.os,h.tape,h.output,h.size,h.old,λe he=>h.has e (hp.mem_iff.2 he),λe he=>h.own e (hp.mem_iff.2 he),
  (hp.pairwise_iff (λhxy k hk hk'=>hxy k hk' hk)).1 h.dis⟩
theorem Af:∀{H:List Ent} {i:Nat} {e:Ent},H[i]? =some e→H.Perm (e::H.eraseIdx i)
 | x::r,0,e,h=>by simp at h;subst h;simp
 | x::r,i+1,e,h=>by
  simp at h;exact((Af h).cons x).trans (List.Perm.swap e x _)
theorem St.front (h:St w0 M H w){i:Nat}{e:Ent}(hi:H[i]? =some e):St w0 M (e::H.eraseIdx i) w:=h.perm (Af hi)
theorem St.drew (h:St w0 M H w):St w0 M H w.drew:=
 ⟨h.os,h.tape,h.output,h.size,h.old,λe he=>Ent.keep (h.has e he) λ_ _=>rfl,h.own,h.dis⟩
theorem St.drawn (h:St w0 M H w)(k:Nat):St w0 M H { w with drawn:=k }:=
 ⟨h.os,h.tape,h.output,h.size,h.old,λe he=>Ent.keep (h.has e he) λ_ _=>rfl,h.own,h.dis⟩
theorem St.mem_lt (h:St w0 M H w){e:Ent}(he:e∈H){k:Nat}(hk:k∈e.foot):k<w.heap.size:=Ent.lt (h.has e he) hk
theorem St.call (h:St w0 M (Hin++Hr) w)(h':St w M2 Hout w')(hM:∀k∈M2,∃e∈Hin,k∈e.foot):St w0 M (Hout++Hr) w':=by
 have hd:=List.pairwise_append.1 h.dis;have hM2:∀k,k<w0.heap.size→k ∉ M→k ∉ M2:=λk hk hkM hkM2=>by
  obtain⟨e,he,hke⟩:=hM k hkM2;rcases h.own e (List.mem_append_left _ he) k hke with h1 | h1
  ·omega
  ·exact hkM h1
 have hr:∀e∈Hr,∀k∈e.foot,k<w.heap.size∧k ∉ M2:=λe he k hk=>by
  refine⟨h.mem_lt (List.mem_append_right _ he) hk,λhkM2=>?_⟩;obtain⟨e',he',hke'⟩:=hM k hkM2;exact hd.2.2 e' he' e he k hke' hk
 refine⟨h'.os.trans h.os,h'.tape.trans h.tape,h'.output.trans h.output,Nat.le_trans h.size h'.size,λk hk hkM=>?_,λe he=>?_,λe he k hk=>?_,?_⟩
 ·exact(h'.old k (Nat.lt_of_lt_of_le hk h.size) (hM2 k hk hkM)).trans (h.old k hk hkM)
 ·rcases List.mem_append.1 he with he | he
  ·exact h'.has e he
  ·exact Ent.keep (h.has e (List.mem_append_right _ he)) λk hk=>h'.old k (hr e he k hk).1 (hr e he k hk).2
 ·rcases List.mem_append.1 he with he | he
  ·rcases h'.own e he k hk with h1 | h1
   ·exact .inl (Nat.le_trans h.size h1)
   ·obtain⟨e',he',hke'⟩:=hM k h1;exact h.own e' (List.mem_append_left _ he') k hke'
  ·exact h.own e (List.mem_append_right _ he) k hk
 ·refine List.pairwise_append.2 ⟨h'.dis,hd.2.1,λe he e' he' k hk hk'=>?_⟩;rcases h'.own e he k hk with h1 | h1
  ·have:=(hr e' he' k hk').1;omega
  ·exact(hr e' he' k hk').2 h1
theorem St.call0 (h:St w0 M H w)(h':St w [] Hout w'):St w0 M (Hout++H) w':=
 St.call (Hin:=[]) (by simpa using h) h' (by simp)
theorem St.set (h:St w0 M H w){i:Nat}{e e':Ent}(hi:H[i]? =some e)(os:w'.os=w.os)(tape:w'.tape=w.tape)(output:w'.output=w.output)(size:w.heap.size≤w'.heap.size)
  (hb:∀k,k<w.heap.size→k ∉ e.foot→w'.heap[k]? =w.heap[k]?) (he:e'.holds w') (hf:∀k∈e'.foot,k∈e.foot∨w.heap.size≤k):St w0 M (H.set i e') w':=by
 have hp:(e::H.eraseIdx i).Perm H:=(Af hi).symm;have h1:St w0 M ([e]++H.eraseIdx i) w:=h.perm (Af hi);have hil:i<H.length:=(List.getElem?_eq_some_iff.1 hi).1;have h2:St w e.foot [e'] w':=
  ⟨os,tape,output,size,hb,by simpa using he,by simpa using λk hk=>(hf k hk).symm,by simp⟩
 have h3:=h1.call h2 (λk hk=>⟨e,by simp,hk⟩);have hq:(H.set i e')[i]? =some e':=by simp[hil]
 have:=Af hq;rw[List.eraseIdx_set_eq] at this;exact h3.perm this.symm
theorem St.alloc (h:St w0 M H w)(o:Obj):St w0 M (.blk w.heap.size o::H) (w.alloc o):=by
 have h2:St w [] [.blk w.heap.size o] (w.alloc o):=
  ⟨rfl,rfl,rfl,by simp,λk hk _=>Below.heap_alloc w o k hk,by simpa[Ent.holds] using heap_alloc_new w o,by simp[Ent.foot],by simp⟩
 exact h.call0 h2
end
section
variable (P : Program) (n : Nat) (w0 : World) (M : List Nat)
def WL (ops:Array Oper)(Q:Exit→Act→World→Prop)(rest:List Oper)(l:Fr)(H:List Ent):Prop:=∀a w,BO n l a→St w0 M H w→wpList P ops Q rest a w
def WC (c:Code)(Q:Exit→Act→World→Prop)(l:Fr)(H:List Ent):Prop:=∀a w,BO n l a→St w0 M H w→c.wp P Q a w
def WK (K:Act→World→Prop)(l:Fr)(H:List Ent):Prop:=∀a w,BO n l a→St w0 M H w→K a w
def Et {S:Type}(inv:S→Prop)(fr:S→Fr)(hp:S→List Ent):Act→World→Prop:=λa w=>∃s,inv s∧BO n (fr s) a∧St w0 M (hp s) w
def Bd (l:Fr)(H:List Ent)(o:Oper)(v:Value):Prop:=∀a w,BO n l a→St w0 M H w→(execOp a.eval o).run P w = .ok (.value v) w
end
def Pu (w:World)(M:List Nat)(Φ:Value→List Ent→Prop):Ending→World→Prop:=λe w'=>∃v H,e = .returned v∧St w M H w'∧Φ v H
def J8 (w:World)(v:Value):Ending→World→Prop:=λe w'=>e = .returned v∧St w [] [] w'
section
variable {P : Program} {n : Nat} {w0 : World} {M : List Nat} {ops : Array Oper} {Q : Exit → Act → World → Prop} {rest : List Oper} {l l' : Fr} {H H' : List Ent} {x y c : Code} {K : Act → World → Prop}
theorem WC.sub (hl:AQ l' l)(hH:H'.Sublist H)(h:WC P n w0 M c Q l' H'):WC P n w0 M c Q l H:=λa w ha hw=>h a w (ha.sub hl) (hw.sub hH)
theorem WK.sub (hl:AQ l' l)(hH:H'.Sublist H)(h:WK n w0 M K l' H'):WK n w0 M K l H:=λa w ha hw=>h a w (ha.sub hl) (hw.sub hH)
theorem WL.sub (hl:AQ l' l)(hH:H'.Sublist H)(h:WL P n w0 M ops Q rest l' H'):WL P n w0 M ops Q rest l H:=λa w ha hw=>h a w (ha.sub hl) (hw.sub hH)
theorem WL.front {i:Nat}{e:Ent}(hi:H[i]? =some e)(h:WL P n w0 M ops Q rest l (e::H.eraseIdx i)):WL P n w0 M ops Q rest l H:=λa w ha hw=>h a w ha (hw.front hi)
theorem Au (h:WC P n w0 M x (Exit.then (λa w=>y.wp P Q a w) Q) l H):WC P n w0 M (x.seq y) Q l H:=λa w ha hw=>wp_seq (h a w ha hw)
theorem C9 {S:Type}(inv:S→Prop)(fr:S→Fr)(hp:S→List Ent)(h:WC P n w0 M x (Exit.then (Et n w0 M inv fr hp) Q) l H)(h2:∀s,inv s→WC P n w0 M y Q (fr s) (hp s)) :
  WC P n w0 M (x.seq y) Q l H:=λa w ha hw=>wp_seq (wp_mono (h a w ha hw) λe a w q=>by
   cases e with
   | normal=>obtain⟨s,hi,hs,ht⟩:=q;exact h2 s hi a w hs ht
   | _=>exact q)
theorem AR {S:Type}{inv:S→Prop}{fr:S→Fr}{hp:S→List Ent}(s:S)(hi:inv s)(hl:AQ (fr s) l)(hH:(hp s).Sublist H):WK n w0 M (Et n w0 M inv fr hp) l H:=
 λ_ _ ha hw=>⟨s,hi,ha.sub hl,hw.sub hH⟩
theorem AE (h:WK n w0 M K l H):WK n w0 M (Exit.then K Q .normal) l H:=h
theorem AB {id:Nat}(h:WK n w0 M (Q (.exit id)) l H):WK n w0 M (Exit.then K Q (.exit id)) l H:=h
theorem Ai (h:WK n w0 M (Q .ret) l H):WK n w0 M (Exit.then K Q .ret) l H:=h
theorem AX {id:Nat}(h:WK n w0 M (Q .normal) l H):WK n w0 M (Exit.inBlock id Q .normal) l H:=h
theorem AI {id:Nat}(h:WK n w0 M (Q .ret) l H):WK n w0 M (Exit.inBlock id Q .ret) l H:=h
theorem AY {J:Prop}(b:Bool)(h1:b=true→J)(h2:b=false→J):J:=by cases b;exact h2 rfl;exact h1 rfl
def OO (n:Nat)(w0:World)(M:List Nat)(φ:Prop)(l:Fr)(H:List Ent):Act→World→Prop:=λa w=>φ∧BO n l a∧St w0 M H w
theorem AU (l1:Fr)(H1:List Ent){φ:Prop}(h:WC P n w0 M x (Exit.then (OO n w0 M φ l1 H1) Q) l H)(h2:φ→WC P n w0 M y Q l1 H1):WC P n w0 M (x.seq y) Q l H:=λa w ha hw=>
 wp_seq (wp_mono (h a w ha hw) λe a w q=>by
  cases e with
  | normal=>exact h2 q.1 a w q.2.1 q.2.2
  | _=>exact q)
theorem BQ {φ:Prop}{l1:Fr}{H1:List Ent}(hφ:φ)(hl:AQ l1 l)(hH:H1.Sublist H):WK n w0 M (OO n w0 M φ l1 H1) l H:=λ_ _ ha hw=>⟨hφ,ha.sub hl,hw.sub hH⟩
theorem fb {a b:Bool}(h:a=b):some (Value.bool a)=some (Value.bool b):=by rw[h]
theorem BE (h:WC P n w0 M y Q l H):WK n w0 M (λa w=>y.wp P Q a w) l H:=h
theorem A7 (h:WK n w0 M (Q .normal) l H):WC P n w0 M .skip Q l H:=λa w ha hw=>wp_skip (h a w ha hw)
theorem B7 {id:Nat}(h:WK n w0 M (Q (.exit id)) l H):WC P n w0 M (.exit id) Q l H:=λa w ha hw=>wp_exit (h a w ha hw)
theorem A0 (h:WK n w0 M (Q .ret) l H):WC P n w0 M .ret Q l H:=λa w ha hw=>wp_ret (h a w ha hw)
theorem AS {id:Nat}(h:WC P n w0 M c (Exit.inBlock id Q) l H):WC P n w0 M (.block id c) Q l H:=λa w ha hw=>wp_block (h a w ha hw)
theorem Bi {id:Nat}(h:WK n w0 M (Q .normal) l H):WK n w0 M (Exit.inBlock id Q (.exit id)) l H:=λa w ha hw=>by
 show if id=id then _ else _
 rw[if_pos rfl];exact h a w ha hw
theorem Jd {o:Operand}{b:Bool}(ho:ev l o=some (.bool b))(h1:b=true→WC P n w0 M x Q l H)(h2:b=false→WC P n w0 M y Q l H):WC P n w0 M (.cond o x y) Q l H:=
 λa w ha hw=>wp_cond_split (ha.eval ho) (λe=>h1 e a w ha hw) (λe=>h2 e a w ha hw)
theorem Bx {o:Operand}{b:Bool}(ho:ev l o=some (.bool b))(hb:b=true)(h:WC P n w0 M x Q l H):WC P n w0 M (.cond o x y) Q l H:=
 λa w ha hw=>by subst hb;exact wp_cond_true (ha.eval ho) (h a w ha hw)
theorem Co {o:Operand}{b:Bool}(ho:ev l o=some (.bool b))(hb:b=false)(h:WC P n w0 M y Q l H):WC P n w0 M (.cond o x y) Q l H:=
 λa w ha hw=>by subst hb;exact wp_cond_false (ha.eval ho) (h a w ha hw)
theorem Jc {S:Type}(inv:S→Prop)(fr:S→Fr)(hp:S→List Ent)(μ:S→Nat)(s0:S)(h0:inv s0)(hl:AQ (fr s0) l)(hH:(hp s0).Sublist H)
  (round:∀s,inv s→WC P n w0 M c (Exit.then (Et n w0 M (λs'=>inv s'∧μ s'<μ s) fr hp) Q) (fr s) (hp s)):WC P n w0 M (.loop c) Q l H:=λa w ha hw=>by
 refine wp_loop_ghost (λk a w=>∃s,μ s=k∧inv s∧BO n (fr s) a∧St w0 M (hp s) w) (μ s0) ⟨s0,rfl,h0,ha.sub hl,hw.sub hH⟩ ?_;rintro k a w ⟨s,rfl,hi,ha,hw⟩;refine wp_mono (round s hi a w ha hw) λe a' w' q=>?_
 cases e with
 | normal=>
  obtain⟨s',⟨hi',hlt⟩,ha',hw'⟩:=q;exact⟨μ s',hlt,s',rfl,hi',ha',hw'⟩
 | _=>exact q
theorem A4 {id:Nat}{ops:List Oper}(h:WL P n w0 M ops.toArray Q ops l H):WC P n w0 M (.region id ops.toArray false) Q l H:=λa w ha hw=>wp_region_lit (h a w ha hw)
theorem A1 (h:WK n w0 M (Q .normal) l H):WL P n w0 M ops Q [] l H:=λa w ha hw=>wpList_nil (h a w ha hw)
def Cd (ops:Array Oper)(j:Nat):Option Nat:=(ops[j]?).bind (·.dst)
theorem BT {a:Act}{j d:Nat}{b:Bool}(ha:BO n l a)(hj:Cd ops j=some d)(hv:look l d=some (.bool b)):yielded ops a.tmps j=some b:=by
 unfold Cd at hj;simp[yielded,hj,ha.tm d _ hv]
theorem De {a:Act}{j d:Nat}(ha:BO n l a)(hj:Cd ops j=some d)(hv:look l d=some undef):yielded ops a.tmps j=none:=by
 unfold Cd at hj;simp[yielded,hj,ha.tm d _ hv,undef]
theorem Bc {d:Option Nat}{op:Op}{ty:TypeId}{pos:String}{af:Array Edge}{j dj:Nat}{want b:Bool}(hj:Cd ops j=some dj)(hv:look l dj=some (.bool b))(hb:b=want)
  (h:WL P n w0 M ops Q ({ dst:=d,op:=op,type:=ty,pos:=pos,after:=af,guard:=none }::rest) l H) :
  WL P n w0 M ops Q ({ dst:=d,op:=op,type:=ty,pos:=pos,after:=af,guard:=some (j,want) }::rest) l H:=λa w ha hw=>by
 have h1:=h a w ha hw;have hy:=BT ha hj hv;subst hb;simp only[wpList,Region.wanted,hy,beq_self_eq_true,if_true] at h1 ⊢;exact h1
theorem A9 {d:Nat}{op:Op}{ty:TypeId}{pos:String}{af:Array Edge}{j dj:Nat}{want b:Bool}(hj:Cd ops j=some dj)(hv:look l dj=some (.bool b))(hb:b = !want)(hn:Nat.blt d n=true)
  (h:WL P n w0 M ops Q rest ((d,undef)::l) H) :
  WL P n w0 M ops Q ({ dst:=some d,op:=op,type:=ty,pos:=pos,after:=af,guard:=some (j,want) }::rest) l H:=λa w ha hw=>by
 have hy:=BT ha hj hv;subst hb;refine wpList_skip ?_ (h _ w (ha.put hn _) hw);simp[Region.wanted,hy]
theorem DR {d:Nat}{op:Op}{ty:TypeId}{pos:String}{af:Array Edge}{j dj:Nat}{want:Bool}(hj:Cd ops j=some dj)(hv:look l dj=some undef)(hn:Nat.blt d n=true)
  (h:WL P n w0 M ops Q rest ((d,undef)::l) H) :
  WL P n w0 M ops Q ({ dst:=some d,op:=op,type:=ty,pos:=pos,after:=af,guard:=some (j,want) }::rest) l H:=λa w ha hw=>by
 have hy:=De ha hj hv;refine wpList_skip ?_ (h _ w (ha.put hn _) hw);simp[Region.wanted,hy]
theorem AD {d:Nat}{op:Op}{ty:TypeId}{pos:String}{af:Array Edge}{v:Value}(hr:Bd P n w0 M l H { dst:=some d,op:=op,type:=ty,pos:=pos,after:=af,guard:=none } v)
  (hn:Nat.blt d n=true) (h:WL P n w0 M ops Q rest ((d,v)::l) H):WL P n w0 M ops Q ({ dst:=some d,op:=op,type:=ty,pos:=pos,after:=af,guard:=none }::rest) l H:=λa w ha hw=>
 wpList_plain rfl λK hK=>by
  unfold Oper.wp;rw[hr a w ha hw];exact hK _ _ (h _ w (ha.put hn v) hw)
theorem GV {d:Nat}{op:Op}{ty:TypeId}{pos:String}{af:Array Edge}
  (hr:∀a w,BO n l a→St w0 M H w→∃v w' H',(execOp a.eval { dst:=some d,op:=op,type:=ty,pos:=pos,after:=af,guard:=none }).run P w = .ok (.value v) w'∧St w0 M H' w'∧WL P n w0 M ops Q rest ((d,v)::l) H')
  (hn:Nat.blt d n=true):WL P n w0 M ops Q ({ dst:=some d,op:=op,type:=ty,pos:=pos,after:=af,guard:=none }::rest) l H:=λa w ha hw=>
 wpList_plain rfl λK hK=>by
  obtain⟨v,w',H',h1,h2,h3⟩:=hr a w ha hw;unfold Oper.wp;rw[h1];exact hK _ _ (h3 _ w' (ha.put hn v) h2)
theorem Iv {op:Op}{ty:TypeId}{pos:String}{af:Array Edge}
  (hr:∀a w,BO n l a→St w0 M H w→∃w' H',(execOp a.eval { dst:=none,op:=op,type:=ty,pos:=pos,after:=af,guard:=none }).run P w = .ok .skip w'∧St w0 M H' w'∧WL P n w0 M ops Q rest l H') :
  WL P n w0 M ops Q ({ dst:=none,op:=op,type:=ty,pos:=pos,after:=af,guard:=none }::rest) l H:=λa w ha hw=>
 wpList_plain rfl λK hK=>by
  obtain⟨w',H',h1,h2,h3⟩:=hr a w ha hw;unfold Oper.wp;rw[h1];exact hK _ _ (h3 _ w' (ha.put_none _) h2)
theorem HC {d:Nat}{op:Op}{ty:TypeId}{pos:String}{af:Array Edge}{f:FuncId}{args:Array Value}
  (hr:∀a w,BO n l a→St w0 M H w→(execOp a.eval { dst:=some d,op:=op,type:=ty,pos:=pos,after:=af,guard:=none }).run P w = .ok (.enter f args) w)
  (hc:∀w,St w0 M H w→Calls P f args w (λe w'=>∃v H',e = .returned v∧St w0 M H' w'∧WL P n w0 M ops Q rest ((d,v)::l) H'))
  (hn:Nat.blt d n=true):WL P n w0 M ops Q ({ dst:=some d,op:=op,type:=ty,pos:=pos,after:=af,guard:=none }::rest) l H:=λa w ha hw=>
 wpList_plain rfl λK hK=>by
  unfold Oper.wp;rw[hr a w ha hw];refine(hc w hw).mono ?_;rintro e w' ⟨v,H',rfl,h2,h3⟩;exact hK _ _ (h3 _ w' (ha.put hn v) h2)
end
def B (l:List UInt8):ByteArray:=⟨l.toArray⟩
theorem CU (l:List UInt8):(B l).toList=l:=by
 rw[Go.ByteArray.toList_eq];rfl
theorem Hp (l:List UInt8):(B l).size=l.length:=by simp[B,ByteArray.size]
theorem P9 (s:ByteArray):s=B s.data.toList:=by cases s;simp[B]
theorem fs {a b:List UInt8}(h:a=b):some (Value.string (B a))=some (Value.string (B b)):=by rw[h]
theorem Oz (l:List UInt8)(i:Nat):(B l)[i]? =l[i]?:=by
 by_cases h:i<(B l).size
 ·have h':i<l.length:=by rw[Hp] at h;exact h
  rw[Go.ByteArray.getElem?_lt' _ _ h,PR h'];rfl
 ·have h' : ¬ i<l.length:=by rw[Hp] at h;exact h
  rw[Go.ByteArray.getElem?_ge' _ _ h,List.getElem?_eq_none (by omega)]
section
variable {P : Program} {n : Nat} {w0 : World} {M : List Nat} {l : Fr} {H : List Ent} {d : Option Nat} {x y c : Operand} {ty t t' : TypeId} {pos : String} {af : Array Edge} {g : Option (Nat × Bool)} {v u : Value}
theorem Ax (h:ev l x=some v):Bd P n w0 M l H { dst:=d,op:=.move x,type:=ty,pos:=pos,after:=af,guard:=g } v:=λa w ha _=>by
 simp[execOp,ha.eval h]
theorem AK (h:ev l x=some v):Bd P n w0 M l H { dst:=d,op:=.assign x,type:=ty,pos:=pos,after:=af,guard:=g } v:=λa w ha _=>by
 simp[execOp,ha.eval h]
theorem Ar {b:Bool}(hc:ev l c=some (.bool b))(hb:b=true)(h:ev l x=some v):Bd P n w0 M l H { dst:=d,op:=.pick c x y,type:=ty,pos:=pos,after:=af,guard:=g } v:=λa w ha _=>by
 subst hb;simp[execOp,ha.eval h,ha.eval hc,asBool]
theorem AJ {b:Bool}(hc:ev l c=some (.bool b))(hb:b=false)(h:ev l y=some v):Bd P n w0 M l H { dst:=d,op:=.pick c x y,type:=ty,pos:=pos,after:=af,guard:=g } v:=λa w ha _=>by
 subst hb;simp[execOp,ha.eval h,ha.eval hc,asBool]
theorem AG {vs:Array Value}{i:Nat}(h:ev l x=some (.tuple vs))(hi:vs[i]? =some v):Bd P n w0 M l H { dst:=d,op:=.extract x i,type:=ty,pos:=pos,after:=af,guard:=g } v:=λa w ha _=>by
 simp[execOp,ha.eval h,Instr.extract,hi]
theorem B5 {b:Bool}(h:ev l x=some (.bool b)):Bd P n w0 M l H { dst:=d,op:=.unOp .not t x,type:=ty,pos:=pos,after:=af,guard:=g } (.bool (!b)):=λa w ha _=>by
 simp[execOp,ha.eval h,Op.unary]
theorem Bf (op:BinOp)(k k':IntKind)(p q:Int)(w:World):(eqGuard op t x y (.int k p) (.int k' q)).run P w = .ok () w:=by
 unfold eqGuard;split<;>simp
theorem CI (op:BinOp)(p q:ByteArray)(w:World):(eqGuard op t x y (.string p) (.string q)).run P w = .ok () w:=by
 unfold eqGuard;split<;>simp
section
variable {k : IntKind} {p q z : Int} (hx : ev l x = some (.int k p)) (hy : ev l y = some (.int k q))
include hx hy
theorem BS (hz:k.wrap (p+q)=z):Bd P n w0 M l H { dst:=d,op:=.binOp .add t x y t',type:=ty,pos:=pos,after:=af,guard:=g } (.int k z):=λa w ha _=>by
 simp[execOp,ha.eval hx,ha.eval hy,Bf,binOp,Op.intArith,hz]
theorem IE (hz:k.wrap (p-q)=z):Bd P n w0 M l H { dst:=d,op:=.binOp .sub t x y t',type:=ty,pos:=pos,after:=af,guard:=g } (.int k z):=λa w ha _=>by
 simp[execOp,ha.eval hx,ha.eval hy,Bf,binOp,Op.intArith,hz]
theorem D8:Bd P n w0 M l H { dst:=d,op:=.binOp .lss t x y t',type:=ty,pos:=pos,after:=af,guard:=g } (.bool (decide (p<q))):=λa w ha _=>by
 simp[execOp,ha.eval hx,ha.eval hy,Bf,binOp,Op.intCmp]
theorem KE:Bd P n w0 M l H { dst:=d,op:=.binOp .leq t x y t',type:=ty,pos:=pos,after:=af,guard:=g } (.bool (decide (p≤q))):=λa w ha _=>by
 simp[execOp,ha.eval hx,ha.eval hy,Bf,binOp,Op.intCmp]
theorem DW:Bd P n w0 M l H { dst:=d,op:=.binOp .gtr t x y t',type:=ty,pos:=pos,after:=af,guard:=g } (.bool (decide (q<p))):=λa w ha _=>by
 simp[execOp,ha.eval hx,ha.eval hy,Bf,binOp,Op.intCmp]
theorem KF:Bd P n w0 M l H { dst:=d,op:=.binOp .geq t x y t',type:=ty,pos:=pos,after:=af,guard:=g } (.bool (decide (q≤p))):=λa w ha _=>by
 simp[execOp,ha.eval hx,ha.eval hy,Bf,binOp,Op.intCmp]
theorem BK:Bd P n w0 M l H { dst:=d,op:=.binOp .eql t x y t',type:=ty,pos:=pos,after:=af,guard:=g } (.bool (decide (p=q))):=λa w ha _=>by
 have e:(p ==q)=decide (p=q):=by rw[Qi];simp
 simp[execOp,ha.eval hx,ha.eval hy,Bf,binOp,Op.intCmp,e]
theorem CK:Bd P n w0 M l H { dst:=d,op:=.binOp .neq t x y t',type:=ty,pos:=pos,after:=af,guard:=g } (.bool (!decide (p=q))):=λa w ha _=>by
 have e:(p !=q) = !decide (p=q):=by rw[Qi];simp
 simp[execOp,ha.eval hx,ha.eval hy,Bf,binOp,Op.intCmp,e]
end
section
variable {p q : List UInt8} (hx : ev l x = some (.string (B p))) (hy : ev l y = some (.string (B q)))
include hx hy
theorem Or:Bd P n w0 M l H { dst:=d,op:=.binOp .leq t x y t',type:=ty,pos:=pos,after:=af,guard:=g } (.bool (Op.bytesLess p q||decide (p=q))):=λa w ha _=>by
 have e:(p ==q)=decide (p=q):=by rw[Qi];simp
 simp[execOp,ha.eval hx,ha.eval hy,CI,binOp,Op.stringOp,CU,e]
theorem Gc:Bd P n w0 M l H { dst:=d,op:=.binOp .eql t x y t',type:=ty,pos:=pos,after:=af,guard:=g } (.bool (decide (p=q))):=λa w ha _=>by
 have e:(p ==q)=decide (p=q):=by rw[Qi];simp
 simp[execOp,ha.eval hx,ha.eval hy,CI,binOp,Op.stringOp,CU,e]
theorem Oq:Bd P n w0 M l H { dst:=d,op:=.binOp .neq t x y t',type:=ty,pos:=pos,after:=af,guard:=g } (.bool (!decide (p=q))):=λa w ha _=>by
 have e:(p ==q)=decide (p=q):=by rw[Qi];simp
 simp[execOp,ha.eval hx,ha.eval hy,CI,binOp,Op.stringOp,CU,e]
end
theorem C5 {p:List UInt8}(ht:P.underlying t=some .string)(h:ev l x=some (.string (B p))):Bd P n w0 M l H { dst:=d,op:=.call { callee:=.builtin .len,args:=#[x],argTypes:=#[t] },type:=ty,pos:=pos,after:=af,guard:=g } (.int .i64 p.length):=λa w ha _=>by
 simp[execOp,resolve,invoke,builtin,ha.eval h,Builtin.len_,run_underlying ht,goInt,Hp]
theorem JW {A:Option Addr}{m cp:Nat}{e:TypeId}(ht:P.underlying t=some (.slice e))(h:ev l x=some (.slice A m cp)):Bd P n w0 M l H { dst:=d,op:=.call { callee:=.builtin .len,args:=#[x],argTypes:=#[t] },type:=ty,pos:=pos,after:=af,guard:=g } (.int .i64 m):=λa w ha _=>by
 simp[execOp,resolve,invoke,builtin,ha.eval h,Builtin.len_,run_underlying ht,goInt]
theorem LW {p:List UInt8}{k:IntKind}{i:Int}{c:UInt8}(ht:P.underlying t=some .string)(h:ev l x=some (.string (B p)))(hi:ev l y=some (.int k i))(h0:0≤i)(hc:p[i.toNat]? =some c) :
  Bd P n w0 M l H { dst:=d,op:=.index t x y,type:=ty,pos:=pos,after:=af,guard:=g } (.int .u8 c.toNat):=λa w ha _=>by
 simp[execOp,ha.eval h,ha.eval hi,Instr.index,asIntOf,run_underlying ht,h0,Oz,hc]
theorem E1 {k:IntKind}{i:Int}{m:Nat}(code:BoundsCode)(w:World)(h0:0≤i)(h1:i≤m):(Instr.sliceBound (.int k i) m code).run P w = .ok i.toNat w:=by
 simp[Instr.sliceBound,asIntOf,h0,h1]
end
end Go.Proofs.YtfbmdidnlhifjaaGreatDoor
namespace Go.Proofs.YtfbmdidnlhifjaaGreatDoor.Q
open Go Go.RowKit
set_option linter.unusedVariables false
structure Fz where
 f:Nat→Option Obj
 nm:Nat→Nat→Option Nat
instance:CoeFun Fz (λ_=>Nat→Option Obj):=⟨Fz.f⟩
structure Fz.le (Z Z':Fz):Prop where
 f:∀b o,Z b=some o→Z' b=some o
 nm:∀k i b,Z.nm k i=some b→Z'.nm k i=some b
instance {Z Z':Fz}:CoeFun (Fz.le Z Z') (λ_=>∀b o,Z b=some o→Z' b=some o):=⟨Fz.le.f⟩
theorem Fz.le.refl (Z:Fz):Fz.le Z Z:=⟨λ_ _ h=>h,λ_ _ _ h=>h⟩
theorem Fz.le.trans {Z Z' Z'':Fz}(h:Fz.le Z Z')(h':Fz.le Z' Z''):Fz.le Z Z'':=⟨λb o e=>h' b o (h b o e),λk i b e=>h'.nm k i b (h.nm k i b e)⟩
structure LD (Z:Fz) (w:World):Prop where
 f:∀b o,Z b=some o→w.heap[b]? =some o
 nm:∀k i b,Z.nm k i=some b→k<w.heap.size
instance {Z:Fz} {w:World}:CoeFun (LD Z w) (λ_=>∀b o,Z b=some o→w.heap[b]? =some o):=⟨LD.f⟩
def Em (Z:Fz)(b o:Nat):Option Value:=match Z b with
 | some (.cells cs _ _)=>cs[o]?
 | _=>none
theorem HJ {Z Z':Fz}(h:Fz.le Z Z'){b o:Nat}{v:Value}(e:Em Z b o=some v):Em Z' b o=some v:=by
 unfold Em at *
 cases hz:Z b with
 | none=>simp[hz] at e
 | some ob=>rw[h b ob hz];simpa[hz] using e
theorem Gi {Z:Fz}{w:World}(h:LD Z w){b o:Nat}{v:Value}(e:Em Z b o=some v):w.cell? ⟨b,o,none⟩=some v:=by
 unfold Em at e
 cases hz:Z b with
 | none=>simp[hz] at e
 | some ob=>
  rw[hz] at e
  cases ob with
  | cells cs t fz=>rw[cell_of_row w b o cs t fz (h b _ hz)];exact e
  | _=>cases e
structure Rp where
 p:Fz→Value→Prop
 mono:∀{Z Z':Fz} {v:Value},Fz.le Z Z'→p Z v→p Z' v
 one:Bool
 hone:one=true→∀Z v,p Z v→v.oneCell'=true
def rv (x:Value):Rp:=⟨λ_ y=>y=x,λ_ h=>h,x.oneCell',λh _ _ e=>by rw[e];exact h⟩
abbrev rI (k:IntKind)(n:Int):Rp:=rv (.int k n)
abbrev rB (b:Bool):Rp:=rv (.bool b)
abbrev rS (s:List UInt8):Rp:=rv (.string (B s))
def AM (Z:Fz):List Rp→List Value→Prop
 | [],[]=>True
 | r::rs,v::vs=>r.p Z v∧AM Z rs vs
 | _,_=>False
theorem AM.mono {Z Z':Fz}(h:Fz.le Z Z'):∀{rs:List Rp} {vs:List Value},AM Z rs vs→AM Z' rs vs
 | [],[],_=>trivial
 | r::rs,v::vs,⟨h1,h2⟩=>⟨r.mono h h1,AM.mono h h2⟩
theorem AM.length {Z:Fz}:∀{rs:List Rp} {vs:List Value},AM Z rs vs→vs.length=rs.length
 | [],[],_=>rfl
 | r::rs,v::vs,⟨_,h2⟩=>by simp[AM.length h2]
theorem AM.at {Z:Fz}:∀{rs:List Rp} {vs:List Value},AM Z rs vs→∀{i:Nat} {r:Rp},rs[i]? =some r→∃v,vs[i]? =some v∧r.p Z v
 | [],[],_,i,r,h=>by simp at h
 | r::rs,v::vs,⟨h1,h2⟩,0,r',h=>by simp at h;subst h;exact⟨v,rfl,h1⟩
 | r::rs,v::vs,⟨h1,h2⟩,i+1,r',h=>by simpa using AM.at h2 (by simpa using h)
theorem AM.of {Z:Fz}:∀{rs:List Rp} {vs:List Value},vs.length=rs.length→(∀(i:Nat) r,rs[i]? =some r→∃v,vs[i]? =some v∧r.p Z v)→AM Z rs vs
 | [],[],_,_=>trivial
 | r::rs,v::vs,hl,h=>by
  refine⟨?_,AM.of (by simpa using hl) λi r' hi=>by simpa using h (i+1) r' (by simpa using hi)⟩;obtain⟨u,hu,hp⟩:=h 0 r rfl;simp at hu;subst hu;exact hp
 | [],_::_,hl,_=>by simp at hl
 | _::_,[],hl,_=>by simp at hl
theorem AM.append {Z:Fz}:∀{rs:List Rp} {vs:List Value} {rs':List Rp} {vs':List Value},AM Z rs vs→AM Z rs' vs'→AM Z (rs++rs') (vs++vs')
 | [],[],_,_,_,h=>h
 | r::rs,v::vs,_,_,⟨h1,h2⟩,h=>⟨h1,AM.append h2 h⟩
theorem AM.take {Z:Fz}:∀{rs:List Rp} {vs:List Value} (k:Nat),AM Z rs vs→AM Z (rs.take k) (vs.take k)
 | _,_,0,_=>by simp[AM]
 | [],[],k+1,_=>by simp[AM]
 | r::rs,v::vs,k+1,⟨h1,h2⟩=>⟨h1,AM.take k h2⟩
theorem AM.drop {Z:Fz}:∀{rs:List Rp} {vs:List Value} (k:Nat),AM Z rs vs→AM Z (rs.drop k) (vs.drop k)
 | _,_,0,h=>by simpa using h
 | [],[],k+1,_=>by simp[AM]
 | r::rs,v::vs,k+1,⟨h1,h2⟩=>by simpa using AM.drop k h2
theorem AM.set {Z:Fz}:∀{rs:List Rp} {vs:List Value} (k:Nat) {r:Rp} {v:Value},AM Z rs vs→r.p Z v→AM Z (rs.set k r) (vs.set k v)
 | [],[],k,_,_,h,_=>by simp[AM]
 | r::rs,v::vs,0,_,_,⟨h1,h2⟩,h=>⟨h,h2⟩
 | r::rs,v::vs,k+1,_,_,⟨h1,h2⟩,h=>⟨h1,AM.set k h2 h⟩
theorem AM.one {Z:Fz}:∀{rs:List Rp} {vs:List Value},rs.all (·.one)=true→AM Z rs vs→∀v∈vs,v.oneCell'=true
 | [],[],_,_,_,h=>by simp at h
 | r::rs,v::vs,ho,⟨h1,h2⟩,u,h=>by
  simp only[List.all_cons,PY] at ho;rcases List.mem_cons.1 h with rfl | h
  ·exact r.hone ho.1 Z _ h1
  ·exact AM.one ho.2 h2 u h
theorem AM.eq_rv {Z:Fz}:∀{us vs:List Value},AM Z (us.map Q.rv) vs→vs=us
 | [],[],_=>rfl
 | u::us,v::vs,⟨h1,h2⟩=>by rw[show v=u from h1,AM.eq_rv h2]
def AT (rs:List Rp):Rp:=⟨λZ v=>∃us:List Value,v = .agg us.toArray∧AM Z rs us,λh ⟨us,e,hu⟩=>⟨us,e,hu.mono h⟩,false,λh=>by cases h⟩
def Ce (rs:List Rp):Rp:=⟨λZ v=>∃us:List Value,v = .tuple us.toArray∧AM Z rs us,λh ⟨us,e,hu⟩=>⟨us,e,hu.mono h⟩,false,λh=>by cases h⟩
def LC (sz:Nat)(xs:List (List Rp))(Z:Fz)(v:Value):Prop:=
 ∃A cap,v = .slice A xs.length cap∧xs.length≤cap∧cap≤maxLen∧(A=none→cap=0)∧
  ∀i c,xs[i]? =some c→c.length=sz∧∃a:Addr,A=some a∧a.spot=none∧∀j r,c[j]? =some r→∃u,Em Z a.block (a.off+(i*sz+j))=some u∧r.p Z u
theorem LC.mono {sz:Nat}{xs:List (List Rp)}{Z Z':Fz}{v:Value}(h:Fz.le Z Z'):LC sz xs Z v→LC sz xs Z' v:=λ⟨A,cap,e,h1,h2,h3,h4⟩=>
 ⟨A,cap,e,h1,h2,h3,λi c hi=>by
  obtain⟨hl,a,ha,hs,hc⟩:=h4 i c hi;exact⟨hl,a,ha,hs,λj r hj=>by
   obtain⟨u,hu,hr⟩:=hc j r hj;exact⟨u,HJ h hu,r.mono h hr⟩⟩⟩
def AH (sz:Nat)(xs:List (List Rp)):Rp:=⟨LC sz xs,LC.mono,true,λ_ Z v ⟨A,cap,e,_⟩=>by rw[e];rfl⟩
theorem LC.nil (sz:Nat)(Z:Fz):LC sz [] Z (.slice none 0 0):=⟨none,0,rfl,PW _,by simp[maxLen],λ_=>rfl,λi c h=>by simp at h⟩
def DE (r r':Rp):Prop:=∀Z v,r.p Z v→r'.p Z v
theorem DE.refl (r:Rp):DE r r:=λ_ _ h=>h
theorem DE.nil (sz:Nat):DE (rv (.slice none 0 0)) (AH sz []):=λZ v h=>by rw[show v=_ from h];exact LC.nil sz Z
abbrev Fr:=List (Nat×Rp)
def look:Fr→Nat→Option Rp
 | [],_=>none
 | p::l,i=>bif Nat.beq p.1 i then some p.2 else look l i
theorem Bo (j:Nat)(v:Rp)(l:Fr)(i:Nat):look ((j,v)::l) i=if j=i then some v else look l i:=by
 by_cases h:j=i
 ·subst h;simp[look]
 ·have:Nat.beq j i=false:=by
   cases hb:Nat.beq j i
   ·rfl
   ·exact absurd (Nat.eq_of_beq_eq_true hb) h
  simp[look,this,h]
structure BO (n:Nat) (l:Fr) (a:Act) (Z:Fz):Prop where
 size:a.tmps.size=n
 defers:a.defers=[]
 tm:∀i r,look l i=some r→∃v,a.tmps[i]? =some v∧r.p Z v
def ev:Fr→Operand→Option Rp
 | l,.tmp t=>look l t
 | _,.const v=>some (rv v)
 | _,.global g=>some (rv (.pointer (some ⟨g,0,none⟩)))
 | _,.func f=>some (rv (.func (.func f) #[] #[]))
section
variable {n : Nat} {l l' : Fr} {a : Act} {Z Z' : Fz}
theorem BO.ev (h:BO n l a Z){x:Operand}{r:Rp}(hx:Q.ev l x=some r):r.p Z (a.eval x):=by
 cases x with
 | tmp t=>obtain⟨v,hv,hp⟩:=h.tm t r hx;simpa[Act.eval,Array.getD_eq_getD_getElem?,hv] using hp
 | const u=>simp only[Q.ev,Option.some.injEq] at hx;subst hx;rfl
 | global g=>simp only[Q.ev,Option.some.injEq] at hx;subst hx;rfl
 | func f=>simp only[Q.ev,Option.some.injEq] at hx;subst hx;rfl
theorem BO.eval (h:BO n l a Z){x:Operand}{v:Value}(hx:Q.ev l x=some (rv v)):a.eval x=v:=h.ev hx
theorem BO.put (h:BO n l a Z){d:Nat}(hd:Nat.blt d n=true){r:Rp}{v:Value}(hv:r.p Z v):BO n ((d,r)::l) (a.put (some d) v) Z:=by
 have hd':d<n:=by simpa using hd
 refine⟨by simp[Act.put,h.size],by simp[Act.put,h.defers],λi u hi=>?_⟩;rw[Bo] at hi;simp only[Act.put,Array.getElem?_setIfInBounds]
 split at hi
 ·rename_i e;subst e;simp at hi;subst hi;exact⟨v,by simp[h.size,hd'],hv⟩
 ·rename_i e;rw[Qm e];exact h.tm i u hi
theorem BO.put_none (h:BO n l a Z)(v:Value):BO n l (a.put none v) Z:=h
theorem BO.mono (h:BO n l a Z)(hz:Fz.le Z Z'):BO n l a Z':=⟨h.size,h.defers,λi r hi=>let ⟨v,hv,hp⟩:=h.tm i r hi;⟨v,hv,r.mono hz hp⟩⟩
def AQ:Fr→Fr→Prop
 | [],_=>True
 | p::r,l=>(∃q,look l p.1=some q∧DE q p.2)∧AQ r l
theorem AQ.look:∀{l' l:Fr},AQ l' l→∀i v,Q.look l' i=some v→∃q,Q.look l i=some q∧DE q v
 | [],_,_,i,v,h=>by simp[Q.look] at h
 | p::r,l,⟨h1,h2⟩,i,v,h=>by
  obtain⟨j,u⟩:=p;rw[Bo] at h
  split at h
  ·rename_i e;subst e;simp at h;subst h;exact h1
  ·exact AQ.look h2 i v h
theorem AQ.nil:AQ [] l:=trivial
theorem AQ.c {i:Nat}{r:Rp}{t:Fr}(h:Q.look l i=some r)(ht:AQ t l):AQ ((i,r)::t) l:=⟨⟨r,h,DE.refl r⟩,ht⟩
theorem AQ.w {i:Nat}{r q:Rp}{t:Fr}(h:Q.look l i=some q)(hr:DE q r)(ht:AQ t l):AQ ((i,r)::t) l:=⟨⟨q,h,hr⟩,ht⟩
theorem AQ.c5 {i1 i2 i3 i4 i5:Nat}{r1 r2 r3 r4 r5:Rp}{t:Fr}(h1:Q.look l i1=some r1)(h2:Q.look l i2=some r2)(h3:Q.look l i3=some r3)(h4:Q.look l i4=some r4)(h5:Q.look l i5=some r5)(ht:AQ t l):AQ ((i1,r1)::(i2,r2)::(i3,r3)::(i4,r4)::(i5,r5)::t) l:=
 AQ.c h1 (AQ.c h2 (AQ.c h3 (AQ.c h4 (AQ.c h5 ht))))
theorem BO.sub (h:BO n l a Z)(hs:AQ l' l):BO n l' a Z:=⟨h.size,h.defers,λi v hi=>by
 obtain⟨q,hq,hle⟩:=hs.look i v hi;obtain⟨u,hu,hp⟩:=h.tm i q hq;exact⟨u,hu,hle Z u hp⟩⟩
end
inductive Ent where
 | obj (b:Nat) (o:Obj)
 | blk (b:Nat) (cs:List Rp) (e:TypeId)
 | row (v:Value) (e:TypeId) (sz:Nat) (xs:List (List Rp))
 | map (b:Nat) (m:List (List UInt8×Rp))
 | fact (v:Value) (r:Rp)
 | bld (T e:TypeId) (b:Nat) (v:Value) (l:List UInt8)
 | mit (b it:Nat) (m rest:List (List UInt8×Rp)) (cur:Option (List UInt8×Rp))
 | imap (b:Nat) (m:List (Int×Rp))
 | pool (k:Nat) (v:Value) (e:TypeId) (xs:List (List Rp))
 | poolw (k:Nat) (v:Value) (e re:TypeId) (rz:Nat) (xs:List ((Value→List Rp)×List (List Rp))) (out:Option (Nat×(Nat×Value)))
def DC:Value→List Nat
 | .tuple a=>a.toList.map λx=>match x with
  | .int _ n=>n.toNat
  | _=>0
 | _=>[]
def OB (bs:List Nat):Value:=.tuple (bs.map λb:Nat=>Value.int .i64 (Int.ofNat b)).toArray
theorem Oc (bs:List Nat):DC (OB bs)=bs:=by simp[DC,OB,Function.comp_def]
def Oo:Value→Nat×Value
 | .tuple a=>match a.toList with
  | [.int _ n,r]=>(n.toNat,r)
  | _=>(0,.tuple #[])
 | _=>(0,.tuple #[])
def Cz:Value→List (Nat×Value)
 | .tuple a=>a.toList.map Oo
 | _=>[]
def NN (ps:List (Nat×Value)):Value:=.tuple (ps.map λp=>Value.tuple #[.int .i64 (Int.ofNat p.1),p.2]).toArray
theorem Ln (ps:List (Nat×Value)):Cz (NN ps)=ps:=by
 simp only[Cz,NN,Qt];exact(List.map_congr_left λp _=>by simp[Oo]).trans (List.map_id _)
def IO (ps:List (Nat×Value)):List Nat:=ps.flatMap λp=>p.1::p.2.ownBlock.toList
def KC:List (Nat×Value)→Option (Nat×(Nat×Value))→List (Nat×Value)
 | ps,none=>ps
 | ps,some o=>ps.eraseIdx o.1
def Ent.gk:Ent→List Nat
 | .pool k _ _ _=>[k]
 | .poolw k _ _ _ _ _ _=>[k]
 | _=>[]
def Ent.gn:Ent→Nat
 | .pool _ v _ _=>(DC v).length
 | .poolw _ v _ _ _ _ _=>(Cz v).length
 | _=>0
def Ent.foot:Ent→List Nat
 | .obj b _=>[b]
 | .blk b _ _=>[b]
 | .row v _ _ _=>v.ownBlock.toList
 | .map b _=>[b]
 | .fact _ _=>[]
 | .bld _ _ b v _=>b::v.ownBlock.toList
 | .mit b it _ _ _=>[b,it]
 | .imap b _=>[b]
 | .pool _ v _ _=>DC v
 | .poolw _ v _ _ _ _ out=>IO (KC (Cz v) out)
def JA (Z:Fz):List (Int×Rp)→List MapEntry→Prop
 | [],[]=>True
 | p::f,e::es=>(e.key = .int .i64 p.1∧p.2.p Z e.val)∧JA Z f es
 | _,_=>False
theorem JA.mono {Z Z':Fz}(h:Fz.le Z Z'):∀{f:List (Int×Rp)} {es:List MapEntry},JA Z f es→JA Z' f es
 | [],[],_=>trivial
 | p::f,e::es,⟨⟨h1,h2⟩,h3⟩=>⟨⟨h1,p.2.mono h h2⟩,JA.mono h h3⟩
def Gv (Z:Fz):List (List UInt8×Rp)→List MapEntry→Prop
 | [],[]=>True
 | p::f,e::es=>(e.key = .string (B p.1)∧p.2.p Z e.val)∧Gv Z f es
 | _,_=>False
theorem Gv.mono {Z Z':Fz}(h:Fz.le Z Z'):∀{f:List (List UInt8×Rp)} {es:List MapEntry},Gv Z f es→Gv Z' f es
 | [],[],_=>trivial
 | p::f,e::es,⟨⟨h1,h2⟩,h3⟩=>⟨⟨h1,p.2.mono h h2⟩,Gv.mono h h3⟩
def Dl (Z:Fz)(m:List (List UInt8×Rp))(es:List MapEntry)(ck:Nat):Prop:=
 (m.map (·.1)).Nodup∧(es.map (·.born)).Nodup∧(∀e∈es,e.born<ck)∧∃f:List (List UInt8×Rp),f.Perm m∧Gv Z f es
theorem Dl.mono {Z Z':Fz}(h:Fz.le Z Z'){m:List (List UInt8×Rp)}{es:List MapEntry}{ck:Nat}:Dl Z m es ck→Dl Z' m es ck:=λ⟨h1,h2,h3,f,h4,h5⟩=>⟨h1,h2,h3,f,h4,h5.mono h⟩
def P8 (Z:Fz)(rest:List (List UInt8×Rp))(es:List MapEntry)(seen:Array Nat):Prop:=∃f,f.Perm rest∧Gv Z f (es.filter λe=>!seen.contains e.born)
def Pw (Z:Fz)(es:List MapEntry)(ck:Nat)(seen:Array Nat)(c0:Nat):Option (List UInt8×Rp)→Prop
 | none=>True
 | some kr=>c0=ck∧∃s0 e,seen=Array.push s0 e.born∧e∈es∧e.key = .string (B kr.1)∧kr.2.p Z e.val
theorem Pw.mono {Z Z':Fz}(h:Fz.le Z Z'){es:List MapEntry}{ck:Nat}{seen:Array Nat}{c0:Nat}:∀{cur:Option (List UInt8×Rp)},Pw Z es ck seen c0 cur→Pw Z' es ck seen c0 cur
 | none,_=>trivial
 | some kr,⟨h1,s0,e,h2,h3,h4,h5⟩=>⟨h1,s0,e,h2,h3,h4,kr.2.mono h h5⟩
def Ent.holds (Z:Fz)(w:World):Ent→Prop
 | .obj b o=>w.heap[b]? =some o
 | .blk b cs e=>∃us:List Value,w.heap[b]? =some (.cells us.toArray e (0,0))∧AM Z cs us
 | .row v e sz xs=>(∀c∈xs,c.length=sz)∧∃us:List Value,w.ownsRow 0 e sz v xs.length us∧AM Z xs.flatten us
 | .map b m=>∃es ck,w.heap[b]? =some (.map es ck)∧Dl Z m es.toList ck
 | .fact v r=>r.p Z v
 | .bld T e b v l=>∃p,(p = .pointer none∨p = .pointer (some ⟨b,0,none⟩))∧w.heap[b]? =some (.cells #[p,v] T (0,0))∧w.ownsRow 0 e 1 v l.length (l.map λc=>Value.int .u8 c.toNat)∧v.ownBlock≠some b
 | .mit b it m rest cur=>∃es ck seen since c0,w.heap[b]? =some (.map es ck)∧w.heap[it]? =some (.mapIter (some b) since seen c0)∧Dl Z m es.toList ck∧(∀e∈es.toList,e.born<since)∧since≤c0∧c0≤ck∧b≠it∧P8 Z rest es.toList seen∧Pw Z es.toList ck seen c0 cur
 | .imap b m=>∃es ck,w.heap[b]? =some (.map es ck)∧JA Z m es.toList
 | .pool k v e xs=>(DC v).Nodup∧(DC v).length=xs.length∧∀i b cs,(DC v)[i]? =some b→xs[i]? =some cs→Z.nm k i=some b∧∃us:List Value,w.heap[b]? =some (.cells us.toArray e (0,0))∧AM Z cs us
 | .poolw k v e re rz xs out=>(Cz v).length=xs.length∧(IO (KC (Cz v) out)).Nodup∧(∀i p,(Cz v)[i]? =some p→Z.nm k i=some p.1)∧(∀o,out=some o→(Cz v)[o.1]? =some o.2)∧
   ∀i p x,(Cz v)[i]? =some p→xs[i]? =some x→(∀o,out=some o→o.1≠i)→(∃us:List Value,w.heap[p.1]? =some (.cells us.toArray e (0,0))∧AM Z (x.1 p.2) us)∧(∀c∈x.2,c.length=rz)∧∃us:List Value,w.ownsRow 0 re rz p.2 x.2.length us∧AM Z x.2.flatten us
theorem NO {ps:List (Nat×Value)}{out:Option (Nat×(Nat×Value))}{k:Nat}(h:k∈IO (KC ps out)):∃i p,ps[i]? =some p∧(∀o,out=some o→o.1≠i)∧(k=p.1∨k∈p.2.ownBlock.toList):=by
 unfold IO at h;obtain⟨p,hp,hk⟩:=List.mem_flatMap.1 h;obtain⟨j,hj⟩:=List.mem_iff_getElem?.1 hp
 cases out with
 | none=>exact⟨j,p,hj,(λo h=>by cases h),List.mem_cons.1 hk⟩
 | some o=>
  rw[KC,List.getElem?_eraseIdx] at hj
  split at hj
  ·exact⟨j,p,hj,(λo' h=>by cases h;omega),List.mem_cons.1 hk⟩
  ·exact⟨j+1,p,hj,(λo' h=>by cases h;omega),List.mem_cons.1 hk⟩
theorem Ly {ps:List (Nat×Value)}{out:Option (Nat×(Nat×Value))}{i:Nat}{p:Nat×Value}(hp:ps[i]? =some p)(ho:∀o,out=some o→o.1≠i){k:Nat}(hk:k=p.1∨k∈p.2.ownBlock.toList):k∈IO (KC ps out):=by
 unfold IO;refine List.mem_flatMap.2 ⟨p,?_,List.mem_cons.2 hk⟩
 cases out with
 | none=>exact PU hp
 | some o=>
  have hne:=ho o rfl
  by_cases hlt:i<o.1
  ·exact PU (show(ps.eraseIdx o.1)[i]? =some p by rw[List.getElem?_eraseIdx,if_pos hlt];exact hp)
  ·exact PU (show(ps.eraseIdx o.1)[i-1]? =some p by rw[List.getElem?_eraseIdx,Qm (by omega),show i-1+1=i from by omega];exact hp)
theorem Ent.lt {Z:Fz}{w:World}{e:Ent}(h:e.holds Z w){k:Nat}(hk:k∈e.foot):k<w.heap.size:=by
 cases e with
 | obj b o=>simp[Ent.foot] at hk;subst hk;exact(Array.getElem?_eq_some_iff.1 h).1
 | blk b cs e=>simp[Ent.foot] at hk;subst hk;obtain⟨us,h,_⟩:=h;exact(Array.getElem?_eq_some_iff.1 h).1
 | row v e sz xs=>simp[Ent.foot,Option.mem_toList] at hk;obtain⟨_,us,h,_⟩:=h;exact(World.ownsRow.lt h k hk).2
 | map b m=>simp[Ent.foot] at hk;subst hk;obtain⟨es,ck,h,_⟩:=h;exact(Array.getElem?_eq_some_iff.1 h).1
 | fact v r=>simp[Ent.foot] at hk
 | bld T e b v l=>
  obtain⟨p,_,h1,h2,_⟩:=h;simp only[Ent.foot,Qq,Option.mem_toList] at hk;rcases hk with rfl | hk
  ·exact(Array.getElem?_eq_some_iff.1 h1).1
  ·exact(World.ownsRow.lt h2 k hk).2
 | mit b it m rest cur=>
  obtain⟨es,ck,seen,since,c0,h1,h2,_⟩:=h;simp only[Ent.foot,Qq,List.not_mem_nil,or_false] at hk;rcases hk with rfl | rfl
  ·exact(Array.getElem?_eq_some_iff.1 h1).1
  ·exact(Array.getElem?_eq_some_iff.1 h2).1
 | imap b m=>simp[Ent.foot] at hk;subst hk;obtain⟨es,ck,h,_⟩:=h;exact(Array.getElem?_eq_some_iff.1 h).1
 | pool q v e xs=>
  obtain⟨_,hl,h⟩:=h;obtain⟨i,hi,rfl⟩:=List.getElem_of_mem (show k∈DC v from hk);obtain⟨_,us,h1,_⟩:=h i (DC v)[i] xs[i] (PR hi) (PR (by omega));exact(Array.getElem?_eq_some_iff.1 h1).1
 | poolw q v e re rz xs out=>
  obtain⟨hl,_,_,_,h⟩:=h;obtain⟨i,p,h1,h2,h3⟩:=NO hk;have hi:i<xs.length:=by rw[← hl];exact(List.getElem?_eq_some_iff.1 h1).1
  obtain⟨⟨us,h4,_⟩,_,vs,h5,_⟩:=h i p xs[i] h1 (PR hi) h2;rcases h3 with rfl | h3
  ·exact(Array.getElem?_eq_some_iff.1 h4).1
  ·exact(World.ownsRow.lt h5 k (by simpa[Option.mem_toList] using h3)).2
theorem Ef {w w':World}{e:TypeId}{sz n:Nat}{v:Value}{us:List Value}(h:w.ownsRow 0 e sz v n us)(hk:∀k∈v.ownBlock.toList,w'.heap[k]? =w.heap[k]?):w'.ownsRow 0 e sz v n us:=by
 refine⟨h.1,?_⟩;rcases h.2 with hn | ⟨g,cap,cur,rfl,hb,hgg,rest⟩
 ·exact .inl hn
 ·exact .inr ⟨g,cap,cur,rfl,hb,(hk g (by simp[Value.ownBlock])).trans hgg,rest⟩
theorem Ent.keep {Z Z':Fz}{w w':World}{e:Ent}(h:e.holds Z w)(hz:Fz.le Z Z')(hk:∀k∈e.foot,w'.heap[k]? =w.heap[k]?):e.holds Z' w':=by
 cases e with
 | obj b o=>exact(hk b (by simp[Ent.foot])).trans h
 | blk b cs e=>obtain⟨us,h1,h2⟩:=h;exact⟨us,(hk b (by simp[Ent.foot])).trans h1,h2.mono hz⟩
 | row v e sz xs=>obtain⟨h0,us,h1,h2⟩:=h;exact⟨h0,us,Ef h1 hk,h2.mono hz⟩
 | map b m=>obtain⟨es,ck,h1,h2⟩:=h;exact⟨es,ck,(hk b (by simp[Ent.foot])).trans h1,h2.mono hz⟩
 | fact v r=>exact r.mono hz h
 | bld T e b v l=>obtain⟨p,h0,h1,h2,h3⟩:=h;exact⟨p,h0,(hk b (by simp[Ent.foot])).trans h1,Ef h2 (λk hk'=>hk k (by simp only[Ent.foot,Qq];exact .inr hk')),h3⟩
 | mit b it m rest cur=>
  obtain⟨es,ck,seen,since,c0,h1,h2,h3,h4,h5,h6,h7,⟨f,h8,h9⟩,ha⟩:=h;exact⟨es,ck,seen,since,c0,(hk b (by simp[Ent.foot])).trans h1,(hk it (by simp[Ent.foot])).trans h2,h3.mono hz,h4,h5,h6,h7,⟨f,h8,h9.mono hz⟩,ha.mono hz⟩
 | imap b m=>obtain⟨es,ck,h1,h2⟩:=h;exact⟨es,ck,(hk b (by simp[Ent.foot])).trans h1,h2.mono hz⟩
 | pool q v e xs=>
  obtain⟨h0,hl,h⟩:=h;refine⟨h0,hl,λi b cs hi hx=>?_⟩;obtain⟨h1,us,h2,h3⟩:=h i b cs hi hx;exact⟨hz.nm q i b h1,us,(hk b (PU hi)).trans h2,h3.mono hz⟩
 | poolw q v e re rz xs out=>
  obtain⟨hl,hn,hm,ho,h⟩:=h;refine⟨hl,hn,λi p hi=>hz.nm q i _ (hm i p hi),ho,λi p x hi hx hne=>?_⟩;obtain⟨⟨us,h4,h5⟩,h6,vs,h7,h8⟩:=h i p x hi hx hne;exact⟨⟨us,(hk p.1 (Ly hi hne (.inl rfl))).trans h4,h5.mono hz⟩,h6,vs,Ef h7 (λk hk'=>hk k (Ly hi hne (.inr hk'))),h8.mono hz⟩
structure Cx where
 w0:World
 Z0:Fz
 M:List Nat
 E:Fz→Prop
 G:List Nat
structure GR (c:Cx) (H:List Ent) (Z:Fz) (w:World):Prop where
 own:∀e∈H,∀k∈e.gk,c.w0.heap.size≤k∨k∈c.G
 sz:∀e∈H,∀k∈e.gk,k<w.heap.size
 dis:H.Pairwise (λe e'=>∀k∈e.gk,k ∉ e'.gk)
 new:∀k i b,Z.nm k i=some b→c.Z0.nm k i=some b∨c.w0.heap.size≤k∨k∈c.G
 cap:∀e∈H,∀k∈e.gk,∀i,e.gn≤i→Z.nm k i=none
structure St (c:Cx) (H:List Ent) (Z:Fz) (w:World):Prop where
 os:w.os=c.w0.os
 tape:w.tape=c.w0.tape
 output:w.output=c.w0.output
 size:c.w0.heap.size≤w.heap.size
 old:∀k,k<c.w0.heap.size→k ∉ c.M→w.heap[k]? =c.w0.heap[k]?
 has:∀e∈H,e.holds Z w
 own:∀e∈H,∀k∈e.foot,c.w0.heap.size≤k∨k∈c.M
 dis:H.Pairwise (λe e'=>∀k∈e.foot,k ∉ e'.foot)
 frz:LD Z w
 le:Fz.le c.Z0 Z
 new:∀b o,Z b=some o→c.Z0 b=some o∨c.w0.heap.size≤b∨b∈c.M
 zdis:∀e∈H,∀k∈e.foot,Z k=none
 env:c.E Z
 emono:∀{Z Z':Fz},Fz.le Z Z'→c.E Z→c.E Z'
 gst:GR c H Z w
section
variable {c : Cx} {w w' : World} {Z Z' : Fz} {H H' Hr Hin Hout : List Ent}
theorem GR.sub (h:GR c H Z w)(hs:H'.Sublist H):GR c H' Z w:=⟨λe he=>h.own e (hs.subset he),λe he=>h.sz e (hs.subset he),h.dis.sublist hs,h.new,λe he=>h.cap e (hs.subset he)⟩
theorem GR.perm (h:GR c H Z w)(hp:H.Perm H'):GR c H' Z w:=⟨λe he=>h.own e (hp.mem_iff.2 he),λe he=>h.sz e (hp.mem_iff.2 he),(hp.pairwise_iff (λhxy k hk hk'=>hxy k hk' hk)).1 h.dis,h.new,λe he=>h.cap e (hp.mem_iff.2 he)⟩
theorem GR.grow (h:GR c H Z w)(hw:w.heap.size≤w'.heap.size):GR c H Z w':=⟨h.own,λe he k hk=>Nat.lt_of_lt_of_le (h.sz e he k hk) hw,h.dis,h.new,h.cap⟩
theorem GR.names {Z Z':Fz}(h:GR c H Z w)(hn:Z'.nm=Z.nm):GR c H Z' w:=⟨h.own,h.sz,h.dis,λk i b e=>h.new k i b (by rw[← hn];exact e),λe he k hk i hi=>by rw[hn];exact h.cap e he k hk i hi⟩
theorem GR.none {M G:List Nat}{E:Fz→Prop}(hg:H.flatMap Ent.gk=[]):GR ⟨w,Z,M,E,G⟩ H Z w':=by
 have h0:∀e∈H,∀k,k ∉ e.gk:=λe he k hk=>by
  have:k∈H.flatMap Ent.gk:=List.mem_flatMap.2 ⟨e,he,hk⟩;rw[hg] at this;cases this
 exact⟨λe he k hk=>absurd hk (h0 e he k),λe he k hk=>absurd hk (h0 e he k),List.Pairwise.imp_of_mem (R:=λ_ _=>True) (fun {a b} ha _ _ k hk=>absurd hk (h0 a ha k)) (List.pairwise_iff_getElem.2 λ_ _ _ _ _=>trivial),λ_ _ _ e=>.inl e,λe he k hk=>absurd hk (h0 e he k)⟩
theorem GR.enter (h:GR c (Hin++Hr) Z w){E:Fz→Prop}{M:List Nat}:GR ⟨w,Z,M,E,Hin.flatMap Ent.gk⟩ Hin Z w:=
 ⟨λe he k hk=>.inr (List.mem_flatMap.2 ⟨e,he,hk⟩),λe he=>h.sz e (List.mem_append_left _ he),(List.pairwise_append.1 h.dis).1,λ_ _ _ e=>.inl e,λe he=>h.cap e (List.mem_append_left _ he)⟩
theorem GR.call (h:GR c (Hin++Hr) Z w){E:Fz→Prop}{M:List Nat}(hsz:c.w0.heap.size≤w.heap.size)(hsz':w.heap.size≤w'.heap.size)(h':GR ⟨w,Z,M,E,Hin.flatMap Ent.gk⟩ Hout Z' w'):GR c (Hout++Hr) Z' w':=by
 have hd:=List.pairwise_append.1 h.dis;have hG:∀k∈Hin.flatMap Ent.gk,∃e∈Hin,k∈e.gk:=λk hk=>List.mem_flatMap.1 hk;have hr:∀e∈Hr,∀k∈e.gk,k<w.heap.size∧k ∉ Hin.flatMap Ent.gk:=λe he k hk=>by
  refine⟨h.sz e (List.mem_append_right _ he) k hk,λhkG=>?_⟩;obtain⟨e',he',hke'⟩:=hG k hkG;exact hd.2.2 e' he' e he k hke' hk
 refine⟨λe he k hk=>?_,λe he k hk=>?_,?_,λk i b hb=>?_,λe he k hk i hi=>?_⟩
 ·rcases List.mem_append.1 he with he | he
  ·rcases h'.own e he k hk with h1 | h1
   ·exact .inl (Nat.le_trans hsz h1)
   ·obtain⟨e',he',hke'⟩:=hG k h1;exact h.own e' (List.mem_append_left _ he') k hke'
  ·exact h.own e (List.mem_append_right _ he) k hk
 ·rcases List.mem_append.1 he with he | he
  ·exact h'.sz e he k hk
  ·exact Nat.lt_of_lt_of_le (hr e he k hk).1 hsz'
 ·refine List.pairwise_append.2 ⟨h'.dis,hd.2.1,λe he e' he' k hk hk'=>?_⟩;have h2:=hr e' he' k hk';rcases h'.own e he k hk with h1 | h1
  ·simp only at h1;omega
  ·exact h2.2 h1
 ·rcases h'.new k i b hb with h1 | h1 | h1
  ·exact h.new k i b h1
  ·exact .inr (.inl (Nat.le_trans hsz h1))
  ·obtain⟨e',he',hke'⟩:=hG k h1;exact .inr (h.own e' (List.mem_append_left _ he') k hke')
 ·rcases List.mem_append.1 he with he | he
  ·exact h'.cap e he k hk i hi
  ·have h2:=hr e he k hk
   cases hz:Z'.nm k i with
   | none=>rfl
   | some b=>
    rcases h'.new k i b hz with h1 | h1 | h1
    ·have:=h.cap e (List.mem_append_right _ he) k hk i hi;simp only at h1;rw[this] at h1;cases h1
    ·simp only at h1;omega
    ·exact absurd h1 h2.2
theorem LD.lt (h:LD Z w){b:Nat}{o:Obj}(e:Z b=some o):b<w.heap.size:=(Array.getElem?_eq_some_iff.1 (h b o e)).1
theorem St.enter (h:St c (Hin++Hr) Z w):St ⟨w,Z,Hin.flatMap Ent.foot,c.E,Hin.flatMap Ent.gk⟩ Hin Z w:=
 ⟨rfl,rfl,rfl,PW _,λ_ _ _=>rfl,λe he=>h.has e (List.mem_append_left _ he),λe he k hk=>.inr (List.mem_flatMap.2 ⟨e,he,hk⟩),(List.pairwise_append.1 h.dis).1,
  h.frz,Fz.le.refl _,λ_ _ e=>.inl e,λe he=>h.zdis e (List.mem_append_left _ he),h.env,h.emono,h.gst.enter⟩
theorem St.sub (h:St c H Z w)(hs:H'.Sublist H):St c H' Z w:=
 { h with has:=λe he=>h.has e (hs.subset he),own:=λe he=>h.own e (hs.subset he),dis:=h.dis.sublist hs,zdis:=λe he=>h.zdis e (hs.subset he),gst:=h.gst.sub hs }
theorem St.perm (h:St c H Z w)(hp:H.Perm H'):St c H' Z w:=
 { h with has:=λe he=>h.has e (hp.mem_iff.2 he),own:=λe he=>h.own e (hp.mem_iff.2 he),dis:=(hp.pairwise_iff (λhxy k hk hk'=>hxy k hk' hk)).1 h.dis,zdis:=λe he=>h.zdis e (hp.mem_iff.2 he),gst:=h.gst.perm hp }
theorem Af:∀{H:List Ent} {i:Nat} {e:Ent},H[i]? =some e→H.Perm (e::H.eraseIdx i)
 | x::r,0,e,h=>by simp at h;subst h;simp
 | x::r,i+1,e,h=>by
  simp at h;exact((Af h).cons x).trans (List.Perm.swap e x _)
theorem St.front (h:St c H Z w){i:Nat}{e:Ent}(hi:H[i]? =some e):St c (e::H.eraseIdx i) Z w:=h.perm (Af hi)
theorem St.ent (h:St c H Z w){i:Nat}{en:Ent}(hi:H[i]? =some en):en.holds Z w:=h.has en (PU hi)
theorem St.drawn (h:St c H Z w)(k:Nat):St c H Z { w with drawn:=k }:=
 { h with has:=λe he=>Ent.keep (h.has e he) (Fz.le.refl _) λ_ _=>rfl,frz:=⟨h.frz.f,h.frz.nm⟩,gst:=h.gst.grow (PW _) }
theorem St.mem_lt (h:St c H Z w){e:Ent}(he:e∈H){k:Nat}(hk:k∈e.foot):k<w.heap.size:=Ent.lt (h.has e he) hk
theorem St.call (h:St c (Hin++Hr) Z w){E:Fz→Prop}(h':St ⟨w,Z,Hin.flatMap Ent.foot,E,Hin.flatMap Ent.gk⟩ Hout Z' w'):St c (Hout++Hr) Z' w':=by
 have hd:=List.pairwise_append.1 h.dis;have hM:∀k∈Hin.flatMap Ent.foot,∃e∈Hin,k∈e.foot:=λk hk=>List.mem_flatMap.1 hk;have hM2:∀k,k<c.w0.heap.size→k ∉ c.M→k ∉ Hin.flatMap Ent.foot:=λk hk hkM hkM2=>by
  obtain⟨e,he,hke⟩:=hM k hkM2;rcases h.own e (List.mem_append_left _ he) k hke with h1 | h1
  ·omega
  ·exact hkM h1
 have hr:∀e∈Hr,∀k∈e.foot,k<w.heap.size∧k ∉ Hin.flatMap Ent.foot:=λe he k hk=>by
  refine⟨h.mem_lt (List.mem_append_right _ he) hk,λhkM2=>?_⟩;obtain⟨e',he',hke'⟩:=hM k hkM2;exact hd.2.2 e' he' e he k hke' hk
 refine⟨h'.os.trans h.os,h'.tape.trans h.tape,h'.output.trans h.output,Nat.le_trans h.size h'.size,λk hk hkM=>?_,λe he=>?_,λe he k hk=>?_,?_,h'.frz,h.le.trans h'.le,λb o hb=>?_,λe he k hk=>?_,h.emono h'.le h.env,h.emono,h.gst.call h.size h'.size h'.gst⟩
 ·exact(h'.old k (Nat.lt_of_lt_of_le hk h.size) (hM2 k hk hkM)).trans (h.old k hk hkM)
 ·rcases List.mem_append.1 he with he | he
  ·exact h'.has e he
  ·exact Ent.keep (h.has e (List.mem_append_right _ he)) h'.le λk hk=>h'.old k (hr e he k hk).1 (hr e he k hk).2
 ·rcases List.mem_append.1 he with he | he
  ·rcases h'.own e he k hk with h1 | h1
   ·exact .inl (Nat.le_trans h.size h1)
   ·obtain⟨e',he',hke'⟩:=hM k h1;exact h.own e' (List.mem_append_left _ he') k hke'
  ·exact h.own e (List.mem_append_right _ he) k hk
 ·refine List.pairwise_append.2 ⟨h'.dis,hd.2.1,λe he e' he' k hk hk'=>?_⟩;rcases h'.own e he k hk with h1 | h1
  ·have h2:=(hr e' he' k hk').1;simp only at h1;omega
  ·exact(hr e' he' k hk').2 h1
 ·rcases h'.new b o hb with h1 | h1 | h1
  ·exact h.new b o h1
  ·exact .inr (.inl (Nat.le_trans h.size h1))
  ·obtain⟨e',he',hke'⟩:=hM b h1;exact .inr (h.own e' (List.mem_append_left _ he') b hke')
 ·rcases List.mem_append.1 he with he | he
  ·exact h'.zdis e he k hk
  ·have h2:=hr e he k hk
   cases hz:Z' k with
   | none=>rfl
   | some o=>
    rcases h'.new k o hz with h1 | h1 | h1
    ·have:=h.zdis e (List.mem_append_right _ he) k hk;simp only at h1;rw[this] at h1;cases h1
    ·simp only at h1;omega
    ·exact absurd h1 h2.2
theorem St.call0 (h:St c H Z w){E:Fz→Prop}(h':St ⟨w,Z,[],E,[]⟩ Hout Z' w'):St c (Hout++H) Z' w':=St.call (Hin:=[]) (by simpa using h) h'
theorem St.callF {e:Ent}(h:St c H Z w){i:Nat}(hi:H[i]? =some e){E:Fz→Prop}(h':St ⟨w,Z,e.foot,E,e.gk⟩ Hout Z' w'):St c (Hout++H.eraseIdx i) Z' w':=
 St.call (Hin:=[e]) (Hr:=H.eraseIdx i) (h.front hi) (by simpa using h')
theorem St.oneG {M G:List Nat}{E:Fz→Prop}{e':Ent}(hz:LD Z w)(he0:E Z)(hm:∀{Z Z':Fz},Fz.le Z Z'→E Z→E Z')(os:w'.os=w.os)(tape:w'.tape=w.tape)(output:w'.output=w.output)(size:w.heap.size≤w'.heap.size)
  (hb:∀k,k<w.heap.size→k ∉ M→w'.heap[k]? =w.heap[k]?) (hM:∀k∈M,Z k=none) (he:e'.holds Z w') (hf:∀k∈e'.foot,k∈M∨w.heap.size≤k) (hg:GR ⟨w,Z,M,E,G⟩ [e'] Z w'):St ⟨w,Z,M,E,G⟩ [e'] Z w':=by
 refine⟨os,tape,output,size,hb,by simpa using he,by simpa using λk hk=>(hf k hk).symm,by simp,⟨λb o hbo=>?_,λk i b hb=>Nat.lt_of_lt_of_le (hz.nm k i b hb) size⟩,Fz.le.refl _,λ_ _ e=>.inl e,?_,he0,hm,hg⟩
 ·rw[hb b (hz.lt hbo) (λh=>by rw[hM b h] at hbo;cases hbo)];exact hz b o hbo
 ·simp only[PV,forall_eq];intro k hk;rcases hf k hk with h | h
  ·exact hM k h
  ·cases hz':Z k with
   | none=>rfl
   | some o=>have:=hz.lt hz';omega
theorem St.one {M G:List Nat}{E:Fz→Prop}{e':Ent}(hz:LD Z w)(he0:E Z)(hm:∀{Z Z':Fz},Fz.le Z Z'→E Z→E Z')(os:w'.os=w.os)(tape:w'.tape=w.tape)(output:w'.output=w.output)(size:w.heap.size≤w'.heap.size)
  (hb:∀k,k<w.heap.size→k ∉ M→w'.heap[k]? =w.heap[k]?) (hM:∀k∈M,Z k=none) (he:e'.holds Z w') (hf:∀k∈e'.foot,k∈M∨w.heap.size≤k) (hg:e'.gk=[]:=by rfl):St ⟨w,Z,M,E,G⟩ [e'] Z w':=St.oneG hz he0 hm os tape output size hb hM he hf (GR.none (by simp[hg]))
theorem St.set (h:St c H Z w){i:Nat}{e e':Ent}(hi:H[i]? =some e)(os:w'.os=w.os)(tape:w'.tape=w.tape)(output:w'.output=w.output)(size:w.heap.size≤w'.heap.size)
  (hb:∀k,k<w.heap.size→k ∉ e.foot→w'.heap[k]? =w.heap[k]?) (he:e'.holds Z w') (hf:∀k∈e'.foot,k∈e.foot∨w.heap.size≤k) (hg:e'.gk=[]:=by rfl):St c (H.set i e') Z w':=by
 have hmem:=PU hi;have h3:=h.callF hi (St.one (e':=e') h.frz h.env h.emono os tape output size hb (h.zdis e hmem) he hf hg);have hil:i<H.length:=(List.getElem?_eq_some_iff.1 hi).1;have hq:(H.set i e')[i]? =some e':=by simp[hil]
 have:=Af hq;rw[List.eraseIdx_set_eq] at this;exact h3.perm this.symm
theorem St.setp (h:St c H Z w){i:Nat}{e e':Ent}(hi:H[i]? =some e)(os:w'.os=w.os)(tape:w'.tape=w.tape)(output:w'.output=w.output)(size:w.heap.size≤w'.heap.size)
  (hb:∀k,k<w.heap.size→k ∉ e.foot→w'.heap[k]? =w.heap[k]?) (he:e'.holds Z w') (hf:∀k∈e'.foot,k∈e.foot∨w.heap.size≤k) (hg:e'.gk=e.gk) (hn:e'.gn=e.gn):St c (H.set i e') Z w':=by
 have hmem:=PU hi;have hq:GR ⟨w,Z,e.foot,c.E,e.gk⟩ [e'] Z w':=by
  refine⟨?_,?_,List.pairwise_singleton ..,λ_ _ _ e=>.inl e,?_⟩
  ·intro a ha k hk;simp only[PV] at ha;subst ha;rw[hg] at hk;exact .inr hk
  ·intro a ha k hk;simp only[PV] at ha;subst ha;rw[hg] at hk;exact Nat.lt_of_lt_of_le (h.gst.sz e hmem k hk) size
  ·intro a ha k hk j hj;simp only[PV] at ha;subst ha;rw[hg] at hk;rw[hn] at hj;exact h.gst.cap e hmem k hk j hj
 have h3:=h.callF hi (St.oneG (e':=e') h.frz h.env h.emono os tape output size hb (h.zdis e hmem) he hf hq);have hil:i<H.length:=(List.getElem?_eq_some_iff.1 hi).1;have hq:(H.set i e')[i]? =some e':=by simp[hil]
 have:=Af hq;rw[List.eraseIdx_set_eq] at this;exact h3.perm this.symm
theorem St.add (h:St c H Z w){e':Ent}(os:w'.os=w.os)(tape:w'.tape=w.tape)(output:w'.output=w.output)(size:w.heap.size≤w'.heap.size)
  (hb:∀k,k<w.heap.size→w'.heap[k]? =w.heap[k]?) (he:e'.holds Z w') (hf:∀k∈e'.foot,w.heap.size≤k) (hg:e'.gk=[]:=by rfl):St c (e'::H) Z w':=
 h.call0 (St.one (e':=e') (M:=[]) h.frz h.env h.emono os tape output size (λk hk _=>hb k hk) (by simp) he (λk hk=>.inr (hf k hk)) hg)
theorem St.alloc (h:St c H Z w)(o:Obj){e:Ent}(he:e.holds Z (w.alloc o))(hf:e.foot=[w.heap.size])(hg:e.gk=[]:=by rfl):St c (e::H) Z (w.alloc o):=
 h.add rfl rfl rfl (by simp) (λk hk=>Below.heap_alloc w o k hk) he (by simp[hf]) hg
theorem GO {α:Type}{sz:Nat}:∀{vs:List (List α)} (hs:∀c∈vs,c.length=sz) {i:Nat} {c:List α} (hi:vs[i]? =some c) {j:Nat} {u:α} (hj:c[j]? =some u),vs.flatten[i*sz+j]? =some u
 | [],hs,i,c,hi,j,u,hj=>by simp at hi
 | x::r,hs,0,c,hi,j,u,hj=>by
  simp at hi;subst hi;simp only[List.flatten_cons,Nat.zero_mul,Qh];rw[Qc (by have:=(List.getElem?_eq_some_iff.1 hj).1;exact this)];exact hj
 | x::r,hs,i+1,c,hi,j,u,hj=>by
  have hx:x.length=sz:=hs x (by simp);simp only[List.flatten_cons];rw[List.getElem?_append_right (by rw[hx,Nat.succ_mul];omega)];have e:(i+1)*sz+j-x.length=i*sz+j:=by rw[hx,Nat.succ_mul];omega
  rw[e];exact GO (vs:=r) (λc hc=>hs c (by simp[hc])) (by simpa using hi) hj
theorem DX {α:Type}{sz:Nat}:∀{vs:List (List α)} (hs:∀c∈vs,c.length=sz),vs.flatten.length=vs.length*sz
 | [],_=>by simp
 | x::r,hs=>by
  have:=DX (vs:=r) (λc hc=>hs c (by simp[hc]));have hx:=hs x (by simp);simp only[List.flatten_cons,List.length_append,Qg] at this ⊢;rw[this,hx,Nat.succ_mul];omega
theorem St.freeze (h:St c H Z w){i:Nat}{v:Value}{e:TypeId}{sz:Nat}{xs:List (List Rp)}(hi:H[i]? =some (.row v e sz xs)):∃Z',Fz.le Z Z'∧St c (H.eraseIdx i) Z' w∧LC sz xs Z' v:=by
 obtain⟨h0,us,⟨h1,h2⟩,h3⟩:=h.ent hi;have hlen:=h3.length;rcases h2 with⟨rfl,hn⟩ | ⟨g,cap,cur,rfl,_,hg,hc,hm,hsz,htk⟩
 ·have:xs=[]:=Qb hn;subst this;exact⟨Z,Fz.le.refl _,h.sub (List.eraseIdx_sublist _ _),LC.nil _ _⟩
 ·have hmem:=PU hi;have hgz:Z g=none:=h.zdis _ hmem g (by simp[Ent.foot,Value.ownBlock])
  let Z':Fz:=⟨λb=>if b=g then some (.cells cur e (0,0)) else Z b,Z.nm⟩
  have hle:Fz.le Z Z':=⟨λb o hb=>by
   have:b≠g:=λe=>by subst e;rw[hgz] at hb;cases hb
   simpa[Z',this] using hb,λ_ _ _ h=>h⟩
  have hfr:=h.front hi;have hd:=List.pairwise_cons.1 hfr.dis;refine⟨Z',hle,?_,?_⟩
  ·have hs:=hfr.sub (List.sublist_cons_self _ _);refine { hs with has:=λen he=>Ent.keep (hs.has en he) hle λ_ _=>rfl,frz:=⟨λb o hb=>?_,h.frz.nm⟩,gst:=hs.gst.names rfl,le:=hs.le.trans hle,new:=λb o hb=>?_,zdis:=λen he k hk=>?_,env:=hs.emono hle hs.env }
   ·by_cases hbg:b=g
    ·subst hbg;simp[Z'] at hb;rw[← hb];exact hg
    ·simp[Z',hbg] at hb;exact h.frz b o hb
   ·by_cases hbg:b=g
    ·subst hbg;exact .inr (h.own _ hmem b (by simp[Ent.foot,Value.ownBlock]))
    ·simp[Z',hbg] at hb;exact h.new b o hb
   ·have hkg:k≠g:=λe=>hd.1 en he g (by simp[Ent.foot,Value.ownBlock]) (e▸hk);simp only[Z',hkg,if_false];exact hs.zdis en he k hk
  ·refine⟨some ⟨g,0,none⟩,cap,rfl,hc,hm,(λh=>by cases h),λj cl hj=>⟨h0 cl (PU hj),⟨g,0,none⟩,rfl,rfl,λq r hq=>?_⟩⟩;have hfl:xs.flatten[j*sz+q]? =some r:=GO h0 hj hq;obtain⟨u,hu,hp⟩:=h3.at hfl;refine⟨u,?_,r.mono hle hp⟩;rw[← htk,Qp] at hu
   split at hu
   ·simpa[Em,Z'] using hu
   ·cases hu
end
end Go.Proofs.YtfbmdidnlhifjaaGreatDoor.Q
namespace Go.Proofs.YtfbmdidnlhifjaaGreatDoor
open Go Go.RowKit
set_option linter.unusedVariables false
theorem Gr (b o j:Nat):(⟨b,o,none⟩:Addr).add j=⟨b,o+j,none⟩:=by unfold Addr.add;split<;>simp_all
section
variable {P : Program} {n : Nat} {w0 : World} {M : List Nat} {ops : Array Oper} {Q : Exit → Act → World → Prop} {rest : List Oper} {l : Fr} {H H' : List Ent} {d : Nat} {x y c : Operand} {ty t t' e : TypeId} {pos : String} {af : Array Edge} {g : Option (Nat × Bool)} {v u : Value}
theorem St.ent {w:World}(h:St w0 M H w){i:Nat}{en:Ent}(hi:H[i]? =some en):en.holds w:=h.has en (PU hi)
theorem Bl {z:Value}{cs:Array Value}(hz:∀w,(zeroValue e).run P w = .ok z w)(hcs:z.cells=cs)(hn:Nat.blt d n=true)
  (h:∀b,WL P n w0 M ops Q rest ((d,.pointer (some ⟨b,0,none⟩))::l) (.blk b (.cells cs e (0,0))::H)) :
  WL P n w0 M ops Q ({ dst:=some d,op:=.alloc e,type:=ty,pos:=pos,after:=af,guard:=none }::rest) l H:=
 GV (λa w ha hw=>⟨_,w.alloc (.cells cs e),_,by subst hcs;simp[execOp,Instr.alloc,hz,newVar,newRow,newObj,Sem.run,Sem.run_bind],hw.alloc _,h w.heap.size⟩) hn
theorem Kx {w:World}{i b off:Nat}{cs:Array Value}{fz:Nat×Nat}(hw:St w0 M H w)(hi:H[i]? =some (.blk b (.cells cs e fz))):w.cell? ⟨b,off,none⟩=cs[off]?:=
 cell_of_row w b off cs e fz (hw.ent hi)
theorem Bq {i b off:Nat}{cs:Array Value}{fz:Nat×Nat}{dd:Option Nat}(hag:∀w,(isAgg t).run P w = .ok false w)(hx:ev l x=some (.pointer (some ⟨b,off,none⟩)))
  (hi:H[i]? =some (.blk b (.cells cs e fz))) (hc:cs[off]? =some v):Bd P n w0 M l H { dst:=dd,op:=.load t x,type:=ty,pos:=pos,after:=af,guard:=g } v:=λa w ha hw=>by
 simp[execOp,ha.eval hx,Instr.loadAt,Instr.sureAddr,loadVar,hag,Kx hw hi,hc]
theorem Ba {i b off sz:Nat}{cs:Array Value}{fz:Nat×Nat}{dd:Option Nat}{r:List Value}(hag:∀w,(isAgg t).run P w = .ok true w)(hsz:∀w,(sizeOf t).run P w = .ok sz w)
  (hx:ev l x=some (.pointer (some ⟨b,off,none⟩))) (hi:H[i]? =some (.blk b (.cells cs e fz))) (hr:(cs.toList.drop off).take sz=r) (hl:r.length=sz) :
  Bd P n w0 M l H { dst:=dd,op:=.load t x,type:=ty,pos:=pos,after:=af,guard:=g } (.agg r.toArray):=λa w ha hw=>by
 have h1:=run_loadCells_list (P:=P) w ⟨b,off,none⟩ r (λj u hj=>by
  rw[Gr,Kx hw hi];subst hr;rw[Qp] at hj
  split at hj
  ·simpa using hj
  ·cases hj)
 rw[hl] at h1;simp[execOp,ha.eval hx,Instr.loadAt,Instr.sureAddr,loadVar,hag,hsz,h1]
theorem St.setBlk {w:World}(h:St w0 M H w){i b:Nat}{cs cs':Array Value}(hi:H[i]? =some (.blk b (.cells cs e (0,0)))):St w0 M (H.set i (.blk b (.cells cs' e (0,0)))) (w.setRow b cs'):=by
 have hb:w.heap[b]? =some (.cells cs e (0,0)):=h.ent hi;refine h.set hi rfl rfl rfl (by simp[World.setRow]) (λk _ hk=>?_) ?_ (by simp[Ent.foot])
 ·simp only[Ent.foot,PV] at hk;simp only[World.setRow,Array.getElem?_modify];rw[Qm (λe=>hk e.symm)]
 ·exact setRow_heap w b cs cs' e (0,0) hb
theorem B8 {i b off:Nat}{cs cs':Array Value}(hag:∀w,(sizeOf t).run P w = .ok 1 w)(hx:ev l x=some (.pointer (some ⟨b,off,none⟩)))(hy:ev l y=some v)(hv:v.oneCell'=true)
  (hi:H[i]? =some (.blk b (.cells cs e (0,0)))) (hlt:Nat.blt off cs.size=true) (hcs:cs.setIfInBounds off v=cs') (hH:H.set i (.blk b (.cells cs' e (0,0)))=H')
  (h:WL P n w0 M ops Q rest l H'):WL P n w0 M ops Q ({ dst:=none,op:=.store t x y,type:=ty,pos:=pos,after:=af,guard:=none }::rest) l H:=
 Iv λa w ha hw=>by
  have hb:w.heap[b]? =some (.cells cs e (0,0)):=hw.ent hi;have hlt':off<cs.size:=by simpa using hlt
  have h1:=run_storeCells_at P b off e [v] 0 cs w hb (by simp;omega) (by simpa using hv);have hcv:v.cells = #[v]:=by cases v<;>first | rfl | simp[Value.oneCell'] at hv
  have h2:(cs.toList.take off++[v]++cs.toList.drop (off+1)).toArray=cs':=by
   subst hcs;apply Array.ext';simp[Array.toList_setIfInBounds,List.set_eq_take_append_cons_drop,hlt']
  simp only[Nat.add_zero,Qg,List.length_nil,Qh] at h1;rw[h2] at h1;refine⟨w.setRow b cs',H',?_,?_,h⟩
  ·simp[execOp,ha.eval hx,ha.eval hy,Instr.storeAt,Instr.sureAddr,storeVar,hag,hcv,h1]
  ·subst hH;exact hw.setBlk hi
theorem A6 {i b off sz:Nat}{cs:Array Value}{r r':List Value}(hsz:∀w,(sizeOf t).run P w = .ok sz w)(hx:ev l x=some (.pointer (some ⟨b,off,none⟩)))(hy:ev l y=some (.agg r.toArray))
  (hl:r.length=sz) (hv:r.all (·.oneCell')=true) (hi:H[i]? =some (.blk b (.cells cs e (0,0)))) (hlt:off+sz≤cs.size)
  (hcs:cs.toList.take off++r++cs.toList.drop (off+sz)=r') (hH:H.set i (.blk b (.cells r'.toArray e (0,0)))=H')
  (h:WL P n w0 M ops Q rest l H'):WL P n w0 M ops Q ({ dst:=none,op:=.store t x y,type:=ty,pos:=pos,after:=af,guard:=none }::rest) l H:=
 Iv λa w ha hw=>by
  have hb:w.heap[b]? =some (.cells cs e (0,0)):=hw.ent hi;have h1:=run_storeCells_at P b off e r 0 cs w hb (by omega) (by simpa[Qj] using hv);simp only[Nat.add_zero,hl,hcs] at h1;refine⟨w.setRow b r'.toArray,H',?_,?_,h⟩
  ·simp[execOp,ha.eval hx,ha.eval hy,Instr.storeAt,Instr.sureAddr,storeVar,hsz,Value.cells,hl,h1]
  ·subst hH;exact hw.setBlk hi
theorem AO {p:Addr}{dd:Option Nat}(hx:ev l x=some (.pointer (some p))):Bd P n w0 M l H { dst:=dd,op:=.nilCheck x,type:=ty,pos:=pos,after:=af,guard:=g } (.pointer (some p)):=λa w ha hw=>by
 simp[execOp,ha.eval hx]
theorem AL {b off off' i sz:Nat}{fs:Array Field}{f:Field}{dd:Option Nat}(hu:P.underlying t=some (.struct fs))(hf:fs[i]? =some f)(hsz:∀w,(sizeOf f.type).run P w = .ok (sz+1) w)
  (hx:ev l x=some (.pointer (some ⟨b,off,none⟩))) (ho:off+f.offset=off'):Bd P n w0 M l H { dst:=dd,op:=.fieldAddr t x i,type:=ty,pos:=pos,after:=af,guard:=g } (.pointer (some ⟨b,off',none⟩)):=λa w ha hw=>by
 subst ho;simp[execOp,ha.eval hx,Instr.fieldAt,run_underlying hu,hf,Instr.sureAddr,fieldPlace,hsz,Gr]
end
def H0:Nat→List Value→Fr
 | _,[]=>[]
 | i,v::r=>(i,v)::H0 (i+1) r
theorem DA:∀(args:List Value) (k i:Nat) (v:Value),look (H0 k args) i=some v→k≤i∧args[i-k]? =some v
 | [],k,i,v,h=>by simp[H0,look] at h
 | u::r,k,i,v,h=>by
  rw[H0,Bo] at h
  split at h
  ·rename_i e;subst e;simp at h;subst h;simp
  ·rename_i e
   have:=DA r (k+1) i v h;refine⟨by omega,?_⟩;rw[show i-k=(i-(k+1))+1 from by omega];simpa using this.2
section
variable {P : Program} {n : Nat} {w0 w : World} {M : List Nat} {ops : Array Oper} {Q : Exit → Act → World → Prop} {rest : List Oper} {l l' : Fr} {H H' : List Ent} {d : Nat} {ty t : TypeId} {pos : String} {af : Array Edge} {v u : Value}
theorem OL {f:FuncId}{fn:Func}{c:Code}{args:List Value}{R:Ending→World→Prop}(hf:P.funcs[f]? =some fn)(hb:fn.body=some c)(hn:fn.ntmps=n)(hle:Nat.ble args.length n=true)
  (hw:St w0 M H w) (h:WC P n w0 M c (bodyPost P fn R) (H0 0 args) H):Calls P f args.toArray w R:=by
 have hle':args.length≤n:=by simpa using hle
 refine calls_of_wp hf hb (h _ w ⟨?_,rfl,λi v hi=>?_⟩ hw)
 ·simp[hn];omega
 ·have:=(DA args 0 i v hi).2;simp only[Nat.sub_zero] at this;have hlt:i<args.length:=(List.getElem?_eq_some_iff.1 this).1;rw[Array.getElem?_append_left (by simpa using hlt)];simpa using this
theorem Ik {f:FuncId}{fn:Func}{c:Code}{args:List Value}{R:Ending→World→Prop}(hf:P.funcs[f]? =some fn)(hb:fn.body=some c)(hn:fn.ntmps=n)(hle:Nat.ble args.length n=true)
  (h:WC P n w [] c (bodyPost P fn R) (H0 0 args) []):Calls P f args.toArray w R:=OL hf hb hn hle (St.refl w []) h
theorem Az {fn:Func}{R:Ending→World→Prop}(hr:∀a w,BO n l a→St w0 M H w→(results fn a.tmps).run P w = .ok v w)(h:∀w,St w0 M H w→R (.returned v) w):WK n w0 M (bodyPost P fn R .ret) l H:=
 λa w ha hw=>⟨ha.defers,v,hr a w ha hw,h w hw⟩
theorem DU {a:Act}(ha:BO n l a){i:Nat}(h:look l i=some v):a.tmps[i]?.getD undef=v:=by
 rw[ha.tm i v h];rfl
theorem BJ {fn:Func}{i:Nat}(hr:fn.results = #[.tmp i])(h:look l i=some v):∀a w,BO n l a→St w0 M H w→(results fn a.tmps).run P w = .ok v w:=λa w ha hw=>by
 have e:=DU ha h;simp[results,hr,e]
theorem Hv {fn:Func}{i j:Nat}(hr:fn.results = #[.tmp i,.tmp j])(h:look l i=some v)(h2:look l j=some u):∀a w,BO n l a→St w0 M H w→(results fn a.tmps).run P w = .ok (.tuple #[v,u]) w:=λa w ha hw=>by
 have e:=DU ha h;have e2:=DU ha h2;simp[results,hr,e,e2]
theorem Mp {fn:Func}{i j k:Nat}{u':Value}(hr:fn.results = #[.tmp i,.tmp j,.tmp k])(h:look l i=some v)(h2:look l j=some u)(h3:look l k=some u'):∀a w,BO n l a→St w0 M H w→(results fn a.tmps).run P w = .ok (.tuple #[v,u,u']) w:=λa w ha hw=>by
 have e:=DU ha h;have e2:=DU ha h2;have e3:=DU ha h3;simp[results,hr,e,e2,e3]
theorem LN (e:v=u):∀w,St w0 [] H w→J8 w0 u (.returned v) w:=λw hw=>⟨by rw[e],hw.sub (List.nil_sublist _)⟩
theorem Ed {f:FuncId}{args:Array Operand}{ats:Array TypeId}{o:Oper}{a:Act}{vs:List Value}(ho:o.op = .call { callee:=.value (.func f),args:=args,argTypes:=ats })
  (hcall:∀(as1:Array Value) (w:World),(callFunc f as1).run P w = .ok (.enter f as1) w) (hv:(args.map a.eval)=vs.toArray) (w:World):(execOp a.eval o).run P w = .ok (.enter f vs.toArray) w:=by
 simp[execOp,ho,resolve,Act.eval,Deferred.ofValue,invoke,hv,hcall]
def IP (l:Fr):List Operand→Option (List Value)
 | []=>some []
 | x::r=>match ev l x,IP l r with
  | some v,some vs=>some (v::vs)
  | _,_=>none
theorem L2 {a:Act}(ha:BO n l a):∀{xs:List Operand} {vs:List Value},IP l xs=some vs→xs.map a.eval=vs
 | [],vs,h=>by simp[IP] at h;subst h;rfl
 | x::r,vs,h=>by
  simp only[IP] at h
  split at h
  ·rename_i v vs' h1 h2
   simp at h;subst h;simp[ha.eval h1,L2 ha h2]
  ·cases h
theorem Eb {f:FuncId}{args:List Operand}{ats:Array TypeId}{vs:List Value}(hcall:∀(as1:Array Value) (w:World),(callFunc f as1).run P w = .ok (.enter f as1) w)(hv:IP l args=some vs)
  (hc:∀w,St w0 M H w→Calls P f vs.toArray w (J8 w u)) (hn:Nat.blt d n=true) (h:WL P n w0 M ops Q rest ((d,u)::l) H) :
  WL P n w0 M ops Q ({ dst:=some d,op:=.call { callee:=.value (.func f),args:=args.toArray,argTypes:=ats },type:=ty,pos:=pos,after:=af,guard:=none }::rest) l H:=
 HC (λa w ha hw=>Ed rfl hcall (by simp[L2 ha hv]) w) (λw hw=>(hc w hw).mono λe w' ⟨he,hs⟩=>⟨u,H,he,by simpa using hw.call0 hs,h⟩) hn
end
end Go.Proofs.YtfbmdidnlhifjaaGreatDoor
namespace Go.Proofs.YtfbmdidnlhifjaaGreatDoor.Q
open Go Go.RowKit
set_option linter.unusedVariables false
section
variable (P : Program) (n : Nat) (c : Cx)
def WL (ops:Array Oper)(Q:Exit→Act→World→Prop)(rest:List Oper)(l:Fr)(H:List Ent):Prop:=∀a w Z,BO n l a Z→St c H Z w→wpList P ops Q rest a w
def WC (x:Code)(Q:Exit→Act→World→Prop)(l:Fr)(H:List Ent):Prop:=∀a w Z,BO n l a Z→St c H Z w→x.wp P Q a w
def WK (K:Act→World→Prop)(l:Fr)(H:List Ent):Prop:=∀a w Z,BO n l a Z→St c H Z w→K a w
def Et {S:Type}(inv:S→Prop)(fr:S→Fr)(hp:S→List Ent):Act→World→Prop:=λa w=>∃s Z,inv s∧BO n (fr s) a Z∧St c (hp s) Z w
def Bd (l:Fr)(H:List Ent)(o:Oper)(r:Rp):Prop:=∀a w Z,BO n l a Z→St c H Z w→∃v,r.p Z v∧(execOp a.eval o).run P w = .ok (.value v) w
end
def Pu (c:Cx)(Φ:Rp→List Ent→Prop):Ending→World→Prop:=λe w'=>∃r v H Z,e = .returned v∧Φ r H∧r.p Z v∧St c H Z w'
def Fn (P:Program)(E:Fz→Prop)(f:FuncId)(args:List Rp)(Hin:List Ent)(Φ:Rp→List Ent→Prop):Prop:=
 ∀w Z (vs:List Value),AM Z args vs→St ⟨w,Z,Hin.flatMap Ent.foot,E,Hin.flatMap Ent.gk⟩ Hin Z w→Calls P f vs.toArray w (Pu ⟨w,Z,Hin.flatMap Ent.foot,E,Hin.flatMap Ent.gk⟩ Φ)
abbrev J9 (P:Program)(E:Fz→Prop)(f:FuncId)(args:List Rp)(r:Rp):Prop:=Fn P E f args [] (λr' H=>r'=r∧H=[])
def Oi:List Rp→List Rp→Prop
 | [],[]=>True
 | a::as1,b::bs=>DE a b∧Oi as1 bs
 | _,_=>False
theorem Oi.all {Z:Fz}:∀{rs rs':List Rp} {vs:List Value},Oi rs rs'→AM Z rs vs→AM Z rs' vs
 | [],[],[],_,_=>trivial
 | a::as1,b::bs,v::vs,⟨h1,h2⟩,⟨h3,h4⟩=>⟨h1 Z v h3,h2.all h4⟩
theorem Fn.args {P:Program}{E:Fz→Prop}{f:FuncId}{rs rs':List Rp}{Hin:List Ent}{Φ:Rp→List Ent→Prop}(h:Fn P E f rs' Hin Φ)(hl:Oi rs rs'):Fn P E f rs Hin Φ:=λw Z vs hv hs=>h w Z vs (hl.all hv) hs
section
variable {P : Program} {n : Nat} {c : Cx} {ops : Array Oper} {Q : Exit → Act → World → Prop} {rest : List Oper} {l l' : Fr} {H H' : List Ent} {x y : Code} {K : Act → World → Prop}
theorem WC.sub (hl:AQ l' l)(hH:H'.Sublist H)(h:WC P n c x Q l' H'):WC P n c x Q l H:=λa w Z ha hw=>h a w Z (ha.sub hl) (hw.sub hH)
theorem WK.sub (hl:AQ l' l)(hH:H'.Sublist H)(h:WK n c K l' H'):WK n c K l H:=λa w Z ha hw=>h a w Z (ha.sub hl) (hw.sub hH)
theorem WL.sub (hl:AQ l' l)(hH:H'.Sublist H)(h:WL P n c ops Q rest l' H'):WL P n c ops Q rest l H:=λa w Z ha hw=>h a w Z (ha.sub hl) (hw.sub hH)
theorem WL.front {i:Nat}{e:Ent}(hi:H[i]? =some e)(h:WL P n c ops Q rest l (e::H.eraseIdx i)):WL P n c ops Q rest l H:=λa w Z ha hw=>h a w Z ha (hw.front hi)
theorem St.freezeF {Z:Fz}{w:World}(h:St c H Z w){i:Nat}{v:Value}{e:TypeId}{sz:Nat}{xs:List (List Rp)}(hi:H[i]? =some (.row v e sz xs)):∃Z',Fz.le Z Z'∧St c (.fact v (AH sz xs)::H.eraseIdx i) Z' w:=by
 obtain⟨Z',hz,hs,hr⟩:=h.freeze hi;exact⟨Z',hz,hs.add rfl rfl rfl (PW _) (λ_ _=>rfl) (e':=.fact v (AH sz xs)) hr (by simp[Ent.foot])⟩
theorem WK.freeze {i:Nat}{v:Value}{e:TypeId}{sz:Nat}{xs:List (List Rp)}(hi:H[i]? =some (.row v e sz xs))(h:WK n c K l (.fact v (AH sz xs)::H.eraseIdx i)):WK n c K l H:=λa w Z ha hw=>by
 obtain⟨Z',hz,hs⟩:=St.freezeF hw hi;exact h a w Z' (ha.mono hz) hs
theorem WC.freeze {i:Nat}{v:Value}{e:TypeId}{sz:Nat}{xs:List (List Rp)}(hi:H[i]? =some (.row v e sz xs))(h:WC P n c x Q l (.fact v (AH sz xs)::H.eraseIdx i)):WC P n c x Q l H:=λa w Z ha hw=>by
 obtain⟨Z',hz,hs⟩:=St.freezeF hw hi;exact h a w Z' (ha.mono hz) hs
theorem WL.freeze {i:Nat}{v:Value}{e:TypeId}{sz:Nat}{xs:List (List Rp)}(hi:H[i]? =some (.row v e sz xs))(h:WL P n c ops Q rest l (.fact v (AH sz xs)::H.eraseIdx i)):WL P n c ops Q rest l H:=λa w Z ha hw=>by
 obtain⟨Z',hz,hs⟩:=St.freezeF hw hi;exact h a w Z' (ha.mono hz) hs
def Up (H:List Ent)(q r:Rp):Prop:=∀(c:Cx) Z w v,St c H Z w→q.p Z v→r.p Z v
theorem Up.refl (r:Rp):Up H r r:=λ_ _ _ _ _ h=>h
theorem Up.le {q r:Rp}(h:DE q r):Up H q r:=λ_ Z _ v _ hp=>h Z v hp
theorem Up.fact {i:Nat}{v:Value}{r:Rp}(hi:H[i]? =some (.fact v r)):Up H (rv v) r:=λc Z w u hw hp=>by rw[show u=v from hp];exact hw.ent hi
def Es (H:List Ent):List Rp→List Rp→Prop
 | [],[]=>True
 | q::qs,r::rs=>Up H q r∧Es H qs rs
 | _,_=>False
theorem Es.refl:∀rs:List Rp,Es H rs rs
 | []=>trivial
 | r::rs=>⟨Up.refl r,Es.refl rs⟩
theorem Es.all {c:Cx}{Z:Fz}{w:World}(hw:St c H Z w):∀{qs rs:List Rp} {vs:List Value},Es H qs rs→AM Z qs vs→AM Z rs vs
 | [],[],[],_,_=>trivial
 | q::qs,r::rs,v::vs,⟨h1,h2⟩,⟨h3,h4⟩=>⟨h1 c Z w v hw h3,h2.all hw h4⟩
theorem Up.agg {qs rs:List Rp}(h:Es H qs rs):Up H (AT qs) (AT rs):=λc Z w v hw ⟨us,e,hu⟩=>⟨us,e,h.all hw hu⟩
theorem BO.up {a:Act}{Z:Fz}{w:World}(ha:BO n l a Z)(hw:St c H Z w){d:Nat}{q r:Rp}(hd:look l d=some q)(hr:Up H q r):BO n ((d,r)::l) a Z:=
 ⟨ha.size,ha.defers,λi s hi=>by
  rw[Bo] at hi
  split at hi
  ·rename_i e;subst e;simp at hi;subst hi
   obtain⟨u,hu,hp⟩:=ha.tm d _ hd;exact⟨u,hu,hr c Z w u hw hp⟩
  ·exact ha.tm i s hi⟩
theorem WK.up {d:Nat}{q r:Rp}(hd:look l d=some q)(hr:Up H q r)(h:WK n c K ((d,r)::l) H):WK n c K l H:=λa w Z ha hw=>h a w Z (ha.up hw hd hr) hw
theorem WC.up {d:Nat}{q r:Rp}(hd:look l d=some q)(hr:Up H q r)(h:WC P n c x Q ((d,r)::l) H):WC P n c x Q l H:=λa w Z ha hw=>h a w Z (ha.up hw hd hr) hw
theorem WL.up {d:Nat}{q r:Rp}(hd:look l d=some q)(hr:Up H q r)(h:WL P n c ops Q rest ((d,r)::l) H):WL P n c ops Q rest l H:=λa w Z ha hw=>h a w Z (ha.up hw hd hr) hw
theorem St.upBlk {Z:Fz}{w:World}(h:St c H Z w){i b:Nat}{cs cs':List Rp}{e:TypeId}(hi:H[i]? =some (.blk b cs e))(hu:Es H cs cs'):St c (H.set i (.blk b cs' e)) Z w:=
 h.set hi rfl rfl rfl (PW _) (λ_ _ _=>rfl) (by obtain⟨us,h1,h2⟩:=h.ent hi;exact⟨us,h1,hu.all h h2⟩) (by simp[Ent.foot])
theorem WK.upBlk {i b:Nat}{cs cs':List Rp}{e:TypeId}(hi:H[i]? =some (.blk b cs e))(hu:Es H cs cs')(h:WK n c K l (H.set i (.blk b cs' e))):WK n c K l H:=λa w Z ha hw=>h a w Z ha (hw.upBlk hi hu)
theorem WC.upBlk {i b:Nat}{cs cs':List Rp}{e:TypeId}(hi:H[i]? =some (.blk b cs e))(hu:Es H cs cs')(h:WC P n c x Q l (H.set i (.blk b cs' e))):WC P n c x Q l H:=λa w Z ha hw=>h a w Z ha (hw.upBlk hi hu)
theorem WL.upBlk {i b:Nat}{cs cs':List Rp}{e:TypeId}(hi:H[i]? =some (.blk b cs e))(hu:Es H cs cs')(h:WL P n c ops Q rest l (H.set i (.blk b cs' e))):WL P n c ops Q rest l H:=λa w Z ha hw=>h a w Z ha (hw.upBlk hi hu)
theorem Au (h:WC P n c x (Exit.then (λa w=>y.wp P Q a w) Q) l H):WC P n c (x.seq y) Q l H:=λa w Z ha hw=>wp_seq (h a w Z ha hw)
theorem C9 {S:Type}(inv:S→Prop)(fr:S→Fr)(hp:S→List Ent)(h:WC P n c x (Exit.then (Et n c inv fr hp) Q) l H)(h2:∀s,inv s→WC P n c y Q (fr s) (hp s)) :
  WC P n c (x.seq y) Q l H:=λa w Z ha hw=>wp_seq (wp_mono (h a w Z ha hw) λe a w q=>by
   cases e with
   | normal=>obtain⟨s,Z,hi,hs,ht⟩:=q;exact h2 s hi a w Z hs ht
   | _=>exact q)
theorem AR {S:Type}{inv:S→Prop}{fr:S→Fr}{hp:S→List Ent}(s:S)(hi:inv s)(hl:AQ (fr s) l)(hH:(hp s).Sublist H):WK n c (Et n c inv fr hp) l H:=
 λ_ _ Z ha hw=>⟨s,Z,hi,ha.sub hl,hw.sub hH⟩
theorem AE (h:WK n c K l H):WK n c (Exit.then K Q .normal) l H:=h
theorem AB {id:Nat}(h:WK n c (Q (.exit id)) l H):WK n c (Exit.then K Q (.exit id)) l H:=h
theorem Ai (h:WK n c (Q .ret) l H):WK n c (Exit.then K Q .ret) l H:=h
theorem AX {id:Nat}(h:WK n c (Q .normal) l H):WK n c (Exit.inBlock id Q .normal) l H:=h
theorem AI {id:Nat}(h:WK n c (Q .ret) l H):WK n c (Exit.inBlock id Q .ret) l H:=h
theorem BE (h:WC P n c y Q l H):WK n c (λa w=>y.wp P Q a w) l H:=h
theorem A7 (h:WK n c (Q .normal) l H):WC P n c .skip Q l H:=λa w Z ha hw=>wp_skip (h a w Z ha hw)
theorem B7 {id:Nat}(h:WK n c (Q (.exit id)) l H):WC P n c (.exit id) Q l H:=λa w Z ha hw=>wp_exit (h a w Z ha hw)
theorem A0 (h:WK n c (Q .ret) l H):WC P n c .ret Q l H:=λa w Z ha hw=>wp_ret (h a w Z ha hw)
theorem AS {id:Nat}(h:WC P n c x (Exit.inBlock id Q) l H):WC P n c (.block id x) Q l H:=λa w Z ha hw=>wp_block (h a w Z ha hw)
theorem Bi {id:Nat}(h:WK n c (Q .normal) l H):WK n c (Exit.inBlock id Q (.exit id)) l H:=λa w Z ha hw=>by
 show if id=id then _ else _
 rw[if_pos rfl];exact h a w Z ha hw
theorem Jd {o:Operand}{b:Bool}(ho:ev l o=some (rB b))(h1:b=true→WC P n c x Q l H)(h2:b=false→WC P n c y Q l H):WC P n c (.cond o x y) Q l H:=
 λa w Z ha hw=>wp_cond_split (ha.eval ho) (λe=>h1 e a w Z ha hw) (λe=>h2 e a w Z ha hw)
theorem Bx {o:Operand}{b:Bool}(ho:ev l o=some (rB b))(hb:b=true)(h:WC P n c x Q l H):WC P n c (.cond o x y) Q l H:=
 λa w Z ha hw=>by subst hb;exact wp_cond_true (ha.eval ho) (h a w Z ha hw)
theorem Co {o:Operand}{b:Bool}(ho:ev l o=some (rB b))(hb:b=false)(h:WC P n c y Q l H):WC P n c (.cond o x y) Q l H:=
 λa w Z ha hw=>by subst hb;exact wp_cond_false (ha.eval ho) (h a w Z ha hw)
theorem Jc {S:Type}(inv:S→Prop)(fr:S→Fr)(hp:S→List Ent)(μ:S→Nat)(s0:S)(h0:inv s0)(hl:AQ (fr s0) l)(hH:(hp s0).Sublist H)
  (round:∀s,inv s→WC P n c x (Exit.then (Et n c (λs'=>inv s'∧μ s'<μ s) fr hp) Q) (fr s) (hp s)):WC P n c (.loop x) Q l H:=λa w Z ha hw=>by
 refine wp_loop_ghost (λk a w=>∃s Z,μ s=k∧inv s∧BO n (fr s) a Z∧St c (hp s) Z w) (μ s0) ⟨s0,Z,rfl,h0,ha.sub hl,hw.sub hH⟩ ?_;rintro k a w ⟨s,Z,rfl,hi,ha,hw⟩;refine wp_mono (round s hi a w Z ha hw) λe a' w' q=>?_
 cases e with
 | normal=>
  obtain⟨s',Z',⟨hi',hlt⟩,ha',hw'⟩:=q;exact⟨μ s',hlt,s',Z',rfl,hi',ha',hw'⟩
 | _=>exact q
theorem A4 {id:Nat}{ops:List Oper}(h:WL P n c ops.toArray Q ops l H):WC P n c (.region id ops.toArray false) Q l H:=λa w Z ha hw=>wp_region_lit (h a w Z ha hw)
theorem A1 (h:WK n c (Q .normal) l H):WL P n c ops Q [] l H:=λa w Z ha hw=>wpList_nil (h a w Z ha hw)
theorem sN {α:Type}:([]:List α).Sublist []:=List.Sublist.slnil
theorem sC {α:Type}{a:α}{l1 l2:List α}(h:l1.Sublist l2):(a::l1).Sublist (a::l2):=List.Sublist.cons_cons a h
theorem sS {α:Type}{a:α}{l1 l2:List α}(h:l1.Sublist l2):l1.Sublist (a::l2):=List.Sublist.cons a h
theorem AW (h:WC P n c y Q l H):WK n c (Exit.then (λa w=>y.wp P Q a w) Q .normal) l H:=AE (BE h)
theorem Av (h:WC P n c y Q l H):WL P n c ops (Exit.then (λa w=>y.wp P Q a w) Q) [] l H:=A1 (AW h)
theorem Am {id:Nat}{ops:List Oper}(h:WL P n c ops.toArray (Exit.then (λa w=>y.wp P Q a w) Q) ops l H):WC P n c ((Code.region id ops.toArray false).seq y) Q l H:=Au (A4 h)
theorem Bs {id:Nat}{os:List Oper}(h:WL P n c os.toArray (Exit.then (λa w=>y.wp P Q a w) Q) os l H):WL P n c ops (Exit.then (λa w=>((Code.region id os.toArray false).seq y).wp P Q a w) Q) [] l H:=Av (Am h)
def rle:List (Nat×List Ent)→List (List Ent)
 | []=>[]
 | p::r=>List.replicate p.1 p.2++rle r
theorem BT {a:Act}{Z:Fz}{j d:Nat}{b:Bool}(ha:BO n l a Z)(hj:Cd ops j=some d)(hv:look l d=some (rB b)):yielded ops a.tmps j=some b:=by
 unfold Cd at hj;obtain⟨v,h1,h2⟩:=ha.tm d _ hv;rw[show v = .bool b from h2] at h1;simp[yielded,hj,h1]
theorem De {a:Act}{Z:Fz}{j d:Nat}(ha:BO n l a Z)(hj:Cd ops j=some d)(hv:look l d=some (rv undef)):yielded ops a.tmps j=none:=by
 unfold Cd at hj;obtain⟨v,h1,h2⟩:=ha.tm d _ hv;rw[show v=undef from h2] at h1;simp[yielded,hj,h1,undef]
theorem Bc {d:Option Nat}{op:Op}{ty:TypeId}{pos:String}{af:Array Edge}{j dj:Nat}{want b:Bool}(hj:Cd ops j=some dj)(hv:look l dj=some (rB b))(hb:b=want)
  (h:WL P n c ops Q ({ dst:=d,op:=op,type:=ty,pos:=pos,after:=af,guard:=none }::rest) l H) :
  WL P n c ops Q ({ dst:=d,op:=op,type:=ty,pos:=pos,after:=af,guard:=some (j,want) }::rest) l H:=λa w Z ha hw=>by
 have h1:=h a w Z ha hw;have hy:=BT ha hj hv;subst hb;simp only[wpList,Region.wanted,hy,beq_self_eq_true,if_true] at h1 ⊢;exact h1
theorem A9 {d:Nat}{op:Op}{ty:TypeId}{pos:String}{af:Array Edge}{j dj:Nat}{want b:Bool}(hj:Cd ops j=some dj)(hv:look l dj=some (rB b))(hb:b = !want)(hn:Nat.blt d n=true)
  (h:WL P n c ops Q rest ((d,rv undef)::l) H) :
  WL P n c ops Q ({ dst:=some d,op:=op,type:=ty,pos:=pos,after:=af,guard:=some (j,want) }::rest) l H:=λa w Z ha hw=>by
 have hy:=BT ha hj hv;subst hb;refine wpList_skip ?_ (h _ w Z (ha.put hn rfl) hw);simp[Region.wanted,hy]
theorem DR {d:Nat}{op:Op}{ty:TypeId}{pos:String}{af:Array Edge}{j dj:Nat}{want:Bool}(hj:Cd ops j=some dj)(hv:look l dj=some (rv undef))(hn:Nat.blt d n=true)
  (h:WL P n c ops Q rest ((d,rv undef)::l) H) :
  WL P n c ops Q ({ dst:=some d,op:=op,type:=ty,pos:=pos,after:=af,guard:=some (j,want) }::rest) l H:=λa w Z ha hw=>by
 have hy:=De ha hj hv;refine wpList_skip ?_ (h _ w Z (ha.put hn rfl) hw);simp[Region.wanted,hy]
theorem AD {d:Nat}{op:Op}{ty:TypeId}{pos:String}{af:Array Edge}{r:Rp}(hr:Bd P n c l H { dst:=some d,op:=op,type:=ty,pos:=pos,after:=af,guard:=none } r)
  (hn:Nat.blt d n=true) (h:WL P n c ops Q rest ((d,r)::l) H):WL P n c ops Q ({ dst:=some d,op:=op,type:=ty,pos:=pos,after:=af,guard:=none }::rest) l H:=λa w Z ha hw=>
 wpList_plain rfl λK hK=>by
  obtain⟨v,hv,he⟩:=hr a w Z ha hw;unfold Oper.wp;rw[he];exact hK _ _ (h _ w Z (ha.put hn hv) hw)
theorem GV {d:Nat}{op:Op}{ty:TypeId}{pos:String}{af:Array Edge}
  (hr:∀a w Z,BO n l a Z→St c H Z w→∃v w' r H' Z',(execOp a.eval { dst:=some d,op:=op,type:=ty,pos:=pos,after:=af,guard:=none }).run P w = .ok (.value v) w'∧Fz.le Z Z'∧r.p Z' v∧St c H' Z' w'∧WL P n c ops Q rest ((d,r)::l) H')
  (hn:Nat.blt d n=true):WL P n c ops Q ({ dst:=some d,op:=op,type:=ty,pos:=pos,after:=af,guard:=none }::rest) l H:=λa w Z ha hw=>
 wpList_plain rfl λK hK=>by
  obtain⟨v,w',r,H',Z',h1,hz,hv,h2,h3⟩:=hr a w Z ha hw;unfold Oper.wp;rw[h1];exact hK _ _ (h3 _ w' Z' ((ha.mono hz).put hn hv) h2)
theorem Iv {op:Op}{ty:TypeId}{pos:String}{af:Array Edge}
  (hr:∀a w Z,BO n l a Z→St c H Z w→∃w' H',(execOp a.eval { dst:=none,op:=op,type:=ty,pos:=pos,after:=af,guard:=none }).run P w = .ok .skip w'∧St c H' Z w'∧WL P n c ops Q rest l H') :
  WL P n c ops Q ({ dst:=none,op:=op,type:=ty,pos:=pos,after:=af,guard:=none }::rest) l H:=λa w Z ha hw=>
 wpList_plain rfl λK hK=>by
  obtain⟨w',H',h1,h2,h3⟩:=hr a w Z ha hw;unfold Oper.wp;rw[h1];exact hK _ _ (h3 _ w' Z (ha.put_none _) h2)
theorem HC {d:Nat}{op:Op}{ty:TypeId}{pos:String}{af:Array Edge}{f:FuncId}{args:Act→Array Value}
  (hr:∀a w Z,BO n l a Z→St c H Z w→(execOp a.eval { dst:=some d,op:=op,type:=ty,pos:=pos,after:=af,guard:=none }).run P w = .ok (.enter f (args a)) w∧
   Calls P f (args a) w (λe w'=>∃v r H' Z',e = .returned v∧Fz.le Z Z'∧r.p Z' v∧St c H' Z' w'∧WL P n c ops Q rest ((d,r)::l) H'))
  (hn:Nat.blt d n=true):WL P n c ops Q ({ dst:=some d,op:=op,type:=ty,pos:=pos,after:=af,guard:=none }::rest) l H:=λa w Z ha hw=>
 wpList_plain rfl λK hK=>by
  obtain⟨h0,hc⟩:=hr a w Z ha hw;unfold Oper.wp;rw[h0];refine hc.mono ?_;rintro e w' ⟨v,r,H',Z',rfl,hz,hv,h2,h3⟩;exact hK _ _ (h3 _ w' Z' ((ha.mono hz).put hn hv) h2)
def IP (l:Fr):List Operand→Option (List Rp)
 | []=>some []
 | x::r=>match ev l x,IP l r with
  | some v,some vs=>some (v::vs)
  | _,_=>none
theorem El {a:Act}{Z:Fz}(ha:BO n l a Z):∀{xs:List Operand} {rs:List Rp},IP l xs=some rs→AM Z rs (xs.map a.eval)
 | [],rs,h=>by simp[IP] at h;subst h;trivial
 | x::r,rs,h=>by
  simp only[IP] at h
  split at h
  ·rename_i v vs' h1 h2
   simp at h;subst h;exact⟨ha.ev h1,El ha h2⟩
  ·cases h
theorem Ed {f:FuncId}{args:List Operand}{ats:Array TypeId}{o:Oper}{a:Act}(ho:o.op = .call { callee:=.value (.func f),args:=args.toArray,argTypes:=ats })
  (hcall:∀(as1:Array Value) (w:World),(callFunc f as1).run P w = .ok (.enter f as1) w) (w:World):(execOp a.eval o).run P w = .ok (.enter f (args.map a.eval).toArray) w:=by
 simp[execOp,ho,resolve,Act.eval,Deferred.ofValue,invoke,hcall]
def Gs:List Rp→List Rp→Prop
 | [],[]=>True
 | r::rs,q::qs=>DE r q∧Gs rs qs
 | _,_=>False
theorem Gs.refl:∀rs:List Rp,Gs rs rs
 | []=>trivial
 | r::rs=>⟨DE.refl r,Gs.refl rs⟩
theorem Gs.all {Z:Fz}:∀{rs qs:List Rp} {vs:List Value},Gs rs qs→AM Z rs vs→AM Z qs vs
 | [],[],[],_,_=>trivial
 | r::rs,q::qs,v::vs,⟨h1,h2⟩,⟨h3,h4⟩=>⟨h1 Z v h3,h2.all h4⟩
theorem Fn.sub {E:Fz→Prop}{f:FuncId}{args args':List Rp}{Hin:List Ent}{Φ Φ':Rp→List Ent→Prop}(h:Fn P E f args' Hin Φ)(ha:Gs args args')(hΦ:∀r H,Φ r H→Φ' r H):Fn P E f args Hin Φ':=λw Z vs hv hs=>
 (h w Z vs (ha.all hv) hs).mono λe w' ⟨r,v,H,Z',he,hp,hr,ht⟩=>⟨r,v,H,Z',he,hΦ r H hp,hr,ht⟩
theorem Eb {d:Nat}{ty:TypeId}{pos:String}{af:Array Edge}{f:FuncId}{args:List Operand}{ats:Array TypeId}{rs:List Rp}{Hin Hr:List Ent}{Φ:Rp→List Ent→Prop}(hcall:∀(as1:Array Value) (w:World),(callFunc f as1).run P w = .ok (.enter f as1) w)(hv:IP l args=some rs)
  (hp:H.Perm (Hin++Hr)) (hc:Fn P c.E f rs Hin Φ) (hn:Nat.blt d n=true) (h:∀r Ho,Φ r Ho→WL P n c ops Q rest ((d,r)::l) (Ho++Hr)) :
  WL P n c ops Q ({ dst:=some d,op:=.call { callee:=.value (.func f),args:=args.toArray,argTypes:=ats },type:=ty,pos:=pos,after:=af,guard:=none }::rest) l H:=
 HC (args:=λa=>(args.map a.eval).toArray) (λa w Z ha hw=>⟨Ed rfl hcall w,by
  have hw2:=hw.perm hp;refine(hc w Z _ (El ha hv) hw2.enter).mono ?_;rintro e w' ⟨r,v,Ho,Z',he,hΦ,hr,hs⟩;exact⟨v,r,Ho++Hr,Z',he,hs.le,hr,hw2.call hs,h r Ho hΦ⟩⟩) hn
theorem EF {d:Nat}{ty:TypeId}{pos:String}{af:Array Edge}{f:FuncId}{args:List Operand}{ats:Array TypeId}{rs:List Rp}{r r':Rp}(hcall:∀(as1:Array Value) (w:World),(callFunc f as1).run P w = .ok (.enter f as1) w)(hv:IP l args=some rs)
  (hc:J9 P c.E f rs r') (hr:r'=r) (hn:Nat.blt d n=true) (h:WL P n c ops Q rest ((d,r)::l) H) :
  WL P n c ops Q ({ dst:=some d,op:=.call { callee:=.value (.func f),args:=args.toArray,argTypes:=ats },type:=ty,pos:=pos,after:=af,guard:=none }::rest) l H:=
 Eb (Hin:=[]) (Hr:=H) hcall hv (PO _) hc hn (by rintro _ _ ⟨rfl,rfl⟩;subst hr;exact h)
theorem DA:∀{Z:Fz} (rs:List Rp) (vs:List Value) (k:Nat),AM Z rs vs→∀i r,look ((rs.zipIdx k).map λp=>(p.2,p.1)) i=some r→k≤i∧∃v,vs[i-k]? =some v∧r.p Z v
 | _,[],[],k,_,i,r,h=>by simp[look] at h
 | Z,q::rs,v::vs,k,⟨h1,h2⟩,i,r,h=>by
  simp only[List.zipIdx_cons,Qr] at h;rw[Bo] at h
  split at h
  ·rename_i e;subst e;simp at h;subst h;exact⟨PW _,v,by simp,h1⟩
  ·rename_i e
   obtain⟨h3,u,h4,h5⟩:=DA rs vs (k+1) h2 i r h;refine⟨by omega,u,?_,h5⟩;rw[show i-k=(i-(k+1))+1 from by omega];simpa using h4
def H0 (rs:List Rp):Fr:=(rs.zipIdx 0).map λp=>(p.2,p.1)
theorem enter {E:Fz→Prop}{f:FuncId}{fn:Func}{x:Code}{args:List Rp}{Hin:List Ent}{Φ:Rp→List Ent→Prop}(hf:P.funcs[f]? =some fn)(hb:fn.body=some x)(hn:fn.ntmps=n)(hle:Nat.ble args.length n=true)
  (h:∀w Z,WC P n ⟨w,Z,Hin.flatMap Ent.foot,E,Hin.flatMap Ent.gk⟩ x (bodyPost P fn (Pu ⟨w,Z,Hin.flatMap Ent.foot,E,Hin.flatMap Ent.gk⟩ Φ)) (H0 args) Hin):Fn P E f args Hin Φ:=λw Z vs hv hs=>by
 have hle':args.length≤n:=by simpa using hle
 have hl:=hv.length;refine calls_of_wp hf hb (h w Z _ w Z ⟨?_,rfl,λi r hi=>?_⟩ hs)
 ·simp[hn];omega
 ·obtain⟨_,v,h1,h2⟩:=DA args vs 0 hv i r hi;simp only[Nat.sub_zero] at h1;have hlt:i<vs.length:=(List.getElem?_eq_some_iff.1 h1).1;refine⟨v,?_,h2⟩;rw[Array.getElem?_append_left (by simpa using hlt)];simpa using h1
def Oj (P:Program)(n:Nat)(c:Cx)(l:Fr)(H:List Ent)(fn:Func)(r:Rp):Prop:=∀a w Z,BO n l a Z→St c H Z w→∃v,r.p Z v∧(results fn a.tmps).run P w = .ok v w
theorem Az {fn:Func}{Φ:Rp→List Ent→Prop}{r:Rp}(hr:Oj P n c l H fn r){H2:List Ent}(hp:H2.Sublist H)(h:Φ r H2):WK n c (bodyPost P fn (Pu c Φ) .ret) l H:=
 λa w Z ha hw=>by
  obtain⟨v,hv,he⟩:=hr a w Z ha hw;exact⟨ha.defers,v,he,r,v,H2,Z,rfl,h,hv,hw.sub hp⟩
theorem BU {H2:List Ent}(hp:H.Perm H2)(h:WK n c K l H2):WK n c K l H:=λa w Z ha hw=>h a w Z ha (hw.perm hp)
def NE (P:Program)(a:Act):ResultVar→Sem Value
 | .tmp t=>pure (a.tmps.getD t undef)
 | .cell b t=>do loadVar t (← asAddr (a.tmps.getD b undef))
def RV (P:Program)(n:Nat)(c:Cx)(l:Fr)(H:List Ent)(x:ResultVar)(r:Rp):Prop:=∀a w Z,BO n l a Z→St c H Z w→∃v,r.p Z v∧(NE P a x).run P w = .ok v w
theorem AN {i:Nat}{r:Rp}(h:look l i=some r):RV P n c l H (.tmp i) r:=λa w Z ha _=>by
 obtain⟨v,h1,h2⟩:=ha.tm i r h;exact⟨v,h2,by simp[NE,Array.getD_eq_getD_getElem?,h1]⟩
theorem Gk (fn:Func)(a:Act):results fn a.tmps=(do
  let vs ← fn.results.mapM (NE P a)
  pure (if h:vs.size=1 then vs[0] else .tuple vs)):=by
 unfold results
 congr 1
theorem BJ {fn:Func}{x:ResultVar}{r:Rp}(hr:fn.results = #[x])(h:RV P n c l H x r):Oj P n c l H fn r:=λa w Z ha hw=>by
 obtain⟨v,h1,h2⟩:=h a w Z ha hw;exact⟨v,h1,by simp[Gk (P:=P),hr,h2]⟩
theorem Hv {fn:Func}{x y:ResultVar}{r s:Rp}(hr:fn.results = #[x,y])(h:RV P n c l H x r)(h':RV P n c l H y s):Oj P n c l H fn (Ce [r,s]):=λa w Z ha hw=>by
 obtain⟨v,h1,h2⟩:=h a w Z ha hw;obtain⟨u,h3,h4⟩:=h' a w Z ha hw;exact⟨.tuple #[v,u],⟨[v,u],rfl,h1,h3,trivial⟩,by simp[Gk (P:=P),hr,h2,h4]⟩
theorem Mp {fn:Func}{x y z:ResultVar}{r s t:Rp}(hr:fn.results = #[x,y,z])(h:RV P n c l H x r)(h':RV P n c l H y s)(h'':RV P n c l H z t):Oj P n c l H fn (Ce [r,s,t]):=λa w Z ha hw=>by
 obtain⟨v,h1,h2⟩:=h a w Z ha hw;obtain⟨u,h3,h4⟩:=h' a w Z ha hw;obtain⟨q,h5,h6⟩:=h'' a w Z ha hw;exact⟨.tuple #[v,u,q],⟨[v,u,q],rfl,h1,h3,h5,trivial⟩,by simp[Gk (P:=P),hr,h2,h4,h6]⟩
theorem Ch {l':Fr}{H':List Ent}(hl:l=l')(hH:H=H')(h:WC P n c x Q l' H'):WC P n c x Q l H:=by subst hl;subst hH;exact h
theorem Dr {l':Fr}{H':List Ent}(hl:l=l')(hH:H=H')(h:WK n c K l' H'):WK n c K l H:=by subst hl;subst hH;exact h
theorem Jb {H':List Ent}(hH:H=H')(h:WL P n c ops Q rest l H'):WL P n c ops Q rest l H:=by subst hH;exact h
theorem Gj {H':List Ent}(hH:H=H')(h:WK n c K l H'):WK n c K l H:=by subst hH;exact h
theorem G3 {H2:List Ent}(hp:H.Perm H2)(h:WC P n c x Q l H2):WC P n c x Q l H:=λa w Z ha hw=>h a w Z ha (hw.perm hp)
def OO (n:Nat)(c:Cx)(l:Fr)(H:List Ent):Act→World→Prop:=λa w=>∃Z,BO n l a Z∧St c H Z w
theorem AU (l1:Fr)(H1:List Ent)(h:WC P n c x (Exit.then (OO n c l1 H1) Q) l H)(h2:WC P n c y Q l1 H1):WC P n c (x.seq y) Q l H:=λa w Z ha hw=>
 wp_seq (wp_mono (h a w Z ha hw) λe a w q=>by
  cases e with
  | normal=>obtain⟨Z,h3,h4⟩:=q;exact h2 a w Z h3 h4
  | _=>exact q)
theorem BQ {l1:Fr}{H1:List Ent}(hl:AQ l1 l)(hH:H1.Sublist H):WK n c (OO n c l1 H1) l H:=λ_ _ Z ha hw=>⟨Z,ha.sub hl,hw.sub hH⟩
def NY (id:Nat)(K:Act→World→Prop)(Q:Exit→Act→World→Prop):Exit→Act→World→Prop
 | .exit i,a,w=>if i=id then K a w else Q (.exit i) a w
 | e,a,w=>Q e a w
theorem Bp {id:Nat}(h:WK n c K l H):WK n c (NY id K Q (.exit id)) l H:=λa w Z ha hw=>by
 show if id=id then _ else _
 rw[if_pos rfl];exact h a w Z ha hw
theorem B2 {id:Nat}(h:WK n c (Q .ret) l H):WK n c (NY id K Q .ret) l H:=h
theorem BF {S V:Type}(id:Nat)(inv:S→Prop)(fr:S→Fr)(hp:S→List Ent)(μ:S→Nat)(s0:S)(h0:inv s0)(hl:AQ (fr s0) l)(hH:(hp s0).Sublist H)(iv:V→Prop)(fv:V→Fr)(hv:V→List Ent)
  (round:∀s,inv s→WC P n c x (Exit.then (Et n c (λs'=>inv s'∧μ s'<μ s) fr hp) (NY id (Et n c iv fv hv) Q)) (fr s) (hp s)) (hexit:∀v,iv v→WK n c (Q (.exit id)) (fv v) (hv v)):WC P n c (.loop x) Q l H:=λa w Z ha hw=>
 wp_mono (Jc (Q:=NY id (Et n c iv fv hv) Q) inv fr hp μ s0 h0 hl hH round a w Z ha hw) λe a w q=>by
  cases e with
  | exit i=>
   by_cases hi:i=id
   ·subst hi;have q':if i=i then Et n c iv fv hv a w else Q (.exit i) a w:=q
    rw[if_pos rfl] at q';obtain⟨v,Z,h1,h2,h3⟩:=q';exact hexit v h1 a w Z h2 h3
   ·have q':if i=id then Et n c iv fv hv a w else Q (.exit i) a w:=q
    rw[Qm hi] at q';exact q'
  | _=>exact q
theorem M0 {lb:Nat}(h:WK n c (Q .normal) l H):WC P n c (.label lb) Q l H:=λa w Z ha hw=>wp_label (h a w Z ha hw)
theorem Mz (h:WC P n c x (Exit.noGoto Q) l H):WC P n c (.scope x) Q l H:=λa w Z ha hw=>wp_scope_straight (h a w Z ha hw)
theorem G2 (h:WK n c (Q .ret) l H):WK n c (Exit.noGoto Q .ret) l H:=h
end
theorem J9.of_old {P:Program}{E:Fz→Prop}{f:FuncId}{vs:List Value}{v:Value}(h:∀w Z,LD Z w→E Z→Calls P f vs.toArray w (J8 w v)):J9 P E f (vs.map rv) (rv v):=λw Z us hu hs=>by
 rw[AM.eq_rv hu];refine(h w Z hs.frz hs.env).mono λe w' ⟨he,ht⟩=>⟨rv v,v,[],Z,he,⟨rfl,rfl⟩,rfl,⟨ht.os,ht.tape,ht.output,ht.size,ht.old,by simp,by simp,by simp,⟨λb o hb=>?_,λk i b hb=>Nat.lt_of_lt_of_le (hs.frz.nm k i b hb) ht.size⟩,Fz.le.refl _,λ_ _ e=>.inl e,by simp,hs.env,hs.emono,GR.none rfl⟩⟩
 rw[ht.old b (hs.frz.lt hb) (by simp)];exact hs.frz b o hb
end Go.Proofs.YtfbmdidnlhifjaaGreatDoor.Q
namespace Go.Proofs.YtfbmdidnlhifjaaGreatDoor
def GX (c:Int):Bool:=decide (97≤c)&&decide (c≤122)
def Hj (c:Int):Bool:=decide (48≤c)&&decide (c≤57)
def CR (c:Int):Bool:=GX c||Hj c||(decide (65≤c)&&decide (c≤90))||decide (c=45)||decide (c=95)||decide (c=46)||decide (c=58)||decide (c=47)
def La (p:List UInt8)(i:Int):Int:=((p[i.toNat]?).getD 0).toNat
def Bz (f:Nat→UInt8→Bool):Nat→List UInt8→Bool
 | _,[]=>true
 | i,u::r=>f i u&&Bz f (i+1) r
def H9 (_:Nat)(u:UInt8):Bool:=CR u.toNat
def Lw (p:List UInt8):Bool:=Bz H9 0 p&&decide (1≤p.length)&&decide (p.length≤64)
theorem IR {p:List UInt8}{k:Nat}{u:UInt8}(h:p[k]? =some u):p.drop k=u::p.drop (k+1):=by
 obtain⟨h1,h2⟩:=List.getElem?_eq_some_iff.1 h;rw[List.drop_eq_getElem_cons h1,h2]
theorem O5 {f:Nat→UInt8→Bool}{p:List UInt8}{k:Nat}{u:UInt8}(hi:k≤p.length∧Bz f 0 p=Bz f k (p.drop k))(h:p[k]? =some u)(ht:f k u=false):Bz f 0 p=false:=by
 rw[hi.2,IR h];simp[Bz,ht]
theorem MA {f:Nat→UInt8→Bool}{p:List UInt8}{k:Nat}{u:UInt8}(hi:k≤p.length∧Bz f 0 p=Bz f k (p.drop k))(h:p[k]? =some u)(ht:f k u=true) :
  (k+1≤p.length∧Bz f 0 p=Bz f (k+1) (p.drop (k+1)))∧p.length-(k+1)<p.length-k:=by
 have hk:k<p.length:=(List.getElem?_eq_some_iff.1 h).1;refine⟨⟨hk,?_⟩,by omega⟩;rw[hi.2,IR h];simp[Bz,ht]
theorem NF {f:Nat→UInt8→Bool}{p:List UInt8}{k:Nat}(hi:k≤p.length∧Bz f 0 p=Bz f k (p.drop k))(h:p.length≤k):Bz f 0 p=true:=by
 rw[hi.2,List.drop_of_length_le h];rfl
theorem Lv {k:Nat}{u:UInt8}{c wd:Nat}(hl:u.toNat<128→c=u.toNat∧wd=1)(hh:128≤u.toNat→128≤c):CR c=H9 k u:=by
 rcases Nat.lt_or_ge u.toNat 128 with h | h
 ·rw[(hl h).1];rfl
 ·have h2:=hh h;have e:∀m:Nat,128≤m→CR m=false:=λm hm=>by
   simp[CR,GX,Hj];omega
  rw[e c h2];exact(e _ h).symm
theorem NT {p:List UInt8}{k:Nat}{u:UInt8}{c wd:Nat}(hi:k≤p.length∧Bz H9 0 p=Bz H9 k (p.drop k))(h:p[k]? =some u)(hl:u.toNat<128→c=u.toNat∧wd=1)(hh:128≤u.toNat→128≤c)
  (ht:(!CR c)=false):(k+wd≤p.length∧Bz H9 0 p=Bz H9 (k+wd) (p.drop (k+wd)))∧p.length-(k+wd)<p.length-k:=by
 have ht':CR c=true:=by simpa using ht
 rcases Nat.lt_or_ge u.toNat 128 with hu | hu
 ·rw[(hl hu).2];rw[Lv (k:=k) hl hh] at ht';exact MA hi h ht'
 ·have h2:=hh hu;simp[CR,GX,Hj] at ht';omega
theorem Pj {p:List UInt8}{k:Nat}{u:UInt8}{c wd:Nat}(hi:k≤p.length∧Bz H9 0 p=Bz H9 k (p.drop k))(h:p[k]? =some u)(hl:u.toNat<128→c=u.toNat∧wd=1)(hh:128≤u.toNat→128≤c)
  (ht:(!CR c)=true):Lw p=false:=by
 rw[Lv (k:=k) hl hh] at ht;simp[Lw,O5 hi h (by simpa using ht)]
theorem OI {p:List UInt8}{k:Nat}(hi:k≤p.length∧Bz H9 0 p=Bz H9 k (p.drop k))(h:p.length≤k):Lw p=((decide ((1:Int)≤p.length))&&(decide ((p.length:Int)≤64))):=by
 simp[Lw,NF hi h];grind
open Go
set_option linter.unusedVariables false
abbrev Ao:=List UInt8
def NK (s:Ao):Bool:=decide (s.length≤9223372036854775807)
def Ml (l:List UInt8):List Int:=l.map λc=>(c.toNat:Int)
def Cr (k:IntKind)(x:Int):Bool:=decide (k.min≤x)&&decide (x≤k.max)
def BV (i n:Int):Bool:=decide (0≤i)&&decide (i<n)
def OH (i n:Int):Bool:=decide (0≤i)&&decide (i≤n)
def Mf (b n:Nat):Bool:=decide (n*b≤140737488355328)
def imp (a b:Bool):Bool:=!a||b
def Bn {α:Type}(p:Bool)(x:Option α):Option α:=bif p then x else none
def B0 {α:Type}(p:Bool)(x y:Option α):Option α:=bif p then x else y
def Mk {α β:Type}(a:α)(k:α→Option β):Option β:=k a
def B6 {α β:Type}(a:Option α)(k:α→Option β):Option β:=match a with
 | some x=>k x
 | none=>none
theorem J1 {x:Int}(h:Cr .i64 x=true) : -9223372036854775808≤x∧x≤9223372036854775807:=by simpa[Cr,IntKind.min,IntKind.max,IntKind.signed,IntKind.bits] using h
theorem Kq {x:Int}(h : -9223372036854775808≤x)(h':x≤9223372036854775807):Cr .i64 x=true:=by simpa[Cr,IntKind.min,IntKind.max,IntKind.signed,IntKind.bits] using And.intro h h'
theorem By {i n:Int}(h:BV i n=true):0≤i∧i<n:=by simpa[BV] using h
theorem OG {i n:Int}(h:0≤i)(h':i<n):BV i n=true:=by simp[BV,h,h']
theorem Lu {i n:Int}(h:OH i n=true):0≤i∧i≤n:=by simpa[OH] using h
theorem P5 {i n:Int}(h:0≤i)(h':i≤n):OH i n=true:=by simp[OH,h,h']
def ov {α:Type}[Inhabited α](a:Option α):α:=a.getD default
section
variable {α β : Type} {p q : Bool} {x y : Option α} {r : α} {s : β}
theorem Np (h:Bn p x=some r):p=true∧x=some r:=by
 cases p
 ·cases h
 ·exact⟨rfl,h⟩
theorem Pk (hp:p=true)(h:B0 p x y=some r):x=some r:=by subst hp;exact h
theorem Pm (hp:p=false)(h:B0 p x y=some r):y=some r:=by subst hp;exact h
theorem Pn {a:β}{k:β→Option α}(h:Mk a k=some r):∃b,b=a∧k b=some r:=⟨a,rfl,h⟩
theorem OU {a:Option β}{k:β→Option α}(h:B6 a k=some r):∃b,a=some b∧k b=some r:=by
 cases a with
 | none=>cases h
 | some b=>exact⟨b,rfl,h⟩
theorem Jm [Inhabited β]{a:Option β}(h:a.isSome=true):a=some (ov a):=by
 cases a with
 | none=>cases h
 | some b=>rfl
theorem A2 {a b:α}(h:some a=some b):a=b:=by cases h;rfl
theorem Gg (h:imp p q=true)(hp:p=true):q=true:=by subst hp;simpa[imp] using h
theorem CS (h:imp (!p) q=true)(hp:p=false):q=true:=by subst hp;simpa[imp] using h
theorem Dk (h:p=true):Bn p x=x:=by subst h;rfl
theorem Bm (h:p=true):B0 p x y=x:=by subst h;rfl
theorem Bk (h:p=false):B0 p x y=y:=by subst h;rfl
theorem C3 {a:Option β}{k:β→Option α}{b:β}(h:a=some b):B6 a k=k b:=by subst h;rfl
theorem Br {e:Int}(h : -9223372036854775808≤e)(h':e≤9223372036854775807):Bn (Cr .i64 e) x=x:=Dk (Kq h h')
theorem Df {i n:Int}(h:0≤i)(h':i<n):Bn (BV i n) x=x:=Dk (OG h h')
theorem NZ {i n:Int}(h:0≤i)(h':i≤n):Bn (OH i n) x=x:=Dk (P5 h h')
end
inductive Out (R V:Type) where
 | ret (r:R)
 | go (v:V)
 deriving DecidableEq
inductive Stp (S O:Type) where
 | next (s:S)
 | out (o:O)
 deriving DecidableEq
def CB {S O:Type}(body:S→Option (Stp S O)):Nat→S→Option O
 | 0,_=>none
 | n+1,s=>match body s with
  | none=>none
  | some (.next s')=>CB body n s'
  | some (.out o)=>some o
def Cf {R V:Type}(K:V→Option R):Out R V→Option R
 | .ret r=>some r
 | .go v=>K v
def LA {S O:Type}(body:S→Option (Stp S O))(m:Nat)(o:O):Stp S O→Prop
 | .next s'=>CB body m s'=some o
 | .out o'=>o'=o
section
variable {S R V : Type} {body : S → Option (Stp S (Out R V))} {n m : Nat} {s s' : S} {o : Out R V} {t : Stp S (Out R V)} {K : V → Option R} {r q : R} {v : V}
theorem Ds {O:Type}{body:S→Option (Stp S O)}{o:O}(h:CB body n s=some o):∃m,n=m+1∧∃t,body s=some t∧LA body m o t:=by
 cases n with
 | zero=>cases h
 | succ m=>
  refine⟨m,rfl,?_⟩;rw[CB] at h
  cases hb:body s with
  | none=>rw[hb] at h;cases h
  | some t=>
   rw[hb] at h;refine⟨t,rfl,?_⟩
   cases t with
   | next s'=>exact h
   | out o'=>exact A2 h
theorem BG (h:some (Stp.next s')=some t)(ht:LA body m o t):CB body m s'=some o:=by cases h;exact ht
theorem Cy (h:some (Stp.out (Out.go v))=some t)(ht:LA body m o t)(hK:Cf K o=some r):K v=some r:=by
 cases h
 have e:Out.go v=o:=ht;subst e;exact hK
theorem Cc (h:some (Stp.out (Out.ret q))=some t)(ht:LA body m o t)(hK:Cf K o=some r):some q=some r:=by
 cases h
 have e:Out.ret q=o:=ht;subst e;exact hK
theorem Jx {O:Type}{body:S→Option (Stp S O)}(I:S→Prop)(μ:S→Nat)(Qo:O→Prop)(step:∀s,I s→(∃s',body s=some (.next s')∧I s'∧μ s'<μ s)∨∃o,body s=some (.out o)∧Qo o) :
  ∀(n:Nat) (s:S),I s→μ s<n→∃o,CB body n s=some o∧Qo o
 | 0,s,_,h=>by omega
 | n+1,s,hi,h=>by
  rcases step s hi with⟨s',e,hi',hlt⟩ | ⟨o,e,ho⟩
  ·obtain⟨o,h1,h2⟩:=Jx I μ Qo step n s' hi' (by omega);exact⟨o,by rw[CB,e];exact h1,h2⟩
  ·exact⟨o,by rw[CB,e],ho⟩
theorem BX {b:Bool}(h:b=true):(!b)=false:=by subst h;rfl
theorem BH {b:Bool}(h:b=false):(!b)=true:=by subst h;rfl
end
def Aj {α:Type}[Inhabited α](xs:List α)(i:Int):α:=(xs[i.toNat]?).getD default
theorem BP {α:Type}{j:Int}{xs ys:List α}{k:Nat}{y:α}(h:BV j (xs.length:Int)=true)(e:ys=xs.set k y):BV j (ys.length:Int)=true:=by rw[e,List.length_set];exact h
abbrev CY (a b:List UInt8):Bool:=Op.bytesLess a b
end Go.Proofs.YtfbmdidnlhifjaaGreatDoor
namespace Go.Proofs.YtfbmdidnlhifjaaGreatDoor.Q
open Go Go.RowKit
set_option linter.unusedVariables false
set_option linter.unusedSimpArgs false
theorem Le:∀{k:IntKind} {x:Int},Cr k x=true→k.wrap x=x
 | .i8,x,h=>IntWalk.i8_in x (by simpa[Cr,IntKind.min,IntKind.max,IntKind.signed,IntKind.bits] using h)
 | .i16,x,h=>IntWalk.i16_in x (by simpa[Cr,IntKind.min,IntKind.max,IntKind.signed,IntKind.bits] using h)
 | .i32,x,h=>IntWalk.i32_in x (by simpa[Cr,IntKind.min,IntKind.max,IntKind.signed,IntKind.bits] using h)
 | .i64,x,h=>IntWalk.i64_in x (by simpa[Cr,IntKind.min,IntKind.max,IntKind.signed,IntKind.bits] using h)
 | .u8,x,h=>IntWalk.u8_in x (by simpa[Cr,IntKind.min,IntKind.max,IntKind.signed,IntKind.bits] using h)
 | .u16,x,h=>IntWalk.u16_in x (by simpa[Cr,IntKind.min,IntKind.max,IntKind.signed,IntKind.bits] using h)
 | .u32,x,h=>IntWalk.u32_in x (by simpa[Cr,IntKind.min,IntKind.max,IntKind.signed,IntKind.bits] using h)
 | .u64,x,h=>IntWalk.u64_in x (by simpa[Cr,IntKind.min,IntKind.max,IntKind.signed,IntKind.bits] using h)
theorem CV {P:Program}{Z:Fz}{v:Value}{f:Sem Next}{w:World}(h:f.run P w = .ok (.value v) w):∃u,(rv v).p Z u∧f.run P w = .ok (.value u) w:=⟨v,rfl,h⟩
section
variable {P : Program} {n : Nat} {c : Cx} {l : Fr} {H : List Ent} {d : Option Nat} {x y z3 : Operand} {ty t t' : TypeId} {pos : String} {af : Array Edge} {g : Option (Nat × Bool)} {v u : Value} {r : Rp}
theorem Ax (h:ev l x=some r):Bd P n c l H { dst:=d,op:=.move x,type:=ty,pos:=pos,after:=af,guard:=g } r:=λa w Z ha _=>⟨a.eval x,ha.ev h,by simp[execOp]⟩
theorem AK (h:ev l x=some r):Bd P n c l H { dst:=d,op:=.assign x,type:=ty,pos:=pos,after:=af,guard:=g } r:=λa w Z ha _=>⟨a.eval x,ha.ev h,by simp[execOp]⟩
theorem Ar {b:Bool}(hc:ev l z3=some (rB b))(hb:b=true)(h:ev l x=some r):Bd P n c l H { dst:=d,op:=.pick z3 x y,type:=ty,pos:=pos,after:=af,guard:=g } r:=λa w Z ha _=>⟨a.eval x,ha.ev h,by
 subst hb;simp[execOp,ha.eval hc,asBool]⟩
theorem AJ {b:Bool}(hc:ev l z3=some (rB b))(hb:b=false)(h:ev l y=some r):Bd P n c l H { dst:=d,op:=.pick z3 x y,type:=ty,pos:=pos,after:=af,guard:=g } r:=λa w Z ha _=>⟨a.eval y,ha.ev h,by
 subst hb;simp[execOp,ha.eval hc,asBool]⟩
theorem AG {rs:List Rp}{i:Nat}(h:ev l x=some (Ce rs))(hi:rs[i]? =some r):Bd P n c l H { dst:=d,op:=.extract x i,type:=ty,pos:=pos,after:=af,guard:=g } r:=λa w Z ha _=>by
 obtain⟨us,hu,hus⟩:=ha.ev h;obtain⟨v,hv,hp⟩:=hus.at hi;exact⟨v,hp,by simp[execOp,hu,Instr.extract,hv]⟩
theorem B5 {b:Bool}(h:ev l x=some (rB b)):Bd P n c l H { dst:=d,op:=.unOp .not t x,type:=ty,pos:=pos,after:=af,guard:=g } (rB (!b)):=λa w Z ha _=>CV<|by
 simp[execOp,ha.eval h,Op.unary]
section
variable {k : IntKind} {p q : Int} (hx : ev l x = some (rI k p)) (hy : ev l y = some (rI k q))
include hx hy
theorem BS (hz:Cr k (p+q)=true):Bd P n c l H { dst:=d,op:=.binOp .add t x y t',type:=ty,pos:=pos,after:=af,guard:=g } (rv (.int k (p+q))):=λa w Z ha _=>CV<|by
 simp[execOp,ha.eval hx,ha.eval hy,Bf,binOp,Op.intArith,Le hz]
theorem IE (hz:Cr k (p-q)=true):Bd P n c l H { dst:=d,op:=.binOp .sub t x y t',type:=ty,pos:=pos,after:=af,guard:=g } (rv (.int k (p-q))):=λa w Z ha _=>CV<|by
 simp[execOp,ha.eval hx,ha.eval hy,Bf,binOp,Op.intArith,Le hz]
theorem KH:Bd P n c l H { dst:=d,op:=.binOp .add t x y t',type:=ty,pos:=pos,after:=af,guard:=g } (rI k (k.wrap (p+q))):=λa w Z ha _=>CV<|by
 simp[execOp,ha.eval hx,ha.eval hy,Bf,binOp,Op.intArith]
theorem MP:Bd P n c l H { dst:=d,op:=.binOp .sub t x y t',type:=ty,pos:=pos,after:=af,guard:=g } (rI k (k.wrap (p-q))):=λa w Z ha _=>CV<|by
 simp[execOp,ha.eval hx,ha.eval hy,Bf,binOp,Op.intArith]
theorem D8:Bd P n c l H { dst:=d,op:=.binOp .lss t x y t',type:=ty,pos:=pos,after:=af,guard:=g } (rv (.bool (decide (p<q)))):=λa w Z ha _=>CV<|by
 simp[execOp,ha.eval hx,ha.eval hy,Bf,binOp,Op.intCmp]
theorem KE:Bd P n c l H { dst:=d,op:=.binOp .leq t x y t',type:=ty,pos:=pos,after:=af,guard:=g } (rv (.bool (decide (p≤q)))):=λa w Z ha _=>CV<|by
 simp[execOp,ha.eval hx,ha.eval hy,Bf,binOp,Op.intCmp]
theorem DW:Bd P n c l H { dst:=d,op:=.binOp .gtr t x y t',type:=ty,pos:=pos,after:=af,guard:=g } (rv (.bool (decide (q<p)))):=λa w Z ha _=>CV<|by
 simp[execOp,ha.eval hx,ha.eval hy,Bf,binOp,Op.intCmp]
theorem KF:Bd P n c l H { dst:=d,op:=.binOp .geq t x y t',type:=ty,pos:=pos,after:=af,guard:=g } (rv (.bool (decide (q≤p)))):=λa w Z ha _=>CV<|by
 simp[execOp,ha.eval hx,ha.eval hy,Bf,binOp,Op.intCmp]
theorem BK:Bd P n c l H { dst:=d,op:=.binOp .eql t x y t',type:=ty,pos:=pos,after:=af,guard:=g } (rv (.bool (decide (p=q)))):=λa w Z ha _=>CV<|by
 have e:(p ==q)=decide (p=q):=by rw[Qi];simp
 simp[execOp,ha.eval hx,ha.eval hy,Bf,binOp,Op.intCmp,e]
theorem CK:Bd P n c l H { dst:=d,op:=.binOp .neq t x y t',type:=ty,pos:=pos,after:=af,guard:=g } (rv (.bool (!decide (p=q)))):=λa w Z ha _=>CV<|by
 have e:(p !=q) = !decide (p=q):=by rw[Qi];simp
 simp[execOp,ha.eval hx,ha.eval hy,Bf,binOp,Op.intCmp,e]
end
section
variable {p q : List UInt8} (hx : ev l x = some (rS p)) (hy : ev l y = some (rS q))
include hx hy
theorem Or:Bd P n c l H { dst:=d,op:=.binOp .leq t x y t',type:=ty,pos:=pos,after:=af,guard:=g } (rv (.bool (Op.bytesLess p q||decide (p=q)))):=λa w Z ha _=>CV<|by
 have e:(p ==q)=decide (p=q):=by rw[Qi];simp
 simp[execOp,ha.eval hx,ha.eval hy,CI,binOp,Op.stringOp,CU,e]
theorem Gc:Bd P n c l H { dst:=d,op:=.binOp .eql t x y t',type:=ty,pos:=pos,after:=af,guard:=g } (rv (.bool (decide (p=q)))):=λa w Z ha _=>CV<|by
 have e:(p ==q)=decide (p=q):=by rw[Qi];simp
 simp[execOp,ha.eval hx,ha.eval hy,CI,binOp,Op.stringOp,CU,e]
theorem Oq:Bd P n c l H { dst:=d,op:=.binOp .neq t x y t',type:=ty,pos:=pos,after:=af,guard:=g } (rv (.bool (!decide (p=q)))):=λa w Z ha _=>CV<|by
 have e:(p ==q)=decide (p=q):=by rw[Qi];simp
 simp[execOp,ha.eval hx,ha.eval hy,CI,binOp,Op.stringOp,CU,e]
end
theorem C5 {p:List UInt8}(ht:P.underlying t=some .string)(h:ev l x=some (rS p)):Bd P n c l H { dst:=d,op:=.call { callee:=.builtin .len,args:=#[x],argTypes:=#[t] },type:=ty,pos:=pos,after:=af,guard:=g } (rv (.int .i64 p.length)):=λa w Z ha _=>CV<|by
 simp[execOp,resolve,invoke,builtin,ha.eval h,Builtin.len_,run_underlying ht,goInt,Hp]
theorem Hc {p:List UInt8}{k:IntKind}{i:Int}(ht:P.underlying t=some .string)(h:ev l x=some (rS p))(hi:ev l y=some (rI k i))(hg:BV i (p.length:Int)=true) :
  Bd P n c l H { dst:=d,op:=.index t x y,type:=ty,pos:=pos,after:=af,guard:=g } (rI .u8 (La p i)):=λa w Z ha _=>CV<|by
 have h0:=(By hg).1;have hl:i.toNat<p.length:=by have:=(By hg).2;omega
 have hc:p[i.toNat]? =some p[i.toNat]:=PR hl;have e:La p i=p[i.toNat].toNat:=by simp[La,hc]
 simp[execOp,ha.eval h,ha.eval hi,Instr.index,asIntOf,run_underlying ht,h0,Oz,hc,e]
theorem NL {sz:Nat}{xs:List (List Rp)}{e:TypeId}(ht:P.underlying t=some (.slice e))(h:ev l x=some (AH sz xs)):Bd P n c l H { dst:=d,op:=.call { callee:=.builtin .len,args:=#[x],argTypes:=#[t] },type:=ty,pos:=pos,after:=af,guard:=g } (rI .i64 xs.length):=λa w Z ha _=>by
 obtain⟨A,cap,e1,_⟩:=ha.ev h;exact CV<|by simp[execOp,resolve,invoke,builtin,e1,Builtin.len_,run_underlying ht,goInt]
end
end Go.Proofs.YtfbmdidnlhifjaaGreatDoor.Q
namespace Go.Proofs.YtfbmdidnlhifjaaGreatDoor
open Go Go.RowKit
set_option linter.unusedVariables false
theorem Ow (p:List UInt8)(i:Nat)(u:UInt8)(h:p[i]? =some u):(B p).get! i=u:=by
 have h':i<p.length:=(List.getElem?_eq_some_iff.1 h).1;have h2:p[i]=u:=(List.getElem?_eq_some_iff.1 h).2;subst h2;show(B p).data[i]! =_;simp[B,getElem!_pos,h']
theorem IS (p:List UInt8)(i:Nat)(u:UInt8)(h:p[i]? =some u)(hu:u.toNat<128):Utf8.decode (B p) i=(u.toNat,1):=by
 have e:=Ow p i u h;simp[Utf8.decode,e,hu]
theorem IT (p:List UInt8)(i:Nat)(u:UInt8)(h:p[i]? =some u)(hu:128≤u.toNat):128≤(Utf8.decode (B p) i).1∧1≤(Utf8.decode (B p) i).2:=by
 have e:=Ow p i u h;simp only[Utf8.decode,Nat.add_zero,e];rw[Qm (by omega)]
 split
 ·split
  ·exact⟨by assumption,by simp⟩
  ·exact⟨by decide,by decide⟩
 ·split
  ·split
   ·rename_i h1;simp at h1;exact⟨by have:=h1.1;simp only;omega,by simp⟩
   ·exact⟨by decide,by decide⟩
  ·split
   ·split
    ·rename_i h1;simp at h1;exact⟨by have:=h1.1;simp only;omega,by simp⟩
    ·exact⟨by decide,by decide⟩
   ·exact⟨by decide,by decide⟩
section
variable {P : Program} {n : Nat} {w0 : World} {M : List Nat} {ops : Array Oper} {Q : Exit → Act → World → Prop} {rest : List Oper} {l : Fr} {H H' : List Ent} {d : Nat} {x y c : Operand} {ty t t' e : TypeId} {pos : String} {af : Array Edge} {g : Option (Nat × Bool)} {v u : Value}
theorem LH {p:List UInt8}(hu:P.underlying t=some .string)(hx:ev l x=some (.string (B p)))(hn:Nat.blt d n=true)
  (h:∀b,WL P n w0 M ops Q rest ((d,.pointer (some ⟨b,0,none⟩))::l) (.blk b (.stringIter (B p) 0)::H)) :
  WL P n w0 M ops Q ({ dst:=some d,op:=.range t x,type:=ty,pos:=pos,after:=af,guard:=none }::rest) l H:=
 GV (λa w ha hw=>⟨_,w.alloc (.stringIter (B p) 0),_,by simp[execOp,ha.eval hx,Instr.range,run_underlying hu],hw.alloc _,h w.heap.size⟩) hn
theorem St.setObj {w:World}(h:St w0 M H w){i b:Nat}{o o':Obj}(hi:H[i]? =some (.blk b o)):St w0 M (H.set i (.blk b o')) { w with heap:=w.heap.setIfInBounds b o' }:=by
 have hb:w.heap[b]? =some o:=h.ent hi;have hlt:b<w.heap.size:=(Array.getElem?_eq_some_iff.1 hb).1;refine h.set hi rfl rfl rfl (by simp) (λk _ hk=>?_) ?_ (by simp[Ent.foot])
 ·simp only[Ent.foot,PV] at hk;simp only[Array.getElem?_setIfInBounds];rw[Qm (λe=>hk e.symm)]
 ·show(w.heap.setIfInBounds b o')[b]? =some o';simp[hlt]
theorem M3 {p:List UInt8}{i b k:Nat}(hx:ev l x=some (.pointer (some ⟨b,0,none⟩)))(hi:H[i]? =some (.blk b (.stringIter (B p) k)))(hn:Nat.blt d n=true)
  (hend:p.length≤k→WL P n w0 M ops Q rest ((d,.tuple #[.bool false])::l) H)
  (hgo:∀(u:UInt8) (c wd:Nat),p[k]? =some u→(u.toNat<128→c=u.toNat∧wd=1)→(128≤u.toNat→128≤c)→1≤wd→
   WL P n w0 M ops Q rest ((d,.tuple #[.bool true,.int .i64 k,.int .i32 c])::l) (H.set i (.blk b (.stringIter (B p) (k+wd))))) :
  WL P n w0 M ops Q ({ dst:=some d,op:=.next x true,type:=ty,pos:=pos,after:=af,guard:=none }::rest) l H:=
 GV (λa w ha hw=>by
  have hb:w.heap[b]? =some (.stringIter (B p) k):=hw.ent hi
  by_cases hlt:k<p.length
  ·have hu:p[k]? =some p[k]:=PR hlt;have hs:k<(B p).size:=by rw[Hp];exact hlt
   refine⟨_,{ w with heap:=w.heap.setIfInBounds b (.stringIter (B p) (k+(Utf8.decode (B p) k).2)) },_,?_,hw.setObj hi,hgo p[k] (Utf8.decode (B p) k).1 (Utf8.decode (B p) k).2 hu ?_ ?_ ?_⟩
   ·simp[execOp,ha.eval hx,Instr.next,getObj,setObj,Sem.run,hb,hs,goInt]
   ·intro h;rw[IS p k _ hu h];exact⟨rfl,rfl⟩
   ·intro h;exact(IT p k _ hu h).1
   ·rcases Nat.lt_or_ge (p[k]).toNat 128 with h | h
    ·rw[IS p k _ hu h];exact PW 1
    ·exact(IT p k _ hu h).2
  ·have hs : ¬ k<(B p).size:=by rw[Hp];exact hlt
   exact⟨_,w,H,by simp[execOp,ha.eval hx,Instr.next,getObj,Sem.run,hb,hs],hw,hend (by omega)⟩) hn
end
section
variable {P : Program} {n : Nat} {w0 : World} {M : List Nat} {ops : Array Oper} {Q : Exit → Act → World → Prop} {rest : List Oper} {l : Fr} {H H' : List Ent} {x y c : Operand} {ty t t' e : TypeId} {pos : String} {af : Array Edge} {g : Option (Nat × Bool)} {v u : Value}
theorem Hc {d:Option Nat}{p:List UInt8}{k:IntKind}{i:Int}(ht:P.underlying t=some .string)(h:ev l x=some (.string (B p)))(hi:ev l y=some (.int k i))(h0:0≤i)(h1:i<p.length) :
  Bd P n w0 M l H { dst:=d,op:=.index t x y,type:=ty,pos:=pos,after:=af,guard:=g } (.int .u8 (La p i)):=by
 have hl:i.toNat<p.length:=by omega
 have hc:p[i.toNat]? =some p[i.toNat]:=PR hl;have e:La p i=p[i.toNat].toNat:=by simp[La,hc]
 rw[e];exact LW ht h hi h0 hc
variable (P n w0 M) in
def WQ (opsA:Array Oper)(K:Act→World→Prop)(rest:List Oper)(l:Fr)(H:List Ent):Prop:=∀a,BO n l a→wpQuiet P opsA (St w0 M H) (λa'=>∀w',St w0 M H w'→K a' w') rest a
variable {K : Act → World → Prop}
end
def Ns (sz:Nat)(w:World)(v:Value)(vs:List (List Value)):Prop:=
 ∃A cap,v = .slice A vs.length cap∧vs.length≤cap∧(cap≤maxLen∧(A=none→cap=0))∧∀i c,vs[i]? =some c→c.length=sz∧∃a:Addr,A=some a∧a.spot=none∧a.block<w.heap.size∧∀j u,c[j]? =some u→w.cell? ⟨a.block,a.off+(i*sz+j),none⟩=some u
def Pv (M:List Nat)(v:Value):Prop:=∀a n c,v = .slice (some a) n c→a.block ∉ M
theorem Pv.nil (v:Value):Pv [] v:=λ_ _ _ _=>by simp
theorem Ns.nil (sz:Nat)(w:World):Ns sz w (.slice none 0 0) []:=⟨none,0,rfl,PW _,⟨by simp[maxLen],λ_=>rfl⟩,λi c h=>by simp at h⟩
theorem Ns.st {sz:Nat}{w0 w:World}{M:List Nat}{H:List Ent}{v:Value}{vs:List (List Value)}(h:Ns sz w0 v vs)(ho:Pv M v)(hw:St w0 M H w):Ns sz w v vs:=by
 obtain⟨A,cap,rfl,hc,hm,hi⟩:=h;refine⟨A,cap,rfl,hc,hm,λi c hic=>?_⟩;obtain⟨hl,a,rfl,hs,hb,hcell⟩:=hi i c hic;refine⟨hl,a,rfl,hs,Nat.lt_of_lt_of_le hb hw.size,λj u hj=>?_⟩;have h1:w.cell? ⟨a.block,a.off+(i*sz+j),none⟩=w0.cell? ⟨a.block,a.off+(i*sz+j),none⟩:=World.cell?_of_block (hw.old a.block hb (ho a _ _ rfl));rw[h1];exact hcell j u hj
theorem Ns.st0 {sz:Nat}{w0 w:World}{H:List Ent}{v:Value}{vs:List (List Value)}(h:Ns sz w0 v vs)(hw:St w0 [] H w):Ns sz w v vs:=h.st (Pv.nil _) hw
def flat (vs:List (List Value)):List Value:=vs.flatten
theorem L0 {sz:Nat}:∀{vs:List (List Value)} (hs:∀c∈vs,c.length=sz) {i:Nat} {c:List Value} (hi:vs[i]? =some c) {j:Nat} {u:Value} (hj:c[j]? =some u),(flat vs)[i*sz+j]? =some u
 | [],hs,i,c,hi,j,u,hj=>by simp at hi
 | x::r,hs,0,c,hi,j,u,hj=>by
  simp at hi;subst hi;simp only[flat,List.flatten_cons,Nat.zero_mul,Qh];rw[Qc (by have:=(List.getElem?_eq_some_iff.1 hj).1;exact this)];exact hj
 | x::r,hs,i+1,c,hi,j,u,hj=>by
  have hx:x.length=sz:=hs x (by simp);simp only[flat,List.flatten_cons];rw[List.getElem?_append_right (by rw[hx,Nat.succ_mul];omega)];have e:(i+1)*sz+j-x.length=i*sz+j:=by rw[hx,Nat.succ_mul];omega
  rw[e];exact L0 (vs:=r) (λc hc=>hs c (by simp[hc])) (by simpa using hi) hj
theorem Ns.of_row {sz:Nat}{w:World}{v:Value}{e:TypeId}{vs:List (List Value)}(h:(Ent.row v e sz vs.length (flat vs)).holds w)(hs:∀c∈vs,c.length=sz):Ns sz w v vs:=by
 obtain⟨hl,h2⟩:=h;rcases h2 with⟨rfl,hn⟩ | ⟨g,cap,cur,rfl,_,hg,hc,hm,hsz,htake⟩
 ·have:vs=[]:=Qb hn;subst this;exact Ns.nil _ _
 ·refine⟨some ⟨g,0,none⟩,cap,rfl,hc,⟨hm,λh=>by cases h⟩,λi c hi=>⟨hs c (PU hi),⟨g,0,none⟩,rfl,rfl,(Array.getElem?_eq_some_iff.1 hg).1,λj u hj=>?_⟩⟩;have h3:=L0 hs hi hj;rw[← htake,Qp] at h3
  split at h3
  ·show w.cell? ⟨g,0+(i*sz+j),none⟩=_;rw[cell_of_row w g _ cur e (0,0) hg,Qh];simpa using h3
  ·cases h3
def Dn (sz:Nat)(v:Value)(i:Nat)(off:Nat):Value:=match v with
 | .slice (some a) _ _=>.pointer (some ⟨a.block,a.off+(i*sz+off),none⟩)
 | _=>undef
section
variable {P : Program} {n : Nat} {w0 : World} {M : List Nat} {ops : Array Oper} {Q : Exit → Act → World → Prop} {rest : List Oper} {l : Fr} {H H' : List Ent} {d : Option Nat} {x y c : Operand} {ty t t' e : TypeId} {pos : String} {af : Array Edge} {g : Option (Nat × Bool)} {v u : Value} {sz : Nat} {vs : List (List Value)}
theorem AZ {d len:Nat}{parts:Array (Nat×Operand)}{cs:List Value}(ht:P.underlying t=some (.slice e))(hz:∀w,(sizeOf e).run P w = .ok sz w)
  (hrun:∀a w,BO n l a→(Instr.buildSlice t len (parts.map λ(i,x)=>(i,a.eval x))).run P w = .ok (.slice (some ⟨w.heap.size,0,none⟩) len len) (w.alloc (.cells cs.toArray e))) (hl:cs.length=len*sz) (hm:len≤maxLen) (hn:Nat.blt d n=true)
  (h:∀b,WL P n w0 M ops Q rest ((d,.slice (some ⟨b,0,none⟩) len len)::l) (.row (.slice (some ⟨b,0,none⟩) len len) e sz len cs::H)) :
  WL P n w0 M ops Q ({ dst:=some d,op:=.buildSlice t len parts,type:=ty,pos:=pos,after:=af,guard:=none }::rest) l H:=
 GV (λa w ha hw=>by
  have hw2:=hw.alloc (.cells cs.toArray e);refine⟨_,w.alloc (.cells cs.toArray e),.row (.slice (some ⟨w.heap.size,0,none⟩) len len) e sz len cs::H,by simp[execOp,hrun a w ha],?_,h w.heap.size⟩;refine⟨hw2.os,hw2.tape,hw2.output,hw2.size,hw2.old,?_,?_,?_⟩
  ·intro en he;rcases List.mem_cons.1 he with rfl | he
   ·refine⟨hl,.inr ⟨w.heap.size,len,cs.toArray,rfl,Qw _,heap_alloc_new w _,PW _,hm,by simpa using hl,?_⟩⟩;rw[← hl];simp
   ·exact hw2.has en (by simp[he])
  ·intro en he k hk;rcases List.mem_cons.1 he with rfl | he
   ·exact hw2.own (.blk w.heap.size (.cells cs.toArray e)) (by simp) k (by simpa[Ent.foot,Value.ownBlock] using hk)
   ·exact hw2.own en (by simp[he]) k hk
  ·have hd:=List.pairwise_cons.1 hw2.dis;refine List.pairwise_cons.2 ⟨λen he k hk=>hd.1 en he k (by simpa[Ent.foot,Value.ownBlock] using hk),hd.2⟩) hn
end
set_option linter.unusedSimpArgs false
section
variable {P : Program} {n : Nat} {w0 : World} {M : List Nat} {ops : Array Oper} {Q : Exit → Act → World → Prop} {rest : List Oper} {l : Fr} {H H' : List Ent} {x y : Operand} {ty t t' e : TypeId} {pos : String} {af : Array Edge} {g : Option (Nat × Bool)} {v u : Value} {i sz m : Nat} {xs : List Value}
theorem Dx {w:World}(h:(Ent.row v e sz m xs).holds w):xs.length=m*sz∧((v = .slice none 0 0∧m=0)∨∃b cap cur,v = .slice (some ⟨b,0,none⟩) m cap∧w.heap[b]? =some (.cells cur e (0,0))∧m≤cap∧cap≤maxLen∧cur.size=cap*sz∧cur.toList.take (m*sz)=xs):=by
 obtain⟨h1,h2⟩:=h;refine⟨h1,?_⟩;rcases h2 with h2 | ⟨b,cap,cur,e1,_,e2,e3,e4,e5,e6⟩
 ·exact .inl h2
 ·exact .inr ⟨b,cap,cur,e1,e2,e3,e4,e5,e6⟩
theorem JR {w:World}{b c j:Nat}(h:(Ent.row (.slice (some ⟨b,0,none⟩) m c) e sz m xs).holds w)(hj:xs[j]? =some u):w.cell? ⟨b,j,none⟩=some u:=by
 obtain⟨h1,h2⟩:=Dx h;rcases h2 with⟨h2,_⟩ | ⟨b',cap,cur,e1,e2,_,_,_,e6⟩
 ·cases h2
 ·simp only[Value.slice.injEq,Option.some.injEq,Addr.mk.injEq,and_true,true_and] at e1;obtain⟨rfl,rfl⟩:=e1;rw[cell_of_row w b j cur e (0,0) e2];rw[← e6,Qp] at hj
  split at hj
  ·simpa using hj
  ·cases hj
theorem Lq {d:Option Nat}(ht:P.underlying t=some (.slice e))(h:ev l x=some v)(hi:H[i]? =some (.row v e sz m xs)):Bd P n w0 M l H { dst:=d,op:=.call { callee:=.builtin .len,args:=#[x],argTypes:=#[t] },type:=ty,pos:=pos,after:=af,guard:=g } (.int .i64 m):=λa w ha hw=>by
 obtain⟨_,h2⟩:=Dx (hw.ent hi);rcases h2 with⟨rfl,rfl⟩ | ⟨b,cap,cur,rfl,_⟩
 ·exact JW (n:=n) (w0:=w0) (M:=M) (H:=H) ht h a w ha hw
 ·exact JW (n:=n) (w0:=w0) (M:=M) (H:=H) ht h a w ha hw
theorem E4 {d:Option Nat}{k:IntKind}{j:Int}(ht:P.underlying t=some (.slice e))(hz:∀w,(sizeOf e).run P w = .ok sz w)(h:ev l x=some v)(hy:ev l y=some (.int k j))(hi:H[i]? =some (.row v e sz m xs))(h0:0≤j)(h1:j<m) :
  Bd P n w0 M l H { dst:=d,op:=.indexAddr t x y,type:=ty,pos:=pos,after:=af,guard:=g } (Dn sz v j.toNat 0):=λa w ha hw=>by
 obtain⟨_,h2⟩:=Dx (hw.ent hi);rcases h2 with⟨rfl,rfl⟩ | ⟨b,cap,cur,rfl,_⟩
 ·omega
 ·simp[execOp,ha.eval h,ha.eval hy,Instr.indexAt,asIntOf,run_underlying ht,h0,h1,hz,Gr,Dn]
theorem Do {d:Option Nat}{j off:Nat}(hag:∀w,(isAgg t).run P w = .ok false w)(hx:ev l x=some (Dn sz v j off))(hi:H[i]? =some (.row v e sz m xs))(hc:xs[j*sz+off]? =some u) :
  Bd P n w0 M l H { dst:=d,op:=.load t x,type:=ty,pos:=pos,after:=af,guard:=g } u:=λa w ha hw=>by
 have hr:=hw.ent hi;obtain⟨h1,h2⟩:=Dx hr;rcases h2 with⟨rfl,rfl⟩ | ⟨b,cap,cur,rfl,_⟩
 ·have:xs=[]:=Qb (by simpa using h1);subst this;simp at hc
 ·have hcell:=JR hr hc;simp[execOp,ha.eval hx,Dn,Instr.loadAt,Instr.sureAddr,loadVar,hag,hcell]
theorem GW {j off:Nat}(hsz:∀w,(sizeOf t).run P w = .ok 1 w)(hx:ev l x=some (Dn sz v j off))(hy:ev l y=some u)(hv:u.oneCell'=true)(hi:H[i]? =some (.row v e sz m xs))(hlt:j*sz+off<xs.length)
  (hH:H.set i (.row v e sz m (xs.set (j*sz+off) u))=H') (h:WL P n w0 M ops Q rest l H'):WL P n w0 M ops Q ({ dst:=none,op:=.store t x y,type:=ty,pos:=pos,after:=af,guard:=none }::rest) l H:=
 Iv λa w ha hw=>by
  have hr:=hw.ent hi;obtain⟨h1,h2⟩:=Dx hr;rcases h2 with⟨rfl,rfl⟩ | ⟨b,cap,cur,rfl,hb,hc,hm,hcs,htk⟩
  ·have:xs=[]:=Qb (by simpa using h1);subst this;simp at hlt
  ·have hlc:j*sz+off<cur.size:=by
    have:xs.length≤cur.toList.length:=by rw[← htk];simp;omega
    simp at this;omega
   have h3:=run_storeCells_at P b (j*sz+off) e [u] 0 cur w hb (by simp;omega) (by simpa using hv);have hcv:u.cells = #[u]:=by cases u<;>first | rfl | simp[Value.oneCell'] at hv
   have h4:(cur.toList.take (j*sz+off)++[u]++cur.toList.drop (j*sz+off+1)).toArray=cur.setIfInBounds (j*sz+off) u:=by
    apply Array.ext';simp[Array.toList_setIfInBounds,List.set_eq_take_append_cons_drop,hlc]
   simp only[Nat.add_zero,Qg,List.length_nil,Qh] at h3;rw[h4] at h3;refine⟨w.setRow b (cur.setIfInBounds (j*sz+off) u),H',?_,?_,h⟩
   ·simp[execOp,ha.eval hx,ha.eval hy,Dn,Instr.storeAt,Instr.sureAddr,storeVar,hsz,hcv,h3]
   ·subst hH;refine hw.set hi rfl rfl rfl (by simp[World.setRow]) (λk _ hk=>?_) ?_ (by simp[Ent.foot,Value.ownBlock])
    ·simp only[Ent.foot,Value.ownBlock,Option.mem_toList,Option.mem_def,Option.some.injEq] at hk;simp only[World.setRow,Array.getElem?_modify];rw[Qm hk]
    ·refine⟨by simpa using h1,.inr ⟨b,cap,cur.setIfInBounds (j*sz+off) u,rfl,Qw _,setRow_heap w b cur _ e (0,0) hb,hc,hm,by simpa using hcs,?_⟩⟩;rw[← htk,Array.toList_setIfInBounds,List.take_set]
def ON (sz:Nat)(w:World)(v:Value)(m:Nat)(ys:List Value):Prop:=
 ys.length=m*sz∧((v = .slice none 0 0∧m=0)∨∃ (a:Addr) (c:Nat),v = .slice (some a) m c∧∀j u,ys[j]? =some u→w.cell? (a.add j)=some u)
theorem ON.of_row {w:World}(h:(Ent.row v e sz m xs).holds w):ON sz w v m xs:=by
 obtain⟨h1,h2⟩:=Dx h;refine⟨h1,?_⟩;rcases h2 with⟨rfl,rfl⟩ | ⟨b,cap,cur,rfl,_⟩
 ·exact .inl ⟨rfl,rfl⟩
 ·refine .inr ⟨_,_,rfl,λj u hj=>?_⟩;rw[Gr,Qh];exact JR h hj
theorem Ga {w:World}{z:Value}{inf:TypeInfo}{bytes:Nat}{ys:List Value}{k:Nat}(ty:TypeId)(ht:P.underlying t=some (.slice e))(hinf:P.info? e=some inf)(hz:inf.zero=some z)(hsize:inf.size=sz)(hby:inf.bytes=bytes)(hzs:z.cells.size=sz)(hsz:0<sz)
  (hown:w.ownsRow 0 e sz v m xs) (hr:ON sz w u k ys) (h1:∀y∈ys,y.oneCell'=true) (hb:(m+k)*bytes≤140737488355328) (ha:m+k≤maxLen) :
  ∃v' w',(Builtin.append_ #[t,t] ty #[v,u]).run P w = .ok v' w'∧w'.ownsRow 0 e sz v' (m+k) (xs++ys)∧w.grownBy w' v.ownBlock∧(v'.ownBlock=v.ownBlock∨∀b,v'.ownBlock=some b→w.heap.size≤b):=by
 obtain⟨hl,hr⟩:=hr;rcases hr with⟨rfl,rfl⟩ | ⟨a,c,rfl,hnews⟩
 ·have:ys=[]:=Qb (by simpa using hl);subst this;exact⟨v,w,run_append_owned_none (w:=w) (base:=0) t ty e inf sz ht hinf v m xs hown,by simpa using hown,⟨rfl,rfl,rfl,PW _,λ_ _ _=>rfl⟩,.inl rfl⟩
 ·rcases hown.2 with⟨rfl,rfl⟩ | ⟨b,cap,cur,rfl,_,hg,hnc,hcm,hcs,htake⟩
  ·have hx:xs=[]:=Qb (by simpa using hown.1);subst hx;obtain⟨v',w',e1,e2,e3,_⟩:=run_append_own (P:=P) w w.heap.size t ty e inf z sz bytes ht hinf hz hsize hby hzs hsz (.slice none 0 0) 0 [] (World.ownsRow_nil w _ e sz) a k c ys hl hnews h1 ha hb (PW _);refine⟨v',w',e1,?_,e3,.inr λb hb=>(e2.lt b hb).1⟩;refine⟨e2.1,?_⟩;rcases e2.2 with h | ⟨g,cap,cur,h,_,rest⟩
   ·exact .inl h
   ·exact .inr ⟨g,cap,cur,h,Qw _,rest⟩
  ·by_cases hroom:m+k≤cap
   ·obtain⟨w',e1,e2,e3⟩:=run_append_fits (P:=P) w 0 t ty e inf sz ht hinf hsize b m cap xs hown a k c ys hl hnews h1 hroom;exact⟨_,w',e1,e2,e3,.inl rfl⟩
   ·subst hsize hby;have holds:∀j u,xs[j]? =some u→w.cell? ((⟨b,0,none⟩:Addr).add j)=some u:=hown.cells (g:=b) rfl;have hs:m+k≤9223372036854775807:=by simp only[maxLen] at ha;omega
    have e1:=run_append_grow (P:=P) w t ty e inf z ht hinf hz ⟨b,0,none⟩ m cap xs hown.1 holds a k c ys hl hnews (by omega) (by omega) (growslice_fits (by omega) hb);have hge:=grownCap_ge w (m+k) cap e;have hcm:=grownCap_le_maxLen w (m+k) cap e ha;have hlen:(xs++ys).length=(m+k)*inf.size:=by rw[List.length_append,hown.1,hl,Nat.add_mul]
    refine⟨_,_,e1,⟨hlen,.inr ⟨w.heap.size,_,_,rfl,Qw _,heap_alloc_new w.drew _,hge,hcm,?_,?_⟩⟩,⟨rfl,rfl,rfl,by simp,λq hq _=>Below.heap_alloc w.drew _ q hq⟩,.inr λb hb=>?_⟩
    ·simp only[Array.size_append,List.size_toArray,size_zeroCells,hzs,hown.1,hl,← Nat.add_mul]
     congr 1
     omega
    ·simp only[Array.toList_append,List.append_assoc];rw[← List.append_assoc,← hlen];exact List.take_left
    ·simp[Value.ownBlock] at hb;omega
theorem C1 {d:Nat}{z:Value}{inf:TypeInfo}{bytes:Nat}{ys:List Value}{k:Nat}(ht:P.underlying t=some (.slice e))(hinf:P.info? e=some inf)(hz:inf.zero=some z)(hsize:inf.size=sz)(hby:inf.bytes=bytes)(hzs:z.cells.size=sz)(hsz:0<sz)
  (hx:ev l x=some v) (hy:ev l y=some u) (hi:H[i]? =some (.row v e sz m xs)) (hr:∀w,St w0 M H w→ON sz w u k ys) (h1:ys.all (·.oneCell')=true) (hb:(m+k)*bytes≤140737488355328) (hd:m+k≤maxLen) (hn:Nat.blt d n=true)
  (h:∀v',WL P n w0 M ops Q rest ((d,v')::l) (.row v' e sz (m+k) (xs++ys)::H.eraseIdx i)) :
  WL P n w0 M ops Q ({ dst:=some d,op:=.call { callee:=.builtin .append,args:=#[x,y],argTypes:=#[t,t] },type:=ty,pos:=pos,after:=af,guard:=none }::rest) l H:=λa w ha hw=>by
 have hent:=hw.ent hi;have hbase:(0:Nat)≤w.heap.size:=Qw _;have hin:St w0 M ([.row v e sz m xs]++H.eraseIdx i) w:=hw.front hi;have fin:∀v' w',w'.ownsRow 0 e sz v' (m+k) (xs++ys)→(v'.ownBlock=v.ownBlock∨∀b,v'.ownBlock=some b→w.heap.size≤b)→w.grownBy w' v.ownBlock→wpList P ops Q rest (a.put (some d) v') w':=λv' w' ho hbk hg=>by
  refine h v' _ w' (ha.put hn v') ?_;refine St.call (Hin:=[.row v e sz m xs]) (Hout:=[.row v' e sz (m+k) (xs++ys)]) (M2:=(Ent.row v e sz m xs).foot) hin ⟨hg.os,hg.tape,hg.output,hg.size,λq hq hne=>hg.block q hq (λe1=>hne ?_),?_,?_,by simp⟩ (λq hq=>⟨_,by simp,hq⟩)
  ·simp[Ent.foot,← e1]
  ·intro en he;simp only[PV] at he;subst he;exact ho
  ·intro en he q hq;simp only[PV] at he;subst he;simp only[Ent.foot,Option.mem_toList] at hq ⊢;rcases hbk with hbk | hbk
   ·exact .inr (hbk▸hq)
   ·exact .inl (hbk q hq)
 obtain⟨v',w',e1,e2,e3,e4⟩:=Ga (P:=P) ty ht hinf hz hsize hby hzs hsz hent (hr w hw) (λy hy=>List.all_eq_true.1 h1 y hy) hb hd;refine wpList_plain rfl λK hK=>?_;unfold Oper.wp;simp[execOp,resolve,invoke,builtin,ha.eval hx,ha.eval hy,e1,Result.andThen];exact hK _ _ (fin v' w' e2 e4 e3)
end
end Go.Proofs.YtfbmdidnlhifjaaGreatDoor
namespace Go.Proofs.YtfbmdidnlhifjaaGreatDoor.Q
open Go Go.RowKit
set_option linter.unusedVariables false
set_option linter.unusedSimpArgs false
def PM (cs:List Rp)(Z:Fz)(v:Value):Prop:=∃b o,v = .pointer (some ⟨b,o,none⟩)∧∀j r,cs[j]? =some r→∃u,Em Z b (o+j)=some u∧r.p Z u
def MF (cs:List Rp):Rp:=⟨PM cs,λh ⟨b,o,e,hc⟩=>⟨b,o,e,λj r hj=>let ⟨u,hu,hr⟩:=hc j r hj;⟨u,HJ h hu,r.mono h hr⟩⟩,true,λ_ Z v ⟨b,o,e,_⟩=>by rw[e];rfl⟩
def Lc (H:List Ent)(r:Rp):Prop:=∀(c:Cx) Z w v,St c H Z w→r.p Z v→v.oneCell'=true
theorem BL {H:List Ent}{r:Rp}(h:r.one=true):Lc H r:=λ_ Z _ v _ hp=>r.hone h Z v hp
theorem GB {H:List Ent}{i:Nat}{v:Value}{e:TypeId}{sz:Nat}{xs:List (List Rp)}(hi:H[i]? =some (.row v e sz xs)):Lc H (rv v):=λc Z w u hw hp=>by
 obtain⟨_,us,⟨_,h2⟩,_⟩:=hw.ent hi;rw[show u=v from hp];rcases h2 with⟨rfl,_⟩ | ⟨b,cap,cur,rfl,_⟩<;>rfl
def AV (H:List Ent):List Rp→Prop
 | []=>True
 | r::rs=>Lc H r∧AV H rs
theorem AV.c {H:List Ent}:∀{rs:List Rp},rs.all (·.one)=true→AV H rs
 | [],_=>trivial
 | r::rs,h=>by simp only[List.all_cons,PY] at h;exact⟨BL h.1,AV.c h.2⟩
theorem AV.at {H:List Ent}{c:Cx}{Z:Fz}{w:World}(hw:St c H Z w):∀{rs:List Rp} {vs:List Value},AV H rs→AM Z rs vs→∀v∈vs,v.oneCell'=true
 | [],[],_,_,_,h=>by simp at h
 | r::rs,v::vs,⟨h1,h2⟩,⟨h3,h4⟩,u,h=>by
  rcases List.mem_cons.1 h with rfl | h
  ·exact h1 c Z w _ hw h3
  ·exact h2.at hw h4 u h
section
variable {P : Program} {n : Nat} {c : Cx} {ops : Array Oper} {Q : Exit → Act → World → Prop} {rest : List Oper} {l : Fr} {H H' : List Ent} {d : Nat} {d' : Option Nat} {x y : Operand} {ty t t' e : TypeId} {pos : String} {af : Array Edge} {g : Option (Nat × Bool)} {v u : Value} {r : Rp} {sz : Nat}
theorem AM.rvs (Z:Fz):∀us:List Value,AM Z (us.map rv) us
 | []=>trivial
 | u::us=>⟨rfl,AM.rvs Z us⟩
theorem Bl {z:Value}{cs:List Rp}(hz:∀w,(zeroValue e).run P w = .ok z w)(hcs:z.cells.toList.map rv=cs)(hn:Nat.blt d n=true)
  (h:∀b,WL P n c ops Q rest ((d,rv (.pointer (some ⟨b,0,none⟩)))::l) (.blk b cs e::H)) :
  WL P n c ops Q ({ dst:=some d,op:=.alloc e,type:=ty,pos:=pos,after:=af,guard:=none }::rest) l H:=
 GV (λa w Z ha hw=>⟨_,w.alloc (.cells z.cells e),_,_,Z,by simp[execOp,Instr.alloc,hz,newVar,newRow,newObj,Sem.run,Sem.run_bind],Fz.le.refl _,rfl,
  hw.alloc _ (e:=.blk w.heap.size cs e) ⟨z.cells.toList,by simpa using heap_alloc_new w _,by subst hcs;exact AM.rvs Z _⟩ rfl,h w.heap.size⟩) hn
theorem Bt {cs:List Rp}(hx:ev l x=some (AT cs))(hn:Nat.blt d n=true)
  (h:∀b,WL P n c ops Q rest ((d,rv (.pointer (some ⟨b,0,none⟩)))::l) (.blk b cs e::H)) :
  WL P n c ops Q ({ dst:=some d,op:=.box e x,type:=ty,pos:=pos,after:=af,guard:=none }::rest) l H:=
 GV (λa w Z ha hw=>by
  obtain⟨us,e1,hu⟩:=ha.ev hx;exact⟨_,w.alloc (.cells us.toArray e),_,_,Z,by simp[execOp,e1,Instr.box,newVar,newRow,newObj,Sem.run,Value.cells],Fz.le.refl _,rfl,
   hw.alloc _ (e:=.blk w.heap.size cs e) ⟨us,by simpa using heap_alloc_new w _,hu⟩ rfl,h w.heap.size⟩) hn
theorem Bg {v:Value}(h:v.oneCell'=true):v.cells = #[v]:=by cases v<;>first | rfl | simp[Value.oneCell'] at h
theorem Bq {i b off:Nat}{cs:List Rp}(hag:∀w,(isAgg t).run P w = .ok false w)(hx:ev l x=some (rv (.pointer (some ⟨b,off,none⟩))))(hi:H[i]? =some (.blk b cs e))(hc:cs[off]? =some r) :
  Bd P n c l H { dst:=d',op:=.load t x,type:=ty,pos:=pos,after:=af,guard:=g } r:=λa w Z ha hw=>by
 obtain⟨us,h1,h2⟩:=hw.ent hi;obtain⟨u,hu,hp⟩:=h2.at hc;have hcell:w.cell? ⟨b,off,none⟩=some u:=by rw[cell_of_row w b off _ e (0,0) h1];simpa using hu
 exact⟨u,hp,by simp[execOp,ha.eval hx,Instr.loadAt,Instr.sureAddr,loadVar,hag,hcell]⟩
theorem Ba {i b off:Nat}{cs r:List Rp}(hag:∀w,(isAgg t).run P w = .ok true w)(hsz:∀w,(sizeOf t).run P w = .ok sz w)
  (hx:ev l x=some (rv (.pointer (some ⟨b,off,none⟩)))) (hi:H[i]? =some (.blk b cs e)) (hr:(cs.drop off).take sz=r) (hl:r.length=sz) :
  Bd P n c l H { dst:=d',op:=.load t x,type:=ty,pos:=pos,after:=af,guard:=g } (AT r):=λa w Z ha hw=>by
 obtain⟨us,h1,h2⟩:=hw.ent hi;have h3:=(h2.drop off).take sz;rw[hr] at h3;have hlen:=h3.length;have h4:=run_loadCells_list (P:=P) w ⟨b,off,none⟩ ((us.drop off).take sz) (λj u hj=>by
  rw[Gr,cell_of_row w b _ _ e (0,0) h1];rw[Qp] at hj
  split at hj
  ·simpa using hj
  ·cases hj)
 rw[hlen,hl] at h4;exact⟨.agg ((us.drop off).take sz).toArray,⟨_,rfl,h3⟩,by simp[execOp,ha.eval hx,Instr.loadAt,Instr.sureAddr,loadVar,hag,hsz,h4]⟩
theorem Bj {cs:List Rp}(hag:∀w,(isAgg t).run P w = .ok false w)(hx:ev l x=some (MF cs))(hc:cs[0]? =some r) :
  Bd P n c l H { dst:=d',op:=.load t x,type:=ty,pos:=pos,after:=af,guard:=g } r:=λa w Z ha hw=>by
 obtain⟨b,o,e1,hcs⟩:=ha.ev hx;obtain⟨u,hu,hp⟩:=hcs 0 r hc;have hcell:=Gi hw.frz hu;rw[Nat.add_zero] at hcell;exact⟨u,hp,by simp[execOp,e1,Instr.loadAt,Instr.sureAddr,loadVar,hag,hcell]⟩
theorem Hm {Z:Fz}:∀{cs:List Rp} {f:Nat→Option Value},(∀j r,cs[j]? =some r→∃u,f j=some u∧r.p Z u)→∃us:List Value,AM Z cs us∧∀(j:Nat) u,us[j]? =some u→f j=some u
 | [],f,_=>⟨[],trivial,by simp⟩
 | r::rs,f,h=>by
  obtain⟨u,hu,hp⟩:=h 0 r rfl;obtain⟨us,h1,h2⟩:=Hm (cs:=rs) (f:=λj=>f (j+1)) (λj r' hj=>h (j+1) r' (by simpa using hj));refine⟨u::us,⟨hp,h1⟩,λj u' hj=>?_⟩
  cases j with
  | zero=>simp at hj;subst hj;exact hu
  | succ j=>exact h2 j u' (by simpa using hj)
theorem CE {cs r:List Rp}(hag:∀w,(isAgg t).run P w = .ok true w)(hsz:∀w,(sizeOf t).run P w = .ok sz w)(hx:ev l x=some (MF cs))(hr:cs.take sz=r)(hl:r.length=sz) :
  Bd P n c l H { dst:=d',op:=.load t x,type:=ty,pos:=pos,after:=af,guard:=g } (AT r):=λa w Z ha hw=>by
 obtain⟨b,o,e1,hcs⟩:=ha.ev hx;obtain⟨us,h1,h2⟩:=Hm (cs:=r) (f:=λj=>Em Z b (o+j)) (λj q hj=>hcs j q (by
  subst hr;rw[Qp] at hj
  split at hj
  ·exact hj
  ·cases hj))
 have h4:=run_loadCells_list (P:=P) w ⟨b,o,none⟩ us (λj u hj=>by rw[Gr];exact Gi hw.frz (h2 j u hj));rw[h1.length,hl] at h4;exact⟨.agg us.toArray,⟨_,rfl,h1⟩,by simp[execOp,e1,Instr.loadAt,Instr.sureAddr,loadVar,hag,hsz,h4]⟩
theorem B8 {i b off:Nat}{cs:List Rp}(hag:∀w,(sizeOf t).run P w = .ok 1 w)(hx:ev l x=some (rv (.pointer (some ⟨b,off,none⟩))))(hy:ev l y=some r)(hv:Lc H r)
  (hi:H[i]? =some (.blk b cs e)) (hlt:Nat.blt off cs.length=true) {cs':List Rp} (hcs:cs.set off r=cs') (hH:H.set i (.blk b cs' e)=H')
  (h:WL P n c ops Q rest l H'):WL P n c ops Q ({ dst:=none,op:=.store t x y,type:=ty,pos:=pos,after:=af,guard:=none }::rest) l H:=
 Iv λa w Z ha hw=>by
  obtain⟨us,hb,h2⟩:=hw.ent hi;have hr:=ha.ev hy;have hone:=hv c Z w _ hw hr;have hlen:=h2.length;have hlt':off<us.length:=by rw[hlen];simpa using hlt
  have h1:=run_storeCells_at P b off e [a.eval y] 0 us.toArray w hb (by simp;omega) (by simpa using hone);have hcv:=Bg hone;have h3:us.take off++[a.eval y]++us.drop (off+1)=us.set off (a.eval y):=by
   simp[List.set_eq_take_append_cons_drop,hlt']
  simp only[Nat.add_zero,Qg,List.length_nil,Qh] at h1;rw[h3] at h1;refine⟨w.setRow b (us.set off (a.eval y)).toArray,H',?_,?_,h⟩
  ·simp[execOp,ha.eval hx,Instr.storeAt,Instr.sureAddr,storeVar,hag,hcv,h1]
  ·subst hH;subst hcs;refine hw.set hi rfl rfl rfl (by simp[World.setRow]) (λk _ hk=>?_) ⟨us.set off (a.eval y),setRow_heap w b _ _ e (0,0) hb,h2.set off hr⟩ (by simp[Ent.foot]);simp only[Ent.foot,PV] at hk;simp only[World.setRow,Array.getElem?_modify];rw[Qm (λe=>hk e.symm)]
theorem A6 {i b off:Nat}{cs rs:List Rp}(hsz:∀w,(sizeOf t).run P w = .ok sz w)(hx:ev l x=some (rv (.pointer (some ⟨b,off,none⟩))))(hy:ev l y=some (AT rs))
  (hl:rs.length=sz) (hv:AV H rs) (hi:H[i]? =some (.blk b cs e)) (hlt:Nat.ble (off+sz) cs.length=true) {cs':List Rp}
  (hcs:cs.take off++rs++cs.drop (off+sz)=cs') (hH:H.set i (.blk b cs' e)=H')
  (h:WL P n c ops Q rest l H'):WL P n c ops Q ({ dst:=none,op:=.store t x y,type:=ty,pos:=pos,after:=af,guard:=none }::rest) l H:=
 Iv λa w Z ha hw=>by
  obtain⟨us,hb,h2⟩:=hw.ent hi;obtain⟨vs,e1,h4⟩:=ha.ev hy;have hlen:=h2.length;have hvl:=h4.length;have hlt':off+sz≤us.length:=by rw[hlen];simpa using hlt
  have h1:=run_storeCells_at P b off e vs 0 us.toArray w hb (by simp;omega) (λv hv'=>hv.at hw h4 v hv');simp only[Nat.add_zero] at h1;refine⟨w.setRow b (us.take off++vs++us.drop (off+sz)).toArray,H',?_,?_,h⟩
  ·have h5:vs.length=sz:=by omega
   rw[h5] at h1;simp only[List.append_assoc] at h1 ⊢;simp[execOp,ha.eval hx,e1,Instr.storeAt,Instr.sureAddr,storeVar,hsz,Value.cells,h5,h1]
  ·subst hH;subst hcs;refine hw.set hi rfl rfl rfl (by simp[World.setRow]) (λk _ hk=>?_) ⟨us.take off++vs++us.drop (off+sz),setRow_heap w b _ _ e (0,0) hb,((h2.take off).append h4).append (h2.drop (off+sz))⟩ (by simp[Ent.foot]);simp only[Ent.foot,PV] at hk;simp only[World.setRow,Array.getElem?_modify];rw[Qm (λe=>hk e.symm)]
theorem AO {p:Addr}(hx:ev l x=some (rv (.pointer (some p)))):Bd P n c l H { dst:=d',op:=.nilCheck x,type:=ty,pos:=pos,after:=af,guard:=g } (rv (.pointer (some p))):=λa w Z ha hw=>CV<|by
 simp[execOp,ha.eval hx]
theorem AL {b off off' i:Nat}{fs:Array Field}{f:Field}(hu:P.underlying t=some (.struct fs))(hf:fs[i]? =some f)(hsz:∀w,(sizeOf f.type).run P w = .ok (sz+1) w)
  (hx:ev l x=some (rv (.pointer (some ⟨b,off,none⟩)))) (ho:off+f.offset=off'):Bd P n c l H { dst:=d',op:=.fieldAddr t x i,type:=ty,pos:=pos,after:=af,guard:=g } (rv (.pointer (some ⟨b,off',none⟩))):=λa w Z ha hw=>CV<|by
 subst ho;simp[execOp,ha.eval hx,Instr.fieldAt,run_underlying hu,hf,Instr.sureAddr,fieldPlace,hsz,Gr]
theorem B9 {i:Nat}{cs cs':List Rp}{fs:Array Field}{f:Field}(hu:P.underlying t=some (.struct fs))(hf:fs[i]? =some f)(hsz:∀w,(sizeOf f.type).run P w = .ok (sz+1) w)
  (hx:ev l x=some (MF cs)) (ho:cs.drop f.offset=cs'):Bd P n c l H { dst:=d',op:=.fieldAddr t x i,type:=ty,pos:=pos,after:=af,guard:=g } (MF cs'):=λa w Z ha hw=>by
 subst ho;obtain⟨b,o,e1,hcs⟩:=ha.ev hx;refine⟨.pointer (some ⟨b,o+f.offset,none⟩),⟨b,o+f.offset,rfl,λj r hj=>?_⟩,by simp[execOp,e1,Instr.fieldAt,run_underlying hu,hf,Instr.sureAddr,fieldPlace,hsz,Gr]⟩;obtain⟨u,hu,hr⟩:=hcs (f.offset+j) r (by simpa using hj);exact⟨u,by rw[Nat.add_assoc];exact hu,hr⟩
theorem Bu {α:Type}[Inhabited α]{ys:List α}{enc:α→List Rp}{k:IntKind}{i:Int}(ht:P.underlying t=some (.slice e))(hz:∀w,(sizeOf e).run P w = .ok sz w)(h:ev l x=some (AH sz (ys.map enc)))(hi:ev l y=some (rI k i))(hg:BV i (ys.length:Int)=true) :
  Bd P n c l H { dst:=d',op:=.indexAddr t x y,type:=ty,pos:=pos,after:=af,guard:=g } (MF (enc (Aj ys i))):=λa w Z ha hw=>by
 obtain⟨A,cap,e1,_,_,_,hc⟩:=ha.ev h;have h0:=(By hg).1;have h1:i.toNat<ys.length:=by have:=(By hg).2;omega
 have hlt:i<(ys.length:Int):=(By hg).2;obtain⟨hl,ad,rfl,hs,hcs⟩:=hc i.toNat (enc ys[i.toNat]) (by simp[h1]);obtain⟨b,off,spot⟩:=ad;simp only at hs;subst hs;have eat:Aj ys i=ys[i.toNat]:=by simp[Aj,h1]
 refine⟨.pointer (some ⟨b,off+i.toNat*sz,none⟩),⟨b,off+i.toNat*sz,rfl,λj r hj=>?_⟩,?_⟩
 ·obtain⟨u,hu,hr⟩:=hcs j r (by rw[← eat];exact hj);exact⟨u,by rw[Nat.add_assoc];exact hu,hr⟩
 ·simp only[PT] at e1;simp[execOp,e1,ha.eval hi,Instr.indexAt,asIntOf,run_underlying ht,h0,hlt,hz,Gr]
theorem WL.nilrow {e:TypeId}{sz:Nat}(h:WL P n c ops Q rest l (.row (.slice none 0 0) e sz []::H)):WL P n c ops Q rest l H:=λa w Z ha hw=>
 h a w Z ha (hw.add rfl rfl rfl (PW _) (λ_ _=>rfl) ⟨by simp,[],⟨by simp,.inl ⟨rfl,rfl⟩⟩,trivial⟩ (by simp[Ent.foot,Value.ownBlock]))
theorem WC.nilrow {xx:Code}{e:TypeId}{sz:Nat}(h:WC P n c xx Q l (.row (.slice none 0 0) e sz []::H)):WC P n c xx Q l H:=λa w Z ha hw=>
 h a w Z ha (hw.add rfl rfl rfl (PW _) (λ_ _=>rfl) ⟨by simp,[],⟨by simp,.inl ⟨rfl,rfl⟩⟩,trivial⟩ (by simp[Ent.foot,Value.ownBlock]))
theorem WK.nilrow {K:Act→World→Prop}{e:TypeId}{sz:Nat}(h:WK n c K l (.row (.slice none 0 0) e sz []::H)):WK n c K l H:=λa w Z ha hw=>
 h a w Z ha (hw.add rfl rfl rfl (PW _) (λ_ _=>rfl) ⟨by simp,[],⟨by simp,.inl ⟨rfl,rfl⟩⟩,trivial⟩ (by simp[Ent.foot,Value.ownBlock]))
theorem Lq {i:Nat}{xs:List (List Rp)}(ht:P.underlying t=some (.slice e))(h:ev l x=some (rv v)){e':TypeId}(hi:H[i]? =some (.row v e' sz xs)):Bd P n c l H { dst:=d',op:=.call { callee:=.builtin .len,args:=#[x],argTypes:=#[t] },type:=ty,pos:=pos,after:=af,guard:=g } (rI .i64 xs.length):=λa w Z ha hw=>CV<|by
 obtain⟨_,us,⟨_,h2⟩,_⟩:=hw.ent hi;rcases h2 with⟨rfl,hz⟩ | ⟨b,cap,cur,rfl,_⟩
 ·simp[execOp,resolve,invoke,builtin,ha.eval h,Builtin.len_,run_underlying ht,goInt,hz]
 ·simp[execOp,resolve,invoke,builtin,ha.eval h,Builtin.len_,run_underlying ht,goInt]
theorem E4 {i:Nat}{k:IntKind}{j:Int}{xs:List (List Rp)}(ht:P.underlying t=some (.slice e))(hz:∀w,(sizeOf e).run P w = .ok sz w)(h:ev l x=some (rv v))(hy:ev l y=some (rI k j)){e':TypeId}(hi:H[i]? =some (.row v e' sz xs))(hg:BV j (xs.length:Int)=true) :
  Bd P n c l H { dst:=d',op:=.indexAddr t x y,type:=ty,pos:=pos,after:=af,guard:=g } (rv (Dn sz v j.toNat 0)):=λa w Z ha hw=>CV<|by
 obtain⟨_,us,⟨_,h2⟩,_⟩:=hw.ent hi;have h0:=(By hg).1;have h1:=(By hg).2;rcases h2 with⟨rfl,hz⟩ | ⟨b,cap,cur,rfl,_⟩
 ·omega
 ·simp[execOp,ha.eval h,ha.eval hy,Instr.indexAt,asIntOf,run_underlying ht,h0,h1,hz,Gr,Dn]
theorem Do {α:Type}[Inhabited α]{ys:List α}{enc:α→List Rp}{i off:Nat}{j:Int}(hag:∀w,(isAgg t).run P w = .ok false w)(hx:ev l x=some (rv (Dn sz v j.toNat off)))(hi:H[i]? =some (.row v e sz (ys.map enc)))(hg:BV j (ys.length:Int)=true)(hc:(enc (Aj ys j))[off]? =some r) :
  Bd P n c l H { dst:=d',op:=.load t x,type:=ty,pos:=pos,after:=af,guard:=g } r:=λa w Z ha hw=>by
 obtain⟨hs,us,⟨h1,h2⟩,h3⟩:=hw.ent hi;have h0:=(By hg).1;have hlt:j.toNat<ys.length:=by have:=(By hg).2;omega
 have eat:Aj ys j=ys[j.toNat]:=by simp[Aj,hlt]
 have hfl:=GO hs (i:=j.toNat) (c:=enc ys[j.toNat]) (by simp[hlt]) (j:=off) (u:=r) (by rw[← eat];exact hc);obtain⟨u,hu,hp⟩:=h3.at hfl;rcases h2 with⟨rfl,hz⟩ | ⟨b,cap,cur,rfl,_,hg',hcap,hm,hsz,htk⟩
 ·simp at hz;subst hz;simp at hlt
 ·have hcell:w.cell? ⟨b,j.toNat*sz+off,none⟩=some u:=by
   rw[cell_of_row w b _ cur e (0,0) hg'];rw[← htk,Qp] at hu
   split at hu
   ·simpa using hu
   ·cases hu
  exact⟨u,hp,by simp[execOp,ha.eval hx,Dn,Instr.loadAt,Instr.sureAddr,loadVar,hag,hcell]⟩
theorem Bh {α:Type}{ys:List α}{enc:α→List Rp}{j:Int}(h:BV j (ys.length:Int)=true):BV j ((ys.map enc).length:Int)=true:=by rw[PT];exact h
theorem Bb {α:Type}{ys:List α}{enc:α→List Rp}(ht:P.underlying t=some (.slice e))(h:ev l x=some (AH sz (ys.map enc))):Bd P n c l H { dst:=d',op:=.call { callee:=.builtin .len,args:=#[x],argTypes:=#[t] },type:=ty,pos:=pos,after:=af,guard:=g } (rI .i64 ys.length):=by
 have:=NL (P:=P) (n:=n) (c:=c) (H:=H) (d:=d') (ty:=ty) (pos:=pos) (af:=af) (g:=g) ht h
 rwa [PT] at this
theorem CO {α:Type}{ys:List α}{enc:α→List Rp}{i:Nat}(ht:P.underlying t=some (.slice e))(h:ev l x=some (rv v)){e':TypeId}(hi:H[i]? =some (.row v e' sz (ys.map enc))):Bd P n c l H { dst:=d',op:=.call { callee:=.builtin .len,args:=#[x],argTypes:=#[t] },type:=ty,pos:=pos,after:=af,guard:=g } (rI .i64 ys.length):=by
 have:=Lq (P:=P) (n:=n) (c:=c) (d':=d') (ty:=ty) (pos:=pos) (af:=af) (g:=g) ht h hi
 rwa [PT] at this
theorem B3 {k off:Nat}{xs:List (List Rp)}{e':TypeId}{jj:Int}{j:Nat}(hk:H[k]? =some (.row v e' sz xs))(hg:BV jj (xs.length:Int)=true)(hj:jj.toNat=j)(hx:ev l x=some (rv (Dn sz v j off))):Bd P n c l H { dst:=d',op:=.nilCheck x,type:=ty,pos:=pos,after:=af,guard:=g } (rv (Dn sz v j off)):=λa w Z ha hw=>CV<|by
 obtain⟨hs,us,⟨h1,h2⟩,h3⟩:=hw.ent hk;rcases h2 with⟨rfl,hz⟩ | ⟨b,cap,cur,rfl,_⟩
 ·have:=By hg;omega
 ·simp[execOp,ha.eval hx,Dn]
theorem Dp {off off' i j fsz:Nat}{fs:Array Field}{f:Field}(hu:P.underlying t=some (.struct fs))(hf:fs[i]? =some f)(hsz:∀w,(sizeOf f.type).run P w = .ok (fsz+1) w){k:Nat}{xs:List (List Rp)}{e':TypeId}{jj:Int}(hk:H[k]? =some (.row v e' sz xs))(hg:BV jj (xs.length:Int)=true)(hj:jj.toNat=j)
  (hx:ev l x=some (rv (Dn sz v j off))) (ho:off+f.offset=off'):Bd P n c l H { dst:=d',op:=.fieldAddr t x i,type:=ty,pos:=pos,after:=af,guard:=g } (rv (Dn sz v j off')):=λa w Z ha hw=>CV<|by
 obtain⟨hs,us,⟨h1,h2⟩,h3⟩:=hw.ent hk;subst ho hj;rcases h2 with⟨rfl,hz⟩ | ⟨b,cap,cur,rfl,_⟩
 ·have:=By hg;omega
 ·simp[execOp,ha.eval hx,Dn,Instr.fieldAt,run_underlying hu,hf,Instr.sureAddr,fieldPlace,hsz,Gr,Nat.add_assoc]
theorem GW {α:Type}[Inhabited α]{ys:List α}{enc:α→List Rp}{i off:Nat}{j:Int}{y':α}(hsz:∀w,(sizeOf t).run P w = .ok 1 w)(hx:ev l x=some (rv (Dn sz v j.toNat off)))(hy:ev l y=some r)(hv:Lc H r)(hi:H[i]? =some (.row v e sz (ys.map enc)))(hg:BV j (ys.length:Int)=true)
  (hy':(enc (Aj ys j)).set off r=enc y') (hlt:Nat.blt off sz=true) (hH:H.set i (.row v e sz ((ys.set j.toNat y').map enc))=H') (h:WL P n c ops Q rest l H') :
  WL P n c ops Q ({ dst:=none,op:=.store t x y,type:=ty,pos:=pos,after:=af,guard:=none }::rest) l H:=
 Iv λa w Z ha hw=>by
  obtain⟨hs,us,⟨h1,h2⟩,h3⟩:=hw.ent hi;have h0:=(By hg).1;have hlj:j.toNat<ys.length:=by have:=(By hg).2;omega
  have hlt':off<sz:=by simpa using hlt
  have eat:Aj ys j=ys[j.toNat]:=by simp[Aj,hlj]
  have hr:=ha.ev hy;have hone:=hv c Z w _ hw hr;rcases h2 with⟨rfl,hz⟩ | ⟨b,cap,cur,rfl,_,hg',hcap,hm,hcs,htk⟩
  ·simp at hz;subst hz;simp at hlj
  ·simp only[PT] at h1 hcap htk;have hin:j.toNat*sz+off<ys.length*sz:=by
    have:(j.toNat+1)*sz≤ys.length*sz:=Nat.mul_le_mul_right _ hlj;rw[Nat.succ_mul] at this;omega
   have hlc:j.toNat*sz+off<cur.size:=by
    have:ys.length*sz≤cap*sz:=Nat.mul_le_mul_right _ hcap;omega
   have h4:=run_storeCells_at P b (j.toNat*sz+off) e [a.eval y] 0 cur w hg' (by simp;omega) (by simpa using hone);have hcv:=Bg hone;have h5:(cur.toList.take (j.toNat*sz+off)++[a.eval y]++cur.toList.drop (j.toNat*sz+off+1)).toArray=cur.setIfInBounds (j.toNat*sz+off) (a.eval y):=by
    apply Array.ext';simp[Array.toList_setIfInBounds,List.set_eq_take_append_cons_drop,hlc]
   simp only[Nat.add_zero,Qg,List.length_nil,Qh] at h4;rw[h5] at h4;have hset:((ys.set j.toNat y').map enc).flatten=(ys.map enc).flatten.set (j.toNat*sz+off) r:=by
    clear h3 h1 hcs htk hin hlc h4 h5 hi hH;have key:∀(xs:List (List Rp)) (k:Nat) (cl:List Rp),(∀c∈xs,c.length=sz)→xs[k]? =some cl→(xs.set k (cl.set off r)).flatten=xs.flatten.set (k*sz+off) r:=by
     intro xs
     induction xs with
     | nil=>intro k cl _ hk;simp at hk
     | cons z zs ih=>
      intro k cl hsz hk;have hzl:z.length=sz:=hsz z (by simp)
      cases k with
      | zero=>
       simp at hk;subst hk;simp only[List.set_cons_zero,List.flatten_cons,Nat.zero_mul,Qh];rw[List.set_append_left _ _ (by omega)]
      | succ k=>
       simp only[List.set_cons_succ,List.flatten_cons];rw[ih k cl (λc hc=>hsz c (by simp[hc])) (by simpa using hk)];rw[List.set_append_right _ _ (by rw[hzl,Nat.succ_mul];omega)]
       congr 2
       rw[hzl,Nat.succ_mul];omega
    have:=key (ys.map enc) j.toNat (enc ys[j.toNat]) hs (by simp[hlj]);rw[← this,List.map_set,← hy',eat]
   refine⟨w.setRow b (cur.setIfInBounds (j.toNat*sz+off) (a.eval y)),H',?_,?_,h⟩
   ·simp[execOp,ha.eval hx,Dn,Instr.storeAt,Instr.sureAddr,storeVar,hsz,hcv,h4]
   ·subst hH;refine hw.set hi rfl rfl rfl (by simp[World.setRow]) (λk _ hk=>?_) ⟨?_,us.set (j.toNat*sz+off) (a.eval y),⟨by simpa using h1,.inr ⟨b,cap,_,by simp,Qw _,setRow_heap w b cur _ e (0,0) hg',by simpa using hcap,hm,by simpa using hcs,?_⟩⟩,?_⟩ (by simp[Ent.foot,Value.ownBlock])
    ·simp only[Ent.foot,Value.ownBlock,Option.mem_toList,Option.mem_def,Option.some.injEq] at hk;simp only[World.setRow,Array.getElem?_modify];rw[Qm hk]
    ·intro cl hcl;rw[List.map_set] at hcl;rcases List.mem_or_eq_of_mem_set hcl with h' | rfl
     ·exact hs cl h'
     ·rw[← hy',List.length_set,eat];exact hs _ (List.mem_map_of_mem (List.getElem_mem hlj))
    ·simp only[PT,List.length_set];rw[Array.toList_setIfInBounds,List.take_set,htk]
    ·rw[hset];exact h3.set _ hr
end
theorem M9 {P:Program}{t e:TypeId}{sz len:Nat}{z:Value}{parts:Array (Nat×Value)}{cs:List Value}(ht:P.underlying t=some (.slice e))(hz:∀w,(sizeOf e).run P w = .ok sz w)(hzv:∀w,(zeroValue e).run P w = .ok z w)
  (hle:Nat.ble (len*sz) 16777216=true) (w:World) (hf:Instr.fill (λi=>some (i*sz,sz)) ((Array.range (len*sz)).map ((if len*sz=0 then #[] else z.cells)[· % (if len*sz=0 then #[] else z.cells).size]!)) parts.toList=some cs.toArray) :
  (Instr.buildSlice t len parts).run P w = .ok (.slice (some ⟨w.heap.size,0,none⟩) len len) (w.alloc (.cells cs.toArray e)):=by
 have hle' : ¬ 16777216<len*sz:=by simpa using hle
 unfold Instr.buildSlice
 by_cases h0:len*sz=0
 ·have er:Array.range 0 = #[]:=rfl;simp only[h0,if_true,er] at hf;have hf:Instr.fill (λi=>some (i*sz,sz)) #[] parts.toList=some cs.toArray:=by simpa using hf
  simp[run_underlying ht,hz,hle',h0,er,hf,newRow,newObj,Sem.run,Sem.run_bind]
 ·simp only[h0,if_false] at hf;simp[run_underlying ht,hz,hzv,hle',h0,hf,newRow,newObj,Sem.run,Sem.run_bind]
section
variable {P : Program} {n : Nat} {c : Cx} {ops : Array Oper} {Q : Exit → Act → World → Prop} {rest : List Oper} {l : Fr} {H H' : List Ent} {d : Nat} {d' : Option Nat} {x y z3 : Operand} {ty t t' e : TypeId} {pos : String} {af : Array Edge} {g : Option (Nat × Bool)} {v u : Value} {r : Rp} {sz : Nat}
theorem BC {i b k:Nat}{cs:List Rp}(hag:∀w,(isAgg t).run P w = .ok true w)(hsz:∀w,(sizeOf t).run P w = .ok sz w)(hx:look l k=some (rv (.pointer (some ⟨b,0,none⟩))))(hi:H[i]? =some (.blk b cs e))(hl:cs.length=sz):RV P n c l H (.cell k t) (AT cs):=λa w Z ha hw=>by
 obtain⟨us,h1,h2⟩:=hw.ent hi;obtain⟨p,hp1,hp2⟩:=ha.tm k _ hx;rw[show p=_ from hp2] at hp1;have h4:=run_loadCells_list (P:=P) w ⟨b,0,none⟩ us (λj u hj=>by
  rw[Gr,cell_of_row w b _ _ e (0,0) h1,Qh];simpa using hj)
 rw[h2.length,hl] at h4;exact⟨.agg us.toArray,⟨us,rfl,h2⟩,by simp[NE,Array.getD_eq_getD_getElem?,hp1,asAddr,loadVar,hag,hsz,h4]⟩
def GS (H:List Ent)(r:Rp)(cs:List Rp):Prop:=∀(c:Cx) Z w v,St c H Z w→r.p Z v→AM Z cs v.cells.toList
theorem GS.one {q:Rp}(h:r.one=true)(hu:Up H r q):GS H r [q]:=λc Z w v hw hp=>by
 rw[Bg (r.hone h Z v hp)];exact⟨hu c Z w v hw hp,trivial⟩
theorem GS.agg {cs cs':List Rp}(h:Es H cs cs'):GS H (AT cs) cs':=λc Z w v hw ⟨us,e,hu⟩=>by subst e;exact h.all hw hu
def Iq (H:List Ent):List Rp→List (List Rp)→Prop
 | [],[]=>True
 | r::rs,cs::css=>GS H r cs∧Iq H rs css
 | _,_=>False
theorem Iq.all {c:Cx}{Z:Fz}{w:World}(hw:St c H Z w):∀{rs:List Rp} {css:List (List Rp)} {vs:List Value},Iq H rs css→AM Z rs vs→AM Z css.flatten (vs.flatMap λv=>v.cells.toList)∧css.length=vs.length∧∀(i:Nat) cs v,css[i]? =some cs→vs[i]? =some v→v.cells.size=cs.length
 | [],[],[],_,_=>⟨trivial,rfl,by simp⟩
 | r::rs,cs::css,v::vs,⟨h1,h2⟩,⟨h3,h4⟩=>by
  obtain⟨a1,a2,a3⟩:=h2.all hw h4;have h5:=h1 c Z w v hw h3;refine⟨by simpa using h5.append a1,by simp[a2],λi cs' v' hi hv=>?_⟩
  cases i with
  | zero=>simp at hi hv;subst hi hv;have:=h5.length;simpa using this
  | succ i=>exact a3 i cs' v' (by simpa using hi) (by simpa using hv)
theorem AZ {α:Type}{ys:List α}{enc:α→List Rp}{len:Nat}{parts:Array (Nat×Operand)}{xs:List Operand}{rs:List Rp}{css:List (List Rp)}{zz:Value}(ht:P.underlying t=some (.slice e))(hz:∀w,(sizeOf e).run P w = .ok sz w)(hzv:∀w,(zeroValue e).run P w = .ok zz w)
  (hparts:parts.toList=(xs.zipIdx 0).map λp=>(p.2,p.1)) (hlen:ys.length=len) (hv:IP l xs=some rs) (hc:Iq H rs css) (hcs:css=ys.map enc) (henc:∀z,(enc z).length=sz) (hsz:Nat.blt 0 sz=true) (hle:Nat.ble (len*sz) 16777216=true) (hn:Nat.blt d n=true)
  (h:∀b,WL P n c ops Q rest ((d,rv (.slice (some ⟨b,0,none⟩) len len))::l) (.row (.slice (some ⟨b,0,none⟩) len len) e sz (ys.map enc)::H)) :
  WL P n c ops Q ({ dst:=some d,op:=.buildSlice t len parts,type:=ty,pos:=pos,after:=af,guard:=none }::rest) l H:=
 GV (λa w Z ha hw=>by
  have hall:=El ha hv;obtain⟨h1,h2,h3⟩:=hc.all hw hall;have hsz':0<sz:=by simpa using hsz
  have hle' : ¬ 16777216<len*sz:=by simpa using hle
  have hxl:(xs.map a.eval).length=len:=by rw[← h2,hcs,PT,hlen]
  have hcell:∀v∈xs.map a.eval,v.cells.size=sz:=λv hv'=>by
   obtain⟨i,hi⟩:=List.getElem?_of_mem hv';have hil:=(List.getElem?_eq_some_iff.1 hi).1;have hil2:i<css.length:=by omega
   rw[h3 i css[i] v (PR hil2) hi];have:css[i]∈ys.map enc:=by rw[← hcs];exact List.getElem_mem hil2
   obtain⟨z,_,hz'⟩:=List.mem_map.1 this;rw[← hz'];exact henc z
  have hflen:((xs.map a.eval).flatMap λv=>v.cells.toList).length=len*sz:=by
   rw[h1.length,DX (sz:=sz) (λc hc'=>by rw[hcs] at hc';obtain⟨z,_,hz'⟩:=List.mem_map.1 hc';rw[← hz'];exact henc z),hcs,PT,hlen]
  have hpe:(parts.map λ(i,x)=>(i,a.eval x)).toList=((xs.map a.eval).zipIdx 0).map λp=>(p.2,p.1):=by
   rw[Array.toList_map,hparts,List.zipIdx_map,Qt,Qt];rfl
  have hrun:(Instr.buildSlice t len (parts.map λ(i,x)=>(i,a.eval x))).run P w = .ok (.slice (some ⟨w.heap.size,0,none⟩) len len) (w.alloc (.cells ((xs.map a.eval).flatMap λv=>v.cells.toList).toArray e)):=by
   refine M9 ht hz hzv hle w ?_;rw[hpe]
   by_cases h0:len*sz=0
   ·have:len=0:=by
     rcases Nat.mul_eq_zero.1 h0 with h | h
     ·exact h
     ·omega
    subst this;have hx0:xs=[]:=by simpa using Qb (by simpa using hxl)
    subst hx0;simp[Instr.fill]
   ·simp only[h0,if_false];exact Great.fill_whole hsz' (xs.map a.eval) _ hcell (by rw[hxl];simp)
  refine⟨_,w.alloc (.cells ((xs.map a.eval).flatMap λv=>v.cells.toList).toArray e),_,_,Z,by simp[execOp,hrun],Fz.le.refl _,rfl,
   hw.alloc _ (e:=.row (.slice (some ⟨w.heap.size,0,none⟩) len len) e sz (ys.map enc)) ⟨?_,(xs.map a.eval).flatMap (λv=>v.cells.toList),⟨?_,.inr ⟨w.heap.size,len,_,?_,Qw _,heap_alloc_new w _,?_,?_,?_,?_⟩⟩,?_⟩ (by simp[Ent.foot,Value.ownBlock]),h w.heap.size⟩
  ·intro cl hcl;obtain⟨z,_,hz'⟩:=List.mem_map.1 hcl;rw[← hz'];exact henc z
  ·rw[hflen,PT,hlen]
  ·rw[PT,hlen]
  ·rw[PT,hlen];exact PW _
  ·have:len≤len*sz:=Nat.le_mul_of_pos_right _ hsz';simp only[maxLen];omega
  ·simpa using hflen
  ·rw[PT,hlen,← hflen];exact List.take_length
  ·rw[← hcs];exact h1) hn
theorem LC.rds {α:Type}{ys:List α}{enc:α→List Rp}{Z:Fz}{w:World}(hf:LD Z w)(h:LC sz (ys.map enc) Z v)(hsz:0<sz):∃us:List Value,AM Z (ys.map enc).flatten us∧ON sz w v ys.length us:=by
 obtain⟨A,cap,rfl,_,_,hA,hc⟩:=h;have hl:∀c∈ys.map enc,c.length=sz:=λc hm=>by
  obtain⟨i,hi⟩:=List.getElem?_of_mem hm;exact(hc i c hi).1
 cases A with
 | none=>
  have:ys=[]:=by
   cases ys with
   | nil=>rfl
   | cons y r=>obtain⟨_,a,h,_⟩:=hc 0 (enc y) (by simp);cases h
  subst this;rw[hA rfl];exact⟨[],trivial,by simp,.inl ⟨rfl,rfl⟩⟩
 | some a=>
  obtain⟨us,h1,h2⟩:=Hm (Z:=Z) (cs:=(ys.map enc).flatten) (f:=λj=>Em Z a.block (a.off+j)) (λj r hj=>by
   have hjl:j<ys.length*sz:=by
    have:=DX hl;rw[PT] at this;rw[← this];exact(List.getElem?_eq_some_iff.1 hj).1
   have hq:j/sz<(ys.map enc).length:=by rw[PT,Nat.div_lt_iff_lt_mul hsz];exact hjl
   have hr:j % sz<sz:=Nat.mod_lt _ hsz;obtain⟨hcl,a',e1,hsp,hcell⟩:=hc (j/sz) (ys.map enc)[j/sz] (PR hq);simp only[Option.some.injEq] at e1;subst e1;have hdm:j/sz*sz+j % sz=j:=by rw[Nat.mul_comm];exact Nat.div_add_mod j sz
   have hlt:j % sz<((ys.map enc)[j/sz]).length:=by omega
   have h3:=GO hl (PR hq) (PR hlt);rw[hdm,hj] at h3;simp only[Option.some.injEq] at h3;obtain⟨u,hu,hp⟩:=hcell (j % sz) _ (PR hlt);rw[hdm] at hu;exact⟨u,hu,by rw[h3];exact hp⟩)
  refine⟨us,h1,?_,.inr ⟨a,cap,by simp,λj u hj=>?_⟩⟩
  ·rw[h1.length,DX hl,PT]
  ·have hjl:j<us.length:=(List.getElem?_eq_some_iff.1 hj).1;have h3:=Gi hf (h2 j u hj);have hsp:a.spot=none:=by
    cases ys with
    | nil=>have:=h1.length;simp at this;subst this;simp at hjl
    | cons y r=>obtain⟨_,a',e1,hs,_⟩:=hc 0 (enc y) (by simp);simp at e1;subst e1;exact hs
   obtain⟨b,off,spot⟩:=a;simp only at hsp;subst hsp;rw[Gr];exact h3
def K3 (P:Program)(n:Nat)(c:Cx)(l:Fr)(H:List Ent)(y:Operand)(sz:Nat)(k:Nat)(cs:List Rp):Prop:=∀a w Z,BO n l a Z→St c H Z w→∃us,AM Z cs us∧ON sz w (a.eval y) k us
theorem K3.z {α:Type}{ys:List α}{enc:α→List Rp}(h:ev l y=some (AH sz (ys.map enc)))(hsz:Nat.blt 0 sz=true):K3 P n c l H y sz ys.length (ys.map enc).flatten:=λa w Z ha hw=>LC.rds hw.frz (ha.ev h) (by simpa using hsz)
theorem K3.nil (h:ev l y=some (rv (.slice none 0 0))):K3 P n c l H y sz 0 []:=λa w Z ha hw=>⟨[],trivial,by simp,.inl ⟨ha.eval h,rfl⟩⟩
theorem K3.w {α:Type}{ys:List α}{enc:α→List Rp}{i:Nat}(h:ev l y=some (rv v))(hi:H[i]? =some (.row v e sz (ys.map enc))):K3 P n c l H y sz ys.length (ys.map enc).flatten:=λa w Z ha hw=>by
 obtain⟨h0,us,h1,h2⟩:=hw.ent hi;refine⟨us,h2,?_⟩;rw[ha.eval h];have:=ON.of_row (w:=w) (v:=v) (e:=e) (sz:=sz) (m:=(ys.map enc).length) (xs:=us) h1;simpa using this
theorem C1 {α:Type}{xs ys:List α}{enc:α→List Rp}{i:Nat}{inf:TypeInfo}{z:Value}{bytes:Nat}(ht:P.underlying t=some (.slice e))(hinf:P.info? e=some inf)(hz:inf.zero=some z)(hsize:inf.size=sz)(hby:inf.bytes=bytes)(hzs:z.cells.size=sz)(hsz:Nat.blt 0 sz=true)(hbp:Nat.blt 0 bytes=true)
  (hx:ev l x=some (rv v)) (hi:H[i]? =some (.row v e sz (xs.map enc))) (hy:K3 P n c l H y sz ys.length (ys.map enc).flatten) (henc:∀z,(enc z).length=sz) (hone:∀z,(enc z).all (·.one)=true) (hg:Mf bytes (xs.length+ys.length)=true) (hn:Nat.blt d n=true)
  (h:∀v',WL P n c ops Q rest ((d,rv v')::l) (.row v' e sz ((xs++ys).map enc)::H.eraseIdx i)) :
  WL P n c ops Q ({ dst:=some d,op:=.call { callee:=.builtin .append,args:=#[x,y],argTypes:=#[t,t] },type:=ty,pos:=pos,after:=af,guard:=none }::rest) l H:=
 GV (λa w Z ha hw=>by
  obtain⟨h0,us,h1,h2⟩:=hw.ent hi;obtain⟨ws,h3,h4⟩:=hy a w Z ha hw;have hsz':0<sz:=by simpa using hsz
  have hbp':0<bytes:=by simpa using hbp
  have hb:(xs.length+ys.length)*bytes≤140737488355328:=by simpa[Mf] using hg
  have hle:xs.length+ys.length≤(xs.length+ys.length)*bytes:=Nat.le_mul_of_pos_right _ hbp';have hws:∀y∈ws,y.oneCell'=true:=AM.one (rs:=(ys.map enc).flatten) (by
   rw[Qj];intro r hr;obtain⟨cl,hcl,hrc⟩:=List.mem_flatten.1 hr;obtain⟨z',_,rfl⟩:=List.mem_map.1 hcl;exact List.all_eq_true.1 (hone z') r hrc) h3
  have hxl:(xs.map enc).length=xs.length:=PT ..;rw[hxl] at h1;obtain⟨v',w',e1,e2,e3,e4⟩:=Ga (P:=P) ty ht hinf hz hsize hby hzs hsz' h1 h4 hws hb (by simp only[maxLen];omega);have hent:(Ent.row v' e sz ((xs++ys).map enc)).holds Z w':=⟨λcl hcl=>by obtain⟨z',_,rfl⟩:=List.mem_map.1 hcl;exact henc z',us++ws,by simpa using e2,by rw[List.map_append,List.flatten_append];exact h2.append h3⟩
  have hst:=hw.callF hi (St.one (e':=.row v' e sz ((xs++ys).map enc)) (M:=(Ent.row v e sz (xs.map enc)).foot) hw.frz hw.env hw.emono e3.os e3.tape e3.output e3.size (λk hk hne=>e3.block k hk (λe1=>hne (by simp[Ent.foot,← e1])))
   (hw.zdis _ (PU hi)) hent (λk hk=>by
    simp only[Ent.foot,Option.mem_toList] at hk ⊢;rcases e4 with e4 | e4
    ·exact .inl (e4▸hk)
    ·exact .inr (e4 k hk)))
  exact⟨v',w',rv v',_,Z,by simp[execOp,resolve,invoke,builtin,ha.eval hx,e1],Fz.le.refl _,rfl,hst,h v'⟩) hn
theorem OT {α:Type}{ys:List α}{enc:α→List Rp}{i:Nat}{k:IntKind}{j:Int}(ht:P.underlying t=some (.slice e))(hz:∀w,(sizeOf e).run P w = .ok sz w)(hx:ev l x=some (rv v))(hy:ev l y=some (rI k j))(hi:H[i]? =some (.row v e sz (ys.map enc)))(hg:OH j (ys.length:Int)=true)(hn:Nat.blt d n=true)
  (h:∀v',WL P n c ops Q rest ((d,rv v')::l) (H.set i (.row v' e sz ((ys.take j.toNat).map enc)))) :
  WL P n c ops Q ({ dst:=some d,op:=.slice t x none (some y) none,type:=ty,pos:=pos,after:=af,guard:=none }::rest) l H:=
 GV (λa w Z ha hw=>by
  obtain⟨h0,us,⟨h1,h2⟩,h3⟩:=hw.ent hi;have g0:=(Lu hg).1;have g1:=(Lu hg).2;rcases h2 with⟨rfl,hz0⟩ | ⟨b,cap,cur,rfl,_,hb,hcap,hm,hcs,htk⟩
  ·simp at hz0;subst hz0;obtain rfl:j=0:=by simp at g1;omega
   refine⟨.slice none 0 0,w,_,_,Z,by simp[execOp,ha.eval hx,ha.eval hy,Instr.sliceAt,Instr.slice,run_underlying ht,Instr.sliceBounds,E1 (m:=0) _ _ (Int.le_refl 0) (Int.le_refl 0),hz],Fz.le.refl _,rfl,?_,h _⟩;exact hw.set hi rfl rfl rfl (PW _) (λ_ _ _=>rfl) ⟨by simp,[],⟨by simp,.inl ⟨rfl,by simp⟩⟩,trivial⟩ (by simp[Ent.foot,Value.ownBlock])
  ·simp only[PT] at h1 hcap htk;have hjc:j≤(cap:Int):=by omega
   have hjl:j.toNat≤ys.length:=by omega
   refine⟨.slice (some ⟨b,0,none⟩) j.toNat cap,w,_,_,Z,by simp[execOp,ha.eval hx,ha.eval hy,Instr.sliceAt,Instr.slice,run_underlying ht,Instr.sliceBounds,E1 (m:=cap) _ _ g0 hjc,hz];intro _;rfl,Fz.le.refl _,rfl,?_,h _⟩;refine hw.set hi rfl rfl rfl (PW _) (λ_ _ _=>rfl) ⟨λcl hcl=>?_,us.take (j.toNat*sz),⟨?_,.inr ⟨b,cap,cur,?_,Qw _,hb,?_,hm,hcs,?_⟩⟩,?_⟩ (by simp[Ent.foot,Value.ownBlock])
   ·rw[List.map_take] at hcl;exact h0 cl (List.mem_of_mem_take hcl)
   ·rw[List.length_take,h1,PT,List.length_take,Nat.min_eq_left hjl];exact Nat.min_eq_left (Nat.mul_le_mul_right _ hjl)
   ·simp[Nat.min_eq_left hjl]
   ·simp;omega
   ·rw[PT,List.length_take,Nat.min_eq_left hjl,← htk,List.take_take,Nat.min_eq_left (Nat.mul_le_mul_right _ hjl)]
   ·have:((ys.take j.toNat).map enc).flatten=(ys.map enc).flatten.take (j.toNat*sz):=by
     rw[List.map_take];clear h3 h1 htk hcs hcap g1 hjc;generalize ys.map enc=zs at h0;have key:∀(zs:List (List Rp)) (k:Nat),(∀c∈zs,c.length=sz)→(zs.take k).flatten=zs.flatten.take (k*sz):=by
      intro zs
      induction zs with
      | nil=>intro k _;simp
      | cons z zs ih=>
       intro k hk
       cases k with
       | zero=>simp
       | succ k=>
        have hzl:=hk z (by simp);simp only[List.take_succ_cons,List.flatten_cons];rw[ih k (λc hc=>hk c (by simp[hc]))];have e1:(k+1)*sz=z.length+k*sz:=by rw[hzl,Nat.succ_mul];omega
        rw[e1,List.take_length_add_append]
     exact key zs _ h0
    rw[this];exact h3.take _) hn
theorem Ot {k:IntKind}{p q:Int}(ht:P.underlying t=some (.int k))(hx:ev l x=some (rI k p))(hy:ev l y=some (rI k q)):Bd P n c l H { dst:=d',op:=.call { callee:=.builtin .max,args:=#[x,y],argTypes:=#[t,t] },type:=ty,pos:=pos,after:=af,guard:=g } (rI k (max p q)):=λa w Z ha _=>CV<|by
 have e:(if p<q then q else p)=max p q:=by split<;>omega
 simp[execOp,resolve,invoke,builtin,ha.eval hx,ha.eval hy,Builtin.max_,Builtin.max2,run_underlying ht,e]
@[reducible] def DQ (x:Int):List Rp:=[rI .i64 x]
theorem KX (x:Int):(DQ x).length=1:=rfl
@[reducible] def GP (x:Int):List Rp:=[rI .u8 x]
@[reducible] def eS (x:Ao):List Rp:=[rS x]
theorem EB (x:Ao):(eS x).length=1:=rfl
theorem KW (x:Ao):(eS x).all (·.one)=true:=rfl
end
section
variable (P : Program) (n : Nat) (c : Cx) (ops : Array Oper) (Q : Exit → Act → World → Prop)
def CL (l:Fr)(H:List Ent)(o:Oper)(r:Rp)(H':List Ent):Prop:=
 ∀a w Z (K:Act→World→Prop),BO n l a Z→St c H Z w→(∀v w' Z',Fz.le Z Z'→r.p Z' v→St c H' Z' w'→K (a.put o.dst v) w')→
  (Region.wanted o (yielded ops a.tmps)=true→o.wp P a w K Q)∧(Region.wanted o (yielded ops a.tmps)=false→K (a.put o.dst undef) w)
end
def Og (l' l:Fr):Prop:=∀i v,look l' i=some v→∃q,look l i=some q∧DE q v
theorem BO.subL {n:Nat}{a:Act}{Z:Fz}{l l':Fr}(h:BO n l a Z)(hs:Og l' l):BO n l' a Z:=⟨h.size,h.defers,λi v hi=>by
 obtain⟨q,hq,hle⟩:=hs i v hi;obtain⟨u,hu,hp⟩:=h.tm i q hq;exact⟨u,hu,hle Z u hp⟩⟩
structure Kp (ks:List Nat) (l l':Fr):Prop where
 one:Og l' l
 two:∀i v,look l' i=some v→ks.contains i=true
theorem Me {ks:List Nat}:Kp ks [] []:=⟨λi v h=>by simp[look] at h,λi v h=>by simp[look] at h⟩
theorem J0 {ks:List Nat}{i:Nat}{r:Rp}{l l':Fr}(h:ks.contains i=true)(t:Kp ks l l'):Kp ks ((i,r)::l) ((i,r)::l'):=by
 refine⟨λj v hj=>?_,λj v hj=>?_⟩
 ·rw[Bo] at hj ⊢
  split at hj
  ·rename_i e;rw[if_pos e];simp at hj;subst hj;exact⟨r,rfl,DE.refl r⟩
  ·rename_i e;rw[Qm e];exact t.one j v hj
 ·rw[Bo] at hj
  split at hj
  ·rename_i e;subst e;exact h
  ·exact t.two j v hj
theorem Ko {ks:List Nat}{i:Nat}{r:Rp}{l l':Fr}(h:ks.contains i=false)(t:Kp ks l l'):Kp ks ((i,r)::l) l':=by
 refine⟨λj v hj=>?_,t.two⟩;rw[Bo]
 by_cases e:i=j
 ·subst e;rw[t.two i v hj] at h;cases h
 ·rw[Qm e];exact t.one j v hj
structure Sp where
 deps:List Nat
 r:Rp
 kd:Nat
def Ck (sp:List Sp)(i:Nat):Sp:=sp.getD i ⟨[],rv undef,0⟩
def Ct (ops:List Oper)(i:Nat):Option Nat:=(ops[i]?).bind (·.dst)
def Bv (ops:List Oper)(sp:List Sp):List Nat→Fr→Fr
 | [],l=>l
 | j::r,l=>match Ct ops j with
  | some d=>(d,(Ck sp j).r)::Bv ops sp r l
  | none=>Bv ops sp r l
def Dd (o:Oper):List Nat:=(o.after.toList.filter (Region.binds .any)).map (·.on)
def Im:List Oper→List Nat→List Nat
 | [],acc=>acc
 | o::rest,acc=>Im rest (acc++[(Dd o).foldl (λs e=>s||| 2 ^ e||| acc.getD e 0) 0])
def DP (l:Fr):List Nat:=l.map (·.1)
def Ps (n:Nat)(ops:List Oper)(N:Nat)(keys:List Nat)(deps:List (List Nat))(kds:List Nat):Bool:=
 let cl:=Im ops []
 (List.range ops.length).all (λi=>(Dd (ops.getD i default)).all (·<i))&&
 (List.range N).all (λi=>match Ct ops i with
  | some d=>decide (d<n)&&!keys.contains d&&(List.range N).all (λj=>j ==i||Ct ops j !=some d)
  | none=>true)&&
 (List.range N).all (λi=>(deps.getD i []).all (λj=>(Dd (ops.getD i default)).contains j))&&
 (List.range N).all (λi=>kds.getD i 0 ==0||kds.getD i 0 ==3||(List.range N).all (λj=>kds.getD j 0 !=2||j ==i||(if j<i then(cl.getD i 0).testBit j else(cl.getD j 0).testBit i)))&&
 (List.range ops.length).all (λi=>i<N||(List.range N).all (λj=>(cl.getD i 0).testBit j))&&ops.length≤N+1&&kds.all (·≤3)
section
variable {P : Program} {n : Nat} {c : Cx} {opsA : Array Oper} {Q : Exit → Act → World → Prop}
theorem DZ (ops:List Oper)(F:Nat→Prop):∀(rest:List Oper) (acc:List Nat),(∀(t:Nat) o,rest[t]? =some o→∀e∈Dd o,F (acc.length+t)→F e)→
  (∀(j i:Nat),(acc.getD j 0).testBit i=true→F j→F i)→∀(j i:Nat),((Im rest acc).getD j 0).testBit i=true→F j→F i
 | [],acc,_,h=>h
 | o::rest,acc,hr,h=>by
  unfold Im;refine DZ ops F rest _ (λt o' ht e he hF=>hr (t+1) o' (by simpa using ht) e he (by simpa[Nat.add_assoc,Nat.add_comm 1 t] using hF)) (λj i hb hF=>?_)
  by_cases hj:j<acc.length
  ·refine h j i ?_ hF;simpa[Qc hj] using hb
  ·by_cases hj2:j=acc.length
   ·subst hj2;simp only[PS,List.getElem?_append_right (PW _),Nat.sub_self,List.getElem?_cons_zero,Qd] at hb;have key:∀(es:List Nat) (s0:Nat),(es.foldl (λs e=>s||| 2 ^ e||| acc.getD e 0) s0).testBit i=true→s0.testBit i=true∨∃e∈es,e=i∨(acc.getD e 0).testBit i=true:=by
     intro es
     induction es with
     | nil=>intro s0 h0;exact .inl h0
     | cons e es ih=>
      intro s0 h0;rcases ih _ h0 with h1 | ⟨e',he',h1⟩
      ·simp only[Nat.testBit_or,Bool.or_eq_true,Nat.testBit_two_pow,PQ] at h1;rcases h1 with(h1 | h1) | h1
       ·exact .inl h1
       ·exact .inr ⟨e,by simp,.inl h1⟩
       ·exact .inr ⟨e,by simp,.inr h1⟩
      ·exact .inr ⟨e',by simp[he'],h1⟩
    rcases key (Dd o) 0 hb with h0 | ⟨e,he,h1 | h1⟩
    ·simp at h0
    ·subst h1;exact hr 0 o rfl e he (by simpa using hF)
    ·exact h e i h1 (hr 0 o rfl e he (by simpa using hF))
   ·have:(acc++[(Dd o).foldl (λs e=>s||| 2 ^ e||| acc.getD e 0) 0]).getD j 0=0:=by
     rw[PS,List.getElem?_eq_none (by simp;omega)];rfl
    rw[this] at hb;simp at hb
def HI (P:Program)(n:Nat)(c:Cx)(opsA:Array Oper)(Q:Exit→Act→World→Prop)(ops:List Oper)(sp:List Sp)(l0:Fr)(All:List (List Ent)):Nat→List Oper→List (List Ent)→Prop
 | i,o::rest,H::H'::Hs=>
  (match (Ck sp i).kd with
   | 0=>H'=H∧∀H,CL P n c opsA Q (Bv ops sp (Ck sp i).deps l0) H o (Ck sp i).r H
   | 1=>H'=H∧CL P n c opsA Q (Bv ops sp (Ck sp i).deps l0) H o (Ck sp i).r H
   | 3=>H'=H∧∀H∈All,CL P n c opsA Q (Bv ops sp (Ck sp i).deps l0) H o (Ck sp i).r H
   | _=>CL P n c opsA Q (Bv ops sp (Ck sp i).deps l0) H o (Ck sp i).r H')∧HI P n c opsA Q ops sp l0 All (i+1) rest (H'::Hs)
 | _,[],[_]=>True
 | _,_,_=>False
theorem HI.at {ops:List Oper}{sp:List Sp}{l0:Fr}{All:List (List Ent)}:∀{k:Nat} {rest:List Oper} {Hs:List (List Ent)},HI P n c opsA Q ops sp l0 All k rest Hs→Hs.length=rest.length+1∧∀(t:Nat) o,rest[t]? =some o→
  (match (Ck sp (k+t)).kd with
   | 0=>Hs.getD (t+1) []=Hs.getD t []∧∀H,CL P n c opsA Q (Bv ops sp (Ck sp (k+t)).deps l0) H o (Ck sp (k+t)).r H
   | 1=>Hs.getD (t+1) []=Hs.getD t []∧CL P n c opsA Q (Bv ops sp (Ck sp (k+t)).deps l0) (Hs.getD t []) o (Ck sp (k+t)).r (Hs.getD t [])
   | 3=>Hs.getD (t+1) []=Hs.getD t []∧∀H∈All,CL P n c opsA Q (Bv ops sp (Ck sp (k+t)).deps l0) H o (Ck sp (k+t)).r H
   | _=>CL P n c opsA Q (Bv ops sp (Ck sp (k+t)).deps l0) (Hs.getD t []) o (Ck sp (k+t)).r (Hs.getD (t+1) []))
 | k,o::rest,H::H'::Hs,⟨h1,h2⟩=>by
  obtain⟨hl,ih⟩:=HI.at h2;refine⟨by simp at hl ⊢;omega,λt o' ht=>?_⟩
  cases t with
  | zero=>simp at ht;subst ht;simpa using h1
  | succ t=>
   have:=ih t o' (by simpa using ht);rw[show k+(t+1)=k+1+t from by omega];simpa using this
 | _,[],[_],_=>⟨rfl,λt o h=>by simp at h⟩
theorem Ic:∀{l:Fr} {i:Nat} {r:Rp},look l i=some r→i∈DP l
 | [],i,r,h=>by simp[look] at h
 | p::l,i,r,h=>by
  obtain⟨j,u⟩:=p;rw[Bo] at h
  split at h
  ·rename_i e;subst e;simp[DP]
  ·simp only[DP,Qr,Qq];exact .inr (Ic h)
theorem HH {ops:List Oper}{sp:List Sp}{l0:Fr}{a:Act}{Z:Fz}(h0:BO n l0 a Z):∀{ds:List Nat},(∀j∈ds,∀d,Ct ops j=some d→∃v,a.tmps[d]? =some v∧(Ck sp j).r.p Z v)→BO n (Bv ops sp ds l0) a Z
 | [],_=>h0
 | j::ds,h=>by
  have ih:=HH h0 (ds:=ds) (λj' hj'=>h j' (by simp[hj']));unfold Bv
  cases hd:Ct ops j with
  | none=>exact ih
  | some d=>
   refine⟨ih.size,ih.defers,λi r hi=>?_⟩;rw[Bo] at hi
   split at hi
   ·rename_i e;subst e;simp at hi;subst hi;exact h j (by simp) d hd
   ·exact ih.tm i r hi
theorem JI {id:Nat}{pre last:List Oper}(sp:List Sp)(Hs:List (List Ent)){l0 l:Fr}{H:List Ent}(hm:P.follows .mixedOrders=true)
  (hB:Ps n (pre++last) pre.length (DP l0) (sp.map (·.deps)) (sp.map (·.kd))=true) (hl0:Og l0 l) (hsp:sp.length=pre.length) (hH:Hs.getD 0 []=H)
  (hob:HI P n c (pre++last).toArray Q (pre++last) sp l0 Hs 0 pre Hs)
  (h:WL P n c (pre++last).toArray Q last (Bv (pre++last) sp (List.range pre.length) l0) (Hs.getD pre.length [])):WC P n c (.region id (pre++last).toArray true) Q l H:=by
 intro a w Z ha hw;generalize hops:pre++last=ops at *;obtain⟨hHl,hat⟩:=hob.at;simp only[Ps,PY,Qj,List.mem_range,PQ] at hB;obtain⟨⟨⟨⟨⟨⟨b1,b2⟩,b3⟩,b4⟩,b5⟩,b6⟩,b7⟩:=hB;have hN:pre.length≤ops.length:=by rw[← hops];simp
 have hget:∀i,i<pre.length→ops[i]? =pre[i]?:=λi hi=>by rw[← hops,Qc hi]
 have hkd:∀i,i<pre.length→(sp.map (·.kd)).getD i 0=(Ck sp i).kd:=λi hi=>by
  simp[Ck,PS,Qs,PR (show i<sp.length by omega)]
 have hdp:∀i,i<pre.length→(sp.map (·.deps)).getD i []=(Ck sp i).deps:=λi hi=>by
  simp[Ck,PS,Qs,PR (show i<sp.length by omega)]
 have hconst:∀(k b:Nat),b+k≤pre.length→(∀j,b≤j→j<b+k→(Ck sp j).kd≠2)→Hs.getD (b+k) []=Hs.getD b []:=by
  intro k
  induction k with
  | zero=>intro b _ _;rfl
  | succ k ih=>
   intro b hb hj;have hlt:b+k<pre.length:=by omega
   have h1:=hat (b+k) pre[b+k] (PR hlt);rw[Qh] at h1;have hk2:(Ck sp (b+k)).kd≤3:=by
    have:=b7 ((sp.map (·.kd)).getD (b+k) 0) (by
     rw[PS,PR (by simp;omega)];exact List.getElem_mem _)
    rw[hkd _ hlt] at this;exact this
   have hne:=hj (b+k) (by omega) (by omega);have e1:Hs.getD (b+k+1) []=Hs.getD (b+k) []:=by
    match hq:(Ck sp (b+k)).kd,h1 with
    | 0,h1=>exact h1.1
    | 1,h1=>exact h1.1
    | 2,_=>exact absurd hq hne
    | 3,h1=>exact h1.1
    | q+4,_=>omega
   rw[show b+(k+1)=b+k+1 from by omega,e1];exact ih b (by omega) (λj h1 h2=>hj j h1 (by omega))
 refine wp_region_any hm ?_;have main:∀(fuel:Nat) (listed:Array Bool) (a:Act) (w:World) (Z:Fz) (m:Nat),listed.size=ops.length→listed.toList.count false=fuel→m≤pre.length→
   St c (Hs.getD m []) Z w→BO n l0 a Z→(∀j,j<pre.length→listed.getD j true=true→∀d,Ct ops j=some d→∃v,a.tmps[d]? =some v∧(Ck sp j).r.p Z v)→
   (∀j,j<pre.length→(Ck sp j).kd=2→(listed.getD j true=true↔j<m))→(∀j o,ops[j]? =some o→listed.getD j true=true→∀e∈Dd o,listed.getD e true=true)→
   (∀j,pre.length≤j→j<ops.length→listed.getD j true=false)→wpAny P .any ops.toArray Q fuel listed a w:=by
  have rdy:∀(listed:Array Bool),listed.size=ops.length→Region.ready .any ops.toArray listed=[]→∀j,j<ops.length→listed.getD j true=true:=by
   intro listed hsz hr j
   induction j using Nat.strongRecOn with
   | ind j ih=>
    intro hj
    cases hb:listed.getD j true with
    | true=>rfl
    | false=>
     have:j∈Region.ready .any ops.toArray listed:=mem_ready.2 ⟨hb,ops[j],by simp[hj],λe he hbn=>by
      have h1:=b1 j hj;rw[PS,PR hj] at h1;have hlt:e.on<j:=h1 e.on (by
       simp only[Dd,Qd,List.mem_map,List.mem_filter];exact⟨e,⟨by simpa using he,hbn⟩,rfl⟩)
      have:=ih e.on hlt (by omega);rw[Array.getD_eq_getD_getElem?] at this ⊢;rw[Array.getElem?_eq_getElem (by omega)] at this ⊢;simpa using this⟩
     rw[hr] at this;cases this
  have fin:∀(listed:Array Bool) (a:Act) (w:World) (Z:Fz) (m:Nat),listed.size=ops.length→m≤pre.length→St c (Hs.getD m []) Z w→BO n l0 a Z→(∀j,j<pre.length→listed.getD j true=true)→
    (∀j,j<pre.length→listed.getD j true=true→∀d,Ct ops j=some d→∃v,a.tmps[d]? =some v∧(Ck sp j).r.p Z v)→
    (∀j,j<pre.length→(Ck sp j).kd=2→(listed.getD j true=true↔j<m))→wpList P ops.toArray Q last a w:=by
   intro listed a w Z m hsz hmN hst hag hall hv hloud;refine h a w Z (HH hag (λj hj d hd=>hv j (by simpa using hj) (hall j (by simpa using hj)) d hd)) ?_;have:=hconst (pre.length-m) m (by omega) (λj h1 h2 h3=>by
    have:=(hloud j (by omega) h3).1 (hall j (by omega));omega)
   rw[show m+(pre.length-m)=pre.length from by omega] at this;rw[this];exact hst
  intro fuel
  induction fuel with
  | zero=>
   intro listed a w Z m hsz hcnt hmN hst hag hv hloud hcl hlast;have hall:∀j,j<ops.length→listed.getD j true=true:=λj hj=>by
    cases hb:listed.getD j true with
    | true=>rfl
    | false=>
     have:false∈listed.toList:=by
      rw[Array.getD_eq_getD_getElem?,Array.getElem?_eq_getElem (by omega)] at hb;simp at hb;rw[← hb];simp
     have:=List.count_pos_iff.2 this;omega
   have hl0':last=[]:=by
    cases last with
    | nil=>rfl
    | cons o r=>
     have hlt:pre.length<ops.length:=by rw[← hops];simp
     have:=hall pre.length hlt;rw[hlast pre.length (PW _) hlt] at this;cases this
   subst hl0';refine⟨?_,fin listed a w Z m hsz hmN hst hag (λj hj=>hall j (by omega)) hv hloud⟩
   cases hr:Region.ready .any ops.toArray listed with
   | nil=>rfl
   | cons i r=>
    have hi:i∈Region.ready .any ops.toArray listed:=by rw[hr];simp
    obtain⟨h1,o,ho,_⟩:=mem_ready.1 hi;rw[hall i (by have:=(Array.getElem?_eq_some_iff.1 ho).1;simpa using this)] at h1;cases h1
  | succ fuel ih=>
   intro listed a w Z m hsz hcnt hmN hst hag hv hloud hcl hlast;have clo:∀(j i:Nat),((Im ops []).getD j 0).testBit i=true→listed.getD j true=true→listed.getD i true=true:=
    DZ ops (λi=>listed.getD i true=true) ops [] (λt o ht e he hF=>hcl t o ht (by simpa using hF) e he) (λj i hb=>by simp at hb)
   refine⟨λhr=>?_,λi hi=>?_⟩
   ·have hall:=rdy listed hsz hr;have:listed.toList.count false=0:=by
     rw[List.count_eq_zero];intro hmem;obtain⟨k,hk⟩:=List.getElem?_of_mem hmem;have hkl:=(List.getElem?_eq_some_iff.1 hk).1;have:=hall k (by simpa[hsz] using hkl);rw[Array.getD_eq_getD_getElem?] at this;simp at hk this;rw[hk] at this;simp at this
    omega
   ·obtain⟨hun,o,ho,haft⟩:=mem_ready.1 hi;have ho':ops[i]? =some o:=by simpa using ho
    have hil:i<ops.length:=(List.getElem?_eq_some_iff.1 ho').1;have hbl:∀e∈Dd o,listed.getD e true=true:=λe he=>by
     simp only[Dd,List.mem_map,List.mem_filter] at he;obtain⟨x,⟨hx1,hx2⟩,rfl⟩:=he;have h3:=haft x (by simpa using hx1) hx2;rw[Array.getD_eq_getD_getElem?] at h3 ⊢
     cases hq:listed[x.on]? with
     | none=>rw[hq] at h3;cases h3
     | some b=>rw[hq] at h3;simpa using h3
    have hset:∀j,(listed.setIfInBounds i true).getD j true=true↔(j=i∨listed.getD j true=true):=λj=>by
     by_cases hj:i=j
     ·subst hj;have:i<listed.size:=by omega
      simp[this]
     ·rw[getD_set_ne true hj];constructor
      ·exact .inr
      ·rintro(h1 | h1)
       ·exact absurd h1.symm hj
       ·exact h1
    have hsz':(listed.setIfInBounds i true).size=ops.length:=by simpa using hsz
    have hcnt':(listed.setIfInBounds i true).toList.count false=fuel:=by
     have hlt:i<listed.size:=by omega
     have hfi:listed.toList[i]? =some false:=by
      rw[Array.getD_eq_getD_getElem?,Array.getElem?_eq_getElem hlt] at hun;simp at hun;simp[hlt,hun]
     rw[Array.toList_setIfInBounds];have h1:=List.count_set (a:=true) (b:=false) (l:=listed.toList) (i:=i) (by simpa using hlt);have h2:listed.toList[i]'(by simpa using hlt)=false:=by
      have:=List.getElem?_eq_some_iff.1 hfi;exact this.2
     rw[h1,h2,hcnt];rfl
    have hcl':∀j o,ops[j]? =some o→(listed.setIfInBounds i true).getD j true=true→∀e∈Dd o,(listed.setIfInBounds i true).getD e true=true:=λj o' hj hl e he=>by
     rw[hset] at hl ⊢;rcases hl with rfl | hl
     ·rw[ho'] at hj;simp at hj;subst hj;exact .inr (hbl e he)
     ·exact .inr (hcl j o' hj hl e he)
    unfold wpOp;have hoA:ops.toArray[i]? =some o:=ho;simp only[hoA]
    by_cases hiN:i<pre.length
    · -- one of those at the front
     have hpre:pre[i]? =some o:=by rw[← hget i hiN];exact ho'
     have h1:=hat i o hpre;rw[Qh] at h1;have hag':BO n (Bv ops sp (Ck sp i).deps l0) a Z:=HH hag (λj hj d hd=>by
      have h3:=b3 i hiN;rw[hdp i hiN] at h3;have h4:=h3 j hj;rw[PS,ho',Qd,List.contains_iff_mem] at h4;have hlj:=hbl j h4;have hji:j<i:=by
       have:=b1 i hil;rw[PS,ho',Qd] at this;exact this j h4
      exact hv j (by omega) hlj d hd)
     have hdst:∀d,o.dst=some d→(d<n∧d ∉ DP l0)∧∀j,j<pre.length→j≠i→Ct ops j≠some d:=λd hd=>by
      have h3:=b2 i hiN;have:Ct ops i=some d:=by simp[Ct,ho',hd]
      rw[this] at h3;simp only[PY,Bool.not_eq_true',Qj,List.mem_range,PQ] at h3;refine⟨⟨h3.1.1,λhmem=>by rw[← List.contains_iff_mem] at hmem;rw[hmem] at h3;cases h3.1.2⟩,λj hj hne he=>?_⟩;have:=h3.2 j hj;simp[hne,he] at this
     have after:∀(v:Value) (w':World) (Z':Fz) (m':Nat),m'≤pre.length→Fz.le Z Z'→(o.dst≠none→(Ck sp i).r.p Z' v)→St c (Hs.getD m' []) Z' w'→
       (∀j,j<pre.length→(Ck sp j).kd=2→((listed.setIfInBounds i true).getD j true=true↔j<m'))→wpAny P .any ops.toArray Q fuel (listed.setIfInBounds i true) (a.put o.dst v) w':=by
      intro v w' Z' m' hm' hz hp hst' hloud';have hput:∀k u,a.tmps[k]? =some u→o.dst≠some k→(a.put o.dst v).tmps[k]? =some u:=λk u hk hne=>by
       cases hd:o.dst with
       | none=>simpa[Act.put] using hk
       | some d=>
        simp only[Act.put,Array.getElem?_setIfInBounds];rw[Qm (λe=>hne (by rw[hd,e]))];exact hk
      refine ih _ _ _ Z' m' hsz' hcnt' hm' hst' ⟨?_,?_,λk r hk=>?_⟩ (λj hj hl d hd=>?_) hloud' hcl' (λj h1 h2=>?_)
      ·cases o.dst<;>simp[Act.put,hag.size]
      ·cases o.dst<;>simp[Act.put,hag.defers]
      ·obtain⟨u,hu,hpu⟩:=hag.tm k r hk;exact⟨u,hput k u hu (λe=>(hdst k e).1.2 (Ic hk)),r.mono hz hpu⟩
      ·by_cases hji:j=i
       ·subst hji;have hod:o.dst=some d:=by simpa[Ct,ho'] using hd
        refine⟨v,?_,hp (by simp[hod])⟩;have hdn:d<a.tmps.size:=by rw[hag.size];exact(hdst d hod).1.1
        simp[Act.put,hod,hdn]
       ·rw[hset] at hl;rcases hl with hl | hl
        ·exact absurd hl hji
        ·obtain⟨u,hu,hpu⟩:=hv j hj hl d hd;exact⟨u,hput d u hu (λe=>(hdst d e).2 j hj hji hd),(Ck sp j).r.mono hz hpu⟩
      ·rw[getD_set_ne true (by omega)];exact hlast j h1 h2
     have loudSame:(Ck sp i).kd≠2→∀j,j<pre.length→(Ck sp j).kd=2→((listed.setIfInBounds i true).getD j true=true↔j<m):=λhne j hj hk=>by
      rw[hset,← hloud j hj hk];constructor
      ·rintro(h1 | h1)
       ·subst h1;exact absurd hk hne
       ·exact h1
      ·exact .inr
     have level:(Ck sp i).kd≠0∧(Ck sp i).kd≠3→Hs.getD i []=Hs.getD m []∧∀j,j<pre.length→(Ck sp j).kd=2→j≠i→(listed.getD j true=true↔j<i):=λhne=>by
      have ord:∀j,j<pre.length→(Ck sp j).kd=2→j≠i→(listed.getD j true=true↔j<i):=λj hj hk hji=>by
       have h3:=b4 i hiN;rw[hkd i hiN,Bool.or_eq_true,Bool.or_eq_true,beq_iff_eq,beq_iff_eq] at h3;rcases h3 with(h3 | h3) | h3
       ·exact absurd h3 hne.1
       ·exact absurd h3 hne.2
       ·rw[Qj] at h3;have h4:=h3 j (by simpa using hj);rw[hkd j hj,hk] at h4;simp only[bne_self_eq_false,Qk,Bool.or_eq_true,beq_iff_eq,hji,false_or] at h4
        by_cases hlt:j<i
        ·rw[if_pos hlt] at h4;have:listed.getD j true=true:=by
          have hcl2:∀(k q:Nat),((Im ops []).getD k 0).testBit q=true→(k=i∨listed.getD k true=true)→(q=i∨listed.getD q true=true):=
           DZ ops (λk=>k=i∨listed.getD k true=true) ops [] (λt o' ht e he hF=>by
            rcases hF with hF | hF
            ·simp at hF;subst hF;rw[ho'] at ht;simp at ht;subst ht;exact .inr (hbl e he)
            ·exact .inr (hcl t o' ht (by simpa using hF) e he)) (λj i hb=>by simp at hb)
          rcases hcl2 i j h4 (.inl rfl) with h5 | h5
          ·exact absurd h5 hji
          ·exact h5
         exact⟨λ_=>hlt,λ_=>this⟩
        ·rw[Qm hlt] at h4;refine⟨λh5=>?_,λh5=>absurd h5 hlt⟩;have:=clo j i h4 h5;rw[this] at hun;cases hun
      refine⟨?_,ord⟩;rcases Nat.le_total m i with hmi | hmi
      ·have:=hconst (i-m) m (by omega) (λj h1 h2 h3=>by
        have h4:=(ord j (by omega) h3 (by omega)).2 (by omega);have:=(hloud j (by omega) h3).1 h4;omega)
       rw[show m+(i-m)=i from by omega] at this;exact this
      ·have:=hconst (m-i) i (by omega) (λj h1 h2 h3=>by
        have h4:=(hloud j (by omega) h3).2 (by omega)
        by_cases hji:j=i
        ·subst hji;rw[h4] at hun;cases hun
        ·have:=(ord j (by omega) h3 hji).1 h4;omega)
       rw[show i+(m-i)=m from by omega] at this;exact this.symm
     have step:∀H',CL P n c ops.toArray Q (Bv ops sp (Ck sp i).deps l0) (Hs.getD m []) o (Ck sp i).r H'→(∃m',m'≤pre.length∧H'=Hs.getD m' []∧∀j,j<pre.length→(Ck sp j).kd=2→((listed.setIfInBounds i true).getD j true=true↔j<m'))→
       (if Region.wanted o (yielded ops.toArray a.tmps) then o.wp P a w (wpAny P .any ops.toArray Q fuel (listed.setIfInBounds i true)) Q∨(o.asks P a w∧LetsOut Q) else wpAny P .any ops.toArray Q fuel (listed.setIfInBounds i true) (a.put o.dst undef) w):=λH' hok ⟨m',hm',hHm,hl'⟩=>by
      obtain⟨k1,k2⟩:=hok a w Z (wpAny P .any ops.toArray Q fuel (listed.setIfInBounds i true)) hag' hst (λv w' Z' hz hp hs=>after v w' Z' m' hm' hz (λ_=>hp) (by rw[← hHm];exact hs) hl')
      split
      ·rename_i hw';exact .inl (k1 hw')
      ·rename_i hw';exact k2 (by simpa using hw')
     have hk2:(Ck sp i).kd≤3:=by
      have:=b7 ((sp.map (·.kd)).getD i 0) (by
       rw[PS,PR (by simp;omega)];exact List.getElem_mem _)
      rw[hkd _ hiN] at this;exact this
     match hq:(Ck sp i).kd,h1 with
     | 0,h1=>exact step _ (h1.2 _) ⟨m,hmN,rfl,loudSame (by omega)⟩
     | 1,h1=>
      obtain⟨e1,e2⟩:=level ⟨by omega,by omega⟩;refine step _ (by rw[← e1];exact h1.2) ⟨m,hmN,e1,loudSame (by omega)⟩
     | 2,h1=>
      obtain⟨e1,e2⟩:=level ⟨by omega,by omega⟩;refine step _ (by rw[← e1];exact h1) ⟨i+1,by omega,rfl,λj hj hk=>?_⟩;rw[hset]
      by_cases hji:j=i
      ·subst hji;simp
      ·rw[e2 j hj hk hji];simp[hji];omega
     | 3,h1=>exact step _ (h1.2 _ (by
      rw[PS,PR (by omega)];exact List.getElem_mem _)) ⟨m,hmN,rfl,loudSame (by omega)⟩
     | q+4,_=>omega
    · -- the last one
     have hNi:i=pre.length:=by omega
     have hlast1:∃r,last=o::r:=by
      cases last with
      | nil=>rw[← hops] at hil;simp at hil;omega
      | cons o' r=>
       rw[← hops,hNi] at ho';simp at ho';exact⟨r,by rw[ho']⟩
     obtain⟨r,rfl⟩:=hlast1;have hr:r=[]:=by
      have:=b6;rw[← hops] at this;simp at this
      cases r with
      | nil=>rfl
      | cons _ _=>simp at this
     subst hr;have hall:∀j,j<pre.length→listed.getD j true=true:=λj hj=>by
      have hcl2:∀(k q:Nat),((Im ops []).getD k 0).testBit q=true→(k=i∨listed.getD k true=true)→(q=i∨listed.getD q true=true):=
       DZ ops (λk=>k=i∨listed.getD k true=true) ops [] (λt o' ht e he hF=>by
        rcases hF with hF | hF
        ·simp at hF;subst hF;rw[ho'] at ht;simp at ht;subst ht;exact .inr (hbl e he)
        ·exact .inr (hcl t o' ht (by simpa using hF) e he)) (λj i hb=>by simp at hb)
      have h5:=b5 i hil;simp only[Bool.or_eq_true,PQ,Qj,List.mem_range] at h5;rcases h5 with h5 | h5
      ·omega
      ·rcases hcl2 i j (h5 j hj) (.inl rfl) with h6 | h6
       ·omega
       ·exact h6
     have hf:=fin listed a w Z m hsz hmN hst hag hall hv hloud;have kk:∀a' w',Q .normal a' w'→wpAny P .any ops.toArray Q fuel (listed.setIfInBounds i true) a' w':=λa' w' hq=>by
      have hall':∀j,j<ops.length→(listed.setIfInBounds i true).getD j true=true:=λj hj=>by
       rw[hset]
       by_cases hji:j=i
       ·exact .inl hji
       ·refine .inr (hall j ?_);have:ops.length=pre.length+1:=by rw[← hops];simp
        omega
      have hnr:Region.ready .any ops.toArray (listed.setIfInBounds i true)=[]:=by
       cases hr:Region.ready .any ops.toArray (listed.setIfInBounds i true) with
       | nil=>rfl
       | cons k r=>
        have hk:k∈Region.ready .any ops.toArray (listed.setIfInBounds i true):=by rw[hr];simp
        obtain⟨h1,o2,ho2,_⟩:=mem_ready.1 hk;rw[hall' k (by have:=(Array.getElem?_eq_some_iff.1 ho2).1;simpa using this)] at h1;cases h1
      cases fuel with
      | zero=>exact⟨hnr,hq⟩
      | succ f=>exact⟨λ_=>hq,λk hk=>by rw[hnr] at hk;cases hk⟩
     simp only[wpList] at hf
     split
     ·rename_i hw'
      rw[if_pos hw'] at hf;exact hf.imp (λh=>Oper.wp_mono kk h) (λh=>h)
     ·rename_i hw'
      rw[Qm hw'] at hf;exact kk _ _ hf
 have e0:∀j,j<ops.length→(Array.replicate ops.length false).getD j true=false:=λj hj=>by simp[hj]
 have hsz0:ops.toArray.size=ops.length:=by simp
 rw[hsz0];refine main ops.length (Array.replicate ops.length false) a _ Z 0 (by simp) (by simp) (Qw _) (by rw[hH];exact hw.drawn _) (ha.subL hl0) (λj hj hl=>?_) (λj hj _=>?_) (λj o hj hl=>?_) (λj _ h2=>e0 j h2)
 ·rw[e0 j (by omega)] at hl;cases hl
 ·rw[e0 j (by omega)];simp
 ·rw[e0 j (List.getElem?_eq_some_iff.1 hj).1] at hl;cases hl
section
variable {ops : List Oper} {sp : List Sp} {l0 l : Fr} {H H' : List Ent} {Hs All : List (List Ent)} {i : Nat} {o : Oper} {rest all : List Oper}
theorem Cs (hk:(Ck sp i).kd=0)(h:∀H,CL P n c opsA Q (Bv all sp (Ck sp i).deps l0) H o (Ck sp i).r H)(hr:HI P n c opsA Q all sp l0 All (i+1) rest (H::Hs)):HI P n c opsA Q all sp l0 All i (o::rest) (H::H::Hs):=by
 refine⟨?_,hr⟩;rw[hk];exact⟨rfl,h⟩
theorem Lo (hk:(Ck sp i).kd=1)(h:CL P n c opsA Q (Bv all sp (Ck sp i).deps l0) H o (Ck sp i).r H)(hr:HI P n c opsA Q all sp l0 All (i+1) rest (H::Hs)):HI P n c opsA Q all sp l0 All i (o::rest) (H::H::Hs):=by
 refine⟨?_,hr⟩;rw[hk];exact⟨rfl,h⟩
theorem HR (hk:(Ck sp i).kd=2)(h:CL P n c opsA Q (Bv all sp (Ck sp i).deps l0) H o (Ck sp i).r H')(hr:HI P n c opsA Q all sp l0 All (i+1) rest (H'::Hs)):HI P n c opsA Q all sp l0 All i (o::rest) (H::H'::Hs):=by
 refine⟨?_,hr⟩;rw[hk];exact h
theorem CZ:HI P n c opsA Q all sp l0 All i [] [H]:=trivial
theorem all_cons {p:List Ent→Prop}{k:Nat}{A:List Ent}{l:List (Nat×List Ent)}(h:p A)(hr:∀H∈rle l,p H):∀H∈rle ((k,A)::l),p H:=λH hH=>by
 rcases List.mem_append.1 hH with h' | h'
 ·rw[List.eq_of_mem_replicate h'];exact h
 ·exact hr H h'
def JC:List Oper→List Sp→Fr→Fr
 | o::os,s::sp,l=>match o.dst with
  | some d=>(d,s.r)::JC os sp l
  | none=>JC os sp l
 | _,_,l=>l
theorem JB {all:List Oper}{sp:List Sp}{l0:Fr}:∀(os:List Oper) (ss:List Sp) (k:Nat),os=all.drop k→ss=sp.drop k→ss.length=os.length→Bv all sp (List.range' k os.length) l0=JC os ss l0
 | [],_,_,_,_,_=>by cases ‹List Sp›<;>rfl
 | o::os,[],_,_,_,h=>by simp at h
 | o::os,s::ss,k,ho,hs,h=>by
  have e1:all[k]? =some o:=by
   have:=congrArg (·[0]?) ho;simp at this;exact this.symm
  have e2:sp[k]? =some s:=by
   have:=congrArg (·[0]?) hs;simp at this;exact this.symm
  have ih:=JB (l0:=l0) os ss (k+1) (by have:=congrArg List.tail ho;simpa using this) (by have:=congrArg List.tail hs;simpa using this) (by simpa using h);simp only[Qg,List.range'_succ];unfold Bv JC;rw[ih];simp only[Ct,Ck,e1,e2,Option.bind_some,PS,Qd]
  cases o.dst<;>rfl
structure Kz (ks:List Nat) (os:List Oper) (sp:List Sp) (l0 l1:Fr):Prop where
 go:Kp ks (JC os sp l0) l1
theorem Pd {ks:List Nat}{d:Nat}{r:Rp}{ty:TypeId}{pos:String}{af:Array Edge}{op:Op}{g:Option (Nat×Bool)}{os:List Oper}{ds:List Nat}{kd:Nat}{sp:List Sp}{l0 l1:Fr}(h:ks.contains d=true)(t:Kz ks os sp l0 l1) :
  Kz ks ({ dst:=some d,op:=op,type:=ty,pos:=pos,after:=af,guard:=g }::os) (⟨ds,r,kd⟩::sp) l0 ((d,r)::l1):=⟨J0 h t.go⟩
theorem Pf {ks:List Nat}{d:Nat}{r:Rp}{ty:TypeId}{pos:String}{af:Array Edge}{op:Op}{g:Option (Nat×Bool)}{os:List Oper}{ds:List Nat}{kd:Nat}{sp:List Sp}{l0 l1:Fr}(h:ks.contains d=false)(t:Kz ks os sp l0 l1) :
  Kz ks ({ dst:=some d,op:=op,type:=ty,pos:=pos,after:=af,guard:=g }::os) (⟨ds,r,kd⟩::sp) l0 l1:=⟨Ko h t.go⟩
theorem Pe {ks:List Nat}{ty:TypeId}{pos:String}{af:Array Edge}{op:Op}{g:Option (Nat×Bool)}{os:List Oper}{s:Sp}{sp:List Sp}{l0 l1:Fr}(t:Kz ks os sp l0 l1) :
  Kz ks ({ dst:=none,op:=op,type:=ty,pos:=pos,after:=af,guard:=g }::os) (s::sp) l0 l1:=⟨t.go⟩
theorem Pg {ks:List Nat}{l0 l1:Fr}(t:Kp ks l0 l1):Kz ks [] [] l0 l1:=⟨t⟩
theorem E0 {id:Nat}{os:List Oper}{l0 l1:Fr}(ks0:List Nat)(sp:List Sp)(Hs:List (List Ent))(ks:List Nat){H1:List Ent}
  (hob:HI P n c os.toArray Q os sp l0 Hs 0 os Hs) (h:WK n c (Q .normal) l1 H1)
  (h0:Kp ks0 l l0:=by repeat (first | exact Me | (apply J0;rfl) | (apply Ko;rfl)))
  (hz:Kz ks os sp l0 l1:=by repeat (first | (apply Pd;rfl) | (apply Pf;rfl) | apply Pe | apply Pg | exact Me | (apply J0;rfl) | (apply Ko;rfl)))
  (hm:P.follows .mixedOrders=true:=by kernel_rfl) (hB:Ps n os os.length (DP l0) (sp.map (·.deps)) (sp.map (·.kd))=true:=by kernel_rfl)
  (hsp:sp.length=os.length:=by rfl) (hH:Hs.getD 0 []=H:=by rfl) (hH1:Hs.getD os.length []=H1:=by rfl):WC P n c (.region id os.toArray true) Q l H:=by
 have hk:WK n c (Q .normal) (Bv os sp (List.range os.length) l0) (Hs.getD os.length []):=λa w Z ha hw=>h a w Z (ha.subL (by
   have e:=JB (all:=os) (sp:=sp) (l0:=l0) os sp 0 (by simp) (by simp) hsp;rw[List.range_eq_range',e];exact hz.go.one)) (by rw[← hH1];exact hw)
 have:=JI (Q:=Q) (id:=id) (pre:=os) (last:=[]) sp Hs (l0:=l0) (l:=l) (H:=H) hm (by simpa using hB) h0.one hsp hH (by simpa using hob) (A1 (by simpa using hk));simpa using this
theorem D3 {id:Nat}{os:List Oper}{l0 l1:Fr}(ks0:List Nat)(sp:List Sp)(ks:List Nat)
  (hob:HI P n c os.toArray Q os sp l0 (List.replicate (os.length+1) H) 0 os (List.replicate (os.length+1) H)) (h:WK n c (Q .normal) l1 H)
  (h0:Kp ks0 l l0:=by repeat (first | exact Me | (apply J0;rfl) | (apply Ko;rfl)))
  (hz:Kz ks os sp l0 l1:=by repeat (first | (apply Pd;rfl) | (apply Pf;rfl) | apply Pe | apply Pg | exact Me | (apply J0;rfl) | (apply Ko;rfl)))
  (hm:P.follows .mixedOrders=true:=by kernel_rfl) (hB:Ps n os os.length (DP l0) (sp.map (·.deps)) (sp.map (·.kd))=true:=by kernel_rfl)
  (hsp:sp.length=os.length:=by rfl):WC P n c (.region id os.toArray true) Q l H:=
 E0 ks0 sp _ ks hob h h0 hz hm hB hsp (by simp) (by simp[PS,List.getElem?_replicate])
end
section
variable {l : Fr} {H H' : List Ent} {d : Nat} {op : Op} {ty : TypeId} {pos : String} {af : Array Edge} {r : Rp}
theorem GD (hr:Bd P n c l H { dst:=some d,op:=op,type:=ty,pos:=pos,after:=af,guard:=none } r):CL P n c opsA Q l H { dst:=some d,op:=op,type:=ty,pos:=pos,after:=af,guard:=none } r H:=λa w Z K ha hw hK=>
 ⟨λ_=>by
  obtain⟨v,hv,he⟩:=hr a w Z ha hw;unfold Oper.wp;rw[he];exact hK v w Z (Fz.le.refl _) hv hw,λh=>by simp[Region.wanted] at h⟩
theorem DH {d:Option Nat}{j dj:Nat}{want b:Bool}(hj:Cd opsA j=some dj)(hv:look l dj=some (rB b))(hb:b=want)
  (h:CL P n c opsA Q l H { dst:=d,op:=op,type:=ty,pos:=pos,after:=af,guard:=none } r H'):CL P n c opsA Q l H { dst:=d,op:=op,type:=ty,pos:=pos,after:=af,guard:=some (j,want) } r H':=λa w Z K ha hw hK=>by
 obtain⟨h1,_⟩:=h a w Z K ha hw hK;have hy:=BT ha hj hv;subst hb;refine⟨λ_=>h1 (by simp[Region.wanted]),λh2=>?_⟩;simp[Region.wanted,hy] at h2
theorem D7 {d:Option Nat}{j dj:Nat}{want b:Bool}(hj:Cd opsA j=some dj)(hv:look l dj=some (rB b))(hb:b = !want):CL P n c opsA Q l H { dst:=d,op:=op,type:=ty,pos:=pos,after:=af,guard:=some (j,want) } (rv undef) H:=λa w Z K ha hw hK=>by
 have hy:=BT ha hj hv;subst hb;refine⟨λh2=>?_,λ_=>hK undef w Z (Fz.le.refl _) rfl hw⟩;simp[Region.wanted,hy] at h2
theorem MM {d:Option Nat}{j dj:Nat}{want:Bool}(hj:Cd opsA j=some dj)(hv:look l dj=some (rv undef)):CL P n c opsA Q l H { dst:=d,op:=op,type:=ty,pos:=pos,after:=af,guard:=some (j,want) } (rv undef) H:=λa w Z K ha hw hK=>by
 have hy:=De ha hj hv;refine⟨λh2=>?_,λ_=>hK undef w Z (Fz.le.refl _) rfl hw⟩;simp[Region.wanted,hy] at h2
theorem oq {all:List Oper}{sp:List Sp}{l0:Fr}{i:Nat}{rest:List Oper}{Hs All:List (List Ent)}{c:Cx}
  (hr:∀{H},Bd P n c (Bv all sp (Ck sp i).deps l0) H { dst:=some d,op:=op,type:=ty,pos:=pos,after:=af,guard:=none } (Ck sp i).r)
  (h:HI P n c opsA Q all sp l0 All (i+1) rest (H::Hs)) (hk:(Ck sp i).kd=0:=by rfl):HI P n c opsA Q all sp l0 All i ({ dst:=some d,op:=op,type:=ty,pos:=pos,after:=af,guard:=none }::rest) (H::H::Hs):=Cs hk (λ_=>GD hr) h
theorem of {all:List Oper}{sp:List Sp}{l0:Fr}{i:Nat}{rest:List Oper}{Hs All:List (List Ent)}{c:Cx}
  (hr:Bd P n c (Bv all sp (Ck sp i).deps l0) H { dst:=some d,op:=op,type:=ty,pos:=pos,after:=af,guard:=none } (Ck sp i).r)
  (h:HI P n c opsA Q all sp l0 All (i+1) rest (H::Hs)) (hk:(Ck sp i).kd=1:=by rfl):HI P n c opsA Q all sp l0 All i ({ dst:=some d,op:=op,type:=ty,pos:=pos,after:=af,guard:=none }::rest) (H::H::Hs):=Lo hk (GD hr) h
theorem on {d:Option Nat}{all:List Oper}{sp:List Sp}{l0:Fr}{i:Nat}{rest:List Oper}{Hs All:List (List Ent)}{c:Cx}{j dj:Nat}{want b:Bool}(hb:b=want)
  (h:HI P n c opsA Q all sp l0 All i ({ dst:=d,op:=op,type:=ty,pos:=pos,after:=af,guard:=none }::rest) (H::H'::Hs))
  (hj:Cd opsA j=some dj:=by rfl) (hv:look (Bv all sp (Ck sp i).deps l0) dj=some (rB b):=by rfl):HI P n c opsA Q all sp l0 All i ({ dst:=d,op:=op,type:=ty,pos:=pos,after:=af,guard:=some (j,want) }::rest) (H::H'::Hs):=by
 obtain⟨h1,h2⟩:=h;refine⟨?_,h2⟩;revert h1
 split
 ·exact λh1=>⟨h1.1,λH=>DH hj hv hb (h1.2 H)⟩
 ·exact λh1=>⟨h1.1,DH hj hv hb h1.2⟩
 ·exact λh1=>⟨h1.1,λH hH=>DH hj hv hb (h1.2 H hH)⟩
 ·exact λh1=>DH hj hv hb h1
theorem oz {d:Option Nat}{all:List Oper}{sp:List Sp}{l0:Fr}{i:Nat}{rest:List Oper}{Hs All:List (List Ent)}{c:Cx}{j dj:Nat}{want b:Bool}(hb:b = !want)(h:HI P n c opsA Q all sp l0 All (i+1) rest (H::Hs))(hk:(Ck sp i).kd=0:=by rfl)(hr:rv undef=(Ck sp i).r:=by rfl)
  (hj:Cd opsA j=some dj:=by rfl) (hv:look (Bv all sp (Ck sp i).deps l0) dj=some (rB b):=by rfl):HI P n c opsA Q all sp l0 All i ({ dst:=d,op:=op,type:=ty,pos:=pos,after:=af,guard:=some (j,want) }::rest) (H::H::Hs):=
 Cs hk (λ_=>hr▸D7 hj hv hb) h
theorem ou {d:Option Nat}{all:List Oper}{sp:List Sp}{l0:Fr}{i:Nat}{rest:List Oper}{Hs All:List (List Ent)}{c:Cx}{j dj:Nat}{want:Bool}(h:HI P n c opsA Q all sp l0 All (i+1) rest (H::Hs))(hk:(Ck sp i).kd=0:=by rfl)(hr:rv undef=(Ck sp i).r:=by rfl)
  (hj:Cd opsA j=some dj:=by rfl) (hv:look (Bv all sp (Ck sp i).deps l0) dj=some (rv undef):=by rfl):HI P n c opsA Q all sp l0 All i ({ dst:=d,op:=op,type:=ty,pos:=pos,after:=af,guard:=some (j,want) }::rest) (H::H::Hs):=
 Cs hk (λ_=>hr▸MM hj hv) h
theorem Iz {α:Type}{t e sz:Nat}{ys:List α}{enc:α→List Rp}{len:Nat}{parts:Array (Nat×Operand)}{xs:List Operand}{rs:List Rp}{css:List (List Rp)}{zz:Value}(ht:P.underlying t=some (.slice e))(hz:∀w,(sizeOf e).run P w = .ok sz w)(hzv:∀w,(zeroValue e).run P w = .ok zz w)
  (hparts:parts.toList=(xs.zipIdx 0).map λp=>(p.2,p.1)) (hlen:ys.length=len) (hv:IP l xs=some rs) (hc:Iq H rs css) (hcs:css=ys.map enc) (henc:∀z,(enc z).length=sz) (hsz:Nat.blt 0 sz=true) (hle:Nat.ble (len*sz) 16777216=true):CL P n c opsA Q l H { dst:=some d,op:=.buildSlice t len parts,type:=ty,pos:=pos,after:=af,guard:=none } (AH sz (ys.map enc)) H:=λa w Z K ha hw hK=>
 ⟨λ_=>by
  have hall:=El ha hv;obtain⟨h1,h2,h3⟩:=hc.all hw hall;have hsz':0<sz:=by simpa using hsz
  have hle' : ¬ 16777216<len*sz:=by simpa using hle
  have hxl:(xs.map a.eval).length=len:=by rw[← h2,hcs,PT,hlen]
  have hcell:∀v∈xs.map a.eval,v.cells.size=sz:=λv hv'=>by
   obtain⟨i,hi⟩:=List.getElem?_of_mem hv';have hil:=(List.getElem?_eq_some_iff.1 hi).1;have hil2:i<css.length:=by omega
   rw[h3 i css[i] v (PR hil2) hi];have:css[i]∈ys.map enc:=by rw[← hcs];exact List.getElem_mem hil2
   obtain⟨z,_,hz'⟩:=List.mem_map.1 this;rw[← hz'];exact henc z
  have hflen:((xs.map a.eval).flatMap λv=>v.cells.toList).length=len*sz:=by
   rw[h1.length,DX (sz:=sz) (λc hc'=>by rw[hcs] at hc';obtain⟨z,_,hz'⟩:=List.mem_map.1 hc';rw[← hz'];exact henc z),hcs,PT,hlen]
  have hpe:(parts.map λ(i,x)=>(i,a.eval x)).toList=((xs.map a.eval).zipIdx 0).map λp=>(p.2,p.1):=by
   rw[Array.toList_map,hparts,List.zipIdx_map,Qt,Qt];rfl
  have hrun:(Instr.buildSlice t len (parts.map λ(i,x)=>(i,a.eval x))).run P w = .ok (.slice (some ⟨w.heap.size,0,none⟩) len len) (w.alloc (.cells ((xs.map a.eval).flatMap λv=>v.cells.toList).toArray e)):=by
   refine M9 ht hz hzv hle w ?_;rw[hpe]
   by_cases h0:len*sz=0
   ·have:len=0:=by
     rcases Nat.mul_eq_zero.1 h0 with h | h
     ·exact h
     ·omega
    subst this;have hx0:xs=[]:=by simpa using Qb (by simpa using hxl)
    subst hx0;simp[Instr.fill]
   ·simp only[h0,if_false];exact Great.fill_whole hsz' (xs.map a.eval) _ hcell (by rw[hxl];simp)
  have hal:St c (.row (.slice (some ⟨w.heap.size,0,none⟩) len len) e sz (ys.map enc)::H) Z (w.alloc (.cells ((xs.map a.eval).flatMap λv=>v.cells.toList).toArray e)):=by
   refine hw.alloc _ (e:=.row (.slice (some ⟨w.heap.size,0,none⟩) len len) e sz (ys.map enc)) ⟨?_,(xs.map a.eval).flatMap (λv=>v.cells.toList),⟨?_,.inr ⟨w.heap.size,len,_,?_,Qw _,heap_alloc_new w _,?_,?_,?_,?_⟩⟩,?_⟩ (by simp[Ent.foot,Value.ownBlock])
   ·intro cl hcl;obtain⟨z,_,hz'⟩:=List.mem_map.1 hcl;rw[← hz'];exact henc z
   ·rw[hflen,PT,hlen]
   ·rw[PT,hlen]
   ·rw[PT,hlen];exact PW _
   ·have:len≤len*sz:=Nat.le_mul_of_pos_right _ hsz';simp only[maxLen];omega
   ·simpa using hflen
   ·rw[PT,hlen,← hflen];exact List.take_length
   ·rw[← hcs];exact h1
  obtain⟨Z',hz',hst,hsl⟩:=hal.freeze (i:=0) rfl;unfold Oper.wp;rw[show(execOp a.eval { dst:=some d,op:=.buildSlice t len parts,type:=ty,pos:=pos,after:=af,guard:=none }).run P w = .ok (.value (.slice (some ⟨w.heap.size,0,none⟩) len len)) (w.alloc (.cells ((xs.map a.eval).flatMap λv=>v.cells.toList).toArray e)) from by simp[execOp,hrun]];exact hK _ _ Z' hz' hsl hst,λh=>by simp[Region.wanted] at h⟩
theorem MN {f:FuncId}{args:List Operand}{ats:Array TypeId}{rs:List Rp}{r r':Rp}(hcall:∀(as1:Array Value) (w:World),(callFunc f as1).run P w = .ok (.enter f as1) w)(hv:IP l args=some rs)
  (hc:J9 P c.E f rs r') (hr:r'=r):CL P n c opsA Q l H { dst:=some d,op:=.call { callee:=.value (.func f),args:=args.toArray,argTypes:=ats },type:=ty,pos:=pos,after:=af,guard:=none } r H:=λa w Z K ha hw hK=>
 ⟨λ_=>by
  unfold Oper.wp;rw[Ed rfl hcall w];refine(hc w Z _ (El ha hv) (St.enter (Hin:=[]) (Hr:=H) hw)).mono ?_;rintro e w' ⟨r2,v,Ho,Z',rfl,⟨rfl,rfl⟩,hr2,hs⟩;subst hr;exact hK v w' Z' hs.le hr2 (by simpa using hw.call0 hs),λh=>by simp[Region.wanted] at h⟩
def OM (P:Program)(n:Nat)(c:Cx)(l:Fr)(H:List Ent)(o:Oper)(H':List Ent):Prop:=∀a w Z,BO n l a Z→St c H Z w→∃w',(execOp a.eval o).run P w = .ok .skip w'∧St c H' Z w'
theorem JU (hr:OM P n c l H { dst:=none,op:=op,type:=ty,pos:=pos,after:=af,guard:=none } H'):CL P n c opsA Q l H { dst:=none,op:=op,type:=ty,pos:=pos,after:=af,guard:=none } (rv undef) H':=λa w Z K ha hw hK=>
 ⟨λ_=>by
  obtain⟨w',he,hs⟩:=hr a w Z ha hw;unfold Oper.wp;rw[he];exact hK undef w' Z (Fz.le.refl _) rfl hs,λh=>by simp[Region.wanted] at h⟩
end
section
variable {ops : Array Oper} {rest : List Oper} {l : Fr} {H H' : List Ent} {d : Nat} {d' : Option Nat} {x y : Operand} {ty t t' e : TypeId} {pos : String} {af : Array Edge} {g : Option (Nat × Bool)} {v u : Value} {r : Rp} {sz : Nat}
theorem IV {i b off:Nat}{cs:List Rp}(hag:∀w,(sizeOf t).run P w = .ok 1 w)(hx:ev l x=some (rv (.pointer (some ⟨b,off,none⟩))))(hy:ev l y=some r)(hv:Lc H r)
  (hi:H[i]? =some (.blk b cs e)) (hlt:Nat.blt off cs.length=true) {cs':List Rp} (hcs:cs.set off r=cs') (hH:H.set i (.blk b cs' e)=H'):OM P n c l H { dst:=none,op:=.store t x y,type:=ty,pos:=pos,after:=af,guard:=none } H':=λa w Z ha hw=>by
  obtain⟨us,hb,h2⟩:=hw.ent hi;have hr:=ha.ev hy;have hone:=hv c Z w _ hw hr;have hlen:=h2.length;have hlt':off<us.length:=by rw[hlen];simpa using hlt
  have h1:=run_storeCells_at P b off e [a.eval y] 0 us.toArray w hb (by simp;omega) (by simpa using hone);have hcv:=Bg hone;have h3:us.take off++[a.eval y]++us.drop (off+1)=us.set off (a.eval y):=by
   simp[List.set_eq_take_append_cons_drop,hlt']
  simp only[Nat.add_zero,Qg,List.length_nil,Qh] at h1;rw[h3] at h1;refine⟨w.setRow b (us.set off (a.eval y)).toArray,?_,?_⟩
  ·simp[execOp,ha.eval hx,Instr.storeAt,Instr.sureAddr,storeVar,hag,hcv,h1]
  ·subst hH;subst hcs;refine hw.set hi rfl rfl rfl (by simp[World.setRow]) (λk _ hk=>?_) ⟨us.set off (a.eval y),setRow_heap w b _ _ e (0,0) hb,h2.set off hr⟩ (by simp[Ent.foot]);simp only[Ent.foot,PV] at hk;simp only[World.setRow,Array.getElem?_modify];rw[Qm (λe=>hk e.symm)]
theorem Ca {i b off:Nat}{cs rs:List Rp}(hsz:∀w,(sizeOf t).run P w = .ok sz w)(hx:ev l x=some (rv (.pointer (some ⟨b,off,none⟩))))(hy:ev l y=some (AT rs))
  (hl:rs.length=sz) (hv:AV H rs) (hi:H[i]? =some (.blk b cs e)) (hlt:Nat.ble (off+sz) cs.length=true) {cs':List Rp}
  (hcs:cs.take off++rs++cs.drop (off+sz)=cs') (hH:H.set i (.blk b cs' e)=H'):OM P n c l H { dst:=none,op:=.store t x y,type:=ty,pos:=pos,after:=af,guard:=none } H':=λa w Z ha hw=>by
  obtain⟨us,hb,h2⟩:=hw.ent hi;obtain⟨vs,e1,h4⟩:=ha.ev hy;have hlen:=h2.length;have hvl:=h4.length;have hlt':off+sz≤us.length:=by rw[hlen];simpa using hlt
  have h1:=run_storeCells_at P b off e vs 0 us.toArray w hb (by simp;omega) (λv hv'=>hv.at hw h4 v hv');simp only[Nat.add_zero] at h1;refine⟨w.setRow b (us.take off++vs++us.drop (off+sz)).toArray,?_,?_⟩
  ·have h5:vs.length=sz:=by omega
   rw[h5] at h1;simp only[List.append_assoc] at h1 ⊢;simp[execOp,ha.eval hx,e1,Instr.storeAt,Instr.sureAddr,storeVar,hsz,Value.cells,h5,h1]
  ·subst hH;subst hcs;refine hw.set hi rfl rfl rfl (by simp[World.setRow]) (λk _ hk=>?_) ⟨us.take off++vs++us.drop (off+sz),setRow_heap w b _ _ e (0,0) hb,((h2.take off).append h4).append (h2.drop (off+sz))⟩ (by simp[Ent.foot]);simp only[Ent.foot,PV] at hk;simp only[World.setRow,Array.getElem?_modify];rw[Qm (λe=>hk e.symm)]
end
end
theorem IA (l:List UInt8):((Ml l).map GP).flatten=(l.map λc=>Value.int .u8 c.toNat).map rv:=by
 induction l with
 | nil=>rfl
 | cons c r ih=>simp only[Ml,Qr,List.flatten_cons] at ih ⊢;rw[ih];rfl
theorem Lh (l:List UInt8):(Ml l).length=l.length:=by simp[Ml]
section
variable {P : Program} {n : Nat} {c : Cx} {ops : Array Oper} {Q : Exit → Act → World → Prop} {rest : List Oper} {l : Fr} {H H' : List Ent} {d : Nat} {d' : Option Nat} {x y z3 : Operand} {ty t t' e : TypeId} {pos : String} {af : Array Edge} {g : Option (Nat × Bool)} {v u : Value} {r : Rp} {sz : Nat} {K : Act → World → Prop}
theorem Fn.bld {E:Fz→Prop}{f:FuncId}{args:List Rp}{T te:TypeId}{b:Nat}{v:Value}{s s':List UInt8}{res:Rp}
  (h:∀p,(p = .pointer none∨p = .pointer (some ⟨b,0,none⟩))→Fn P E f args [.blk b [rv p,rv v] T,.row v te 1 ((Ml s).map GP)] (λR H=>∃w0:Value,R=res∧H=[.blk b [rv (.pointer (some ⟨b,0,none⟩)),rv w0] T,.row w0 te 1 ((Ml s').map GP)])) :
  Fn P E f args [.bld T te b v s] (λR H=>∃w0:Value,R=res∧H=[.bld T te b w0 s']):=λw Z vs hv hs=>by
 obtain⟨p,hp,h1,h2,h3⟩:=hs.has _ (List.mem_singleton.2 rfl);have hfoot:[Ent.bld T te b v s].flatMap Ent.foot=[Ent.blk b [rv p,rv v] T,Ent.row v te 1 ((Ml s).map GP)].flatMap Ent.foot:=by simp[Ent.foot]
 have hs':St ⟨w,Z,[Ent.blk b [rv p,rv v] T,Ent.row v te 1 ((Ml s).map GP)].flatMap Ent.foot,E,[]⟩ [Ent.blk b [rv p,rv v] T,Ent.row v te 1 ((Ml s).map GP)] Z w:=by
  refine⟨rfl,rfl,rfl,PW _,λ_ _ _=>rfl,?_,λe he k hk=>.inr (List.mem_flatMap.2 ⟨e,he,hk⟩),?_,hs.frz,Fz.le.refl _,λ_ _ e=>.inl e,λe he k hk=>?_,hs.env,hs.emono,GR.none rfl⟩
  ·intro e he;simp only[Qq,List.not_mem_nil,or_false] at he;rcases he with rfl | rfl
   ·exact⟨[p,v],h1,rfl,rfl,trivial⟩
   ·refine⟨λcl hcl=>by obtain⟨z,_,rfl⟩:=List.mem_map.1 hcl;rfl,_,by simpa[Lh] using h2,?_⟩;rw[IA];exact AM.rvs Z _
  ·refine List.pairwise_cons.2 ⟨λe he k hk hk'=>?_,List.pairwise_singleton ..⟩;simp only[PV] at he;subst he;simp only[Ent.foot,PV] at hk;subst hk;simp only[Ent.foot,Option.mem_toList] at hk';exact h3 hk'
  ·have hmem:k∈[Ent.bld T te b v s].flatMap Ent.foot:=by rw[hfoot];exact List.mem_flatMap.2 ⟨e,he,hk⟩
   obtain⟨e',he',hk'⟩:=List.mem_flatMap.1 hmem;exact hs.zdis e' he' k hk'
 rw[hfoot] at hs ⊢;refine(h p hp w Z vs hv hs').mono λe w' ⟨R,vv,H,Z',he,⟨w0,hR,hH⟩,hpR,ht⟩=>⟨R,vv,[.bld T te b w0 s'],Z',he,⟨w0,hR,rfl⟩,hpR,?_⟩
 subst hH;obtain⟨us,k1,k2⟩:=ht.has (.blk b [rv (.pointer (some ⟨b,0,none⟩)),rv w0] T) (by simp);obtain⟨k3,ws,k4,k5⟩:=ht.has (.row w0 te 1 ((Ml s').map GP)) (by simp);have e1:=AM.eq_rv (us:=[.pointer (some ⟨b,0,none⟩),w0]) k2;subst e1;rw[IA] at k5;have e2:=AM.eq_rv k5;subst e2;have hd:=List.pairwise_cons.1 ht.dis;have hne:w0.ownBlock≠some b:=λhb=>hd.1 _ (List.mem_singleton.2 rfl) b (by simp[Ent.foot]) (by simp[Ent.foot,hb]);refine { ht with has:=?_,own:=?_,dis:=List.pairwise_singleton ..,zdis:=?_,gst:=⟨by simp[Ent.gk],by simp[Ent.gk],List.pairwise_singleton ..,ht.gst.new,by simp[Ent.gk]⟩ }
 ·intro e' he';simp only[PV] at he';subst he';exact⟨_,.inr rfl,k1,by simpa[Lh] using k4,hne⟩
 ·intro e' he' k hk;simp only[PV] at he';subst he';simp only[Ent.foot,Qq] at hk;rcases hk with rfl | hk
  ·exact ht.own (.blk k [rv (.pointer (some ⟨k,0,none⟩)),rv w0] T) (by simp) k (by simp[Ent.foot])
  ·exact ht.own (.row w0 te 1 ((Ml s').map GP)) (by simp) k hk
 ·intro e' he' k hk;simp only[PV] at he';subst he';simp only[Ent.foot,Qq] at hk;rcases hk with rfl | hk
  ·exact ht.zdis (.blk k [rv (.pointer (some ⟨k,0,none⟩)),rv w0] T) (by simp) k (by simp[Ent.foot])
  ·exact ht.zdis (.row w0 te 1 ((Ml s').map GP)) (by simp) k hk
theorem IF {p:Addr}(hu:∃e',P.underlying t=some (.pointer e'))(hx:ev l x=some (rv (.pointer (some p)))):Bd P n c l H { dst:=d',op:=.binOp .neq t x (.const (.pointer none)) t',type:=ty,pos:=pos,after:=af,guard:=g } (rB true):=λa w Z ha _=>CV<|by
 obtain⟨e',hu⟩:=hu;have h1:∀dd:Nat,(Op.equalIn (dd+1) t (.pointer (some p)) (.pointer none)).run P w = .ok false w:=λdd=>by simp[Op.equalIn,run_underlying hu]
 have h2:(Op.equal t (.pointer (some p)) (.pointer none)).run P w = .ok false w:=h1 9999;have h3:(eqGuard .neq t x (.const (.pointer none)) (.pointer (some p)) (.pointer none)).run P w = .ok () w:=by unfold eqGuard;split<;>simp
 have hy:a.eval (.const (.pointer none)) = .pointer none:=rfl;simp only[execOp,ha.eval hx,hy,Sem.run_bind,h3,Result.andThen_ok,binOp,h2,Sem.run_pure];rfl
theorem JV (hu:∃e',P.underlying t=some (.pointer e'))(hx:ev l x=some (rv (.pointer none))):Bd P n c l H { dst:=d',op:=.binOp .neq t x (.const (.pointer none)) t',type:=ty,pos:=pos,after:=af,guard:=g } (rB false):=λa w Z ha _=>CV<|by
 obtain⟨e',hu⟩:=hu;have h1:∀dd:Nat,(Op.equalIn (dd+1) t (.pointer none) (.pointer none)).run P w = .ok true w:=λdd=>by simp[Op.equalIn,run_underlying hu]
 have h2:(Op.equal t (.pointer none) (.pointer none)).run P w = .ok true w:=h1 9999;have h3:(eqGuard .neq t x (.const (.pointer none)) (.pointer none) (.pointer none)).run P w = .ok () w:=by unfold eqGuard;split<;>simp
 have hy:a.eval (.const (.pointer none)) = .pointer none:=rfl;simp only[execOp,ha.eval hx,hy,Sem.run_bind,h3,Result.andThen_ok,binOp,h2,Sem.run_pure];rfl
section
variable {P : Program} {n : Nat} {c : Cx} {l : Fr} {H : List Ent} {d' : Option Nat} {x : Operand} {ty t t' e : TypeId} {pos : String} {af : Array Edge} {g : Option (Nat × Bool)} {v : Value}
end
theorem Hu {f:FuncId}{args:List Operand}{ats:Array TypeId}{o:Oper}{a:Act}{caps:List Value}(ho:o.op = .call { callee:=.value x,args:=args.toArray,argTypes:=ats })(hx:a.eval x = .func (.func f) #[] caps.toArray)
  (hcall:∀(as1:Array Value) (w:World),(callFunc f as1).run P w = .ok (.enter f as1) w) (w:World):(execOp a.eval o).run P w = .ok (.enter f (args.map a.eval++caps).toArray) w:=by
 simp[execOp,ho,resolve,hx,Deferred.ofValue,invoke,hcall]
theorem N8 {f:FuncId}{args:List Operand}{ats:Array TypeId}{rs:List Rp}{caps:List Value}{Hin Hr:List Ent}{Φ:Rp→List Ent→Prop}(hcall:∀(as1:Array Value) (w:World),(callFunc f as1).run P w = .ok (.enter f as1) w)(hx:ev l x=some (rv (.func (.func f) #[] caps.toArray)))(hv:IP l args=some rs)
  (hp:H.Perm (Hin++Hr)) (hc:Fn P c.E f (rs++caps.map rv) Hin Φ) (hn:Nat.blt d n=true) (h:∀r Ho,Φ r Ho→WL P n c ops Q rest ((d,r)::l) (Ho++Hr)) :
  WL P n c ops Q ({ dst:=some d,op:=.call { callee:=.value x,args:=args.toArray,argTypes:=ats },type:=ty,pos:=pos,after:=af,guard:=none }::rest) l H:=
 HC (args:=λa=>(args.map a.eval++caps).toArray) (λa w Z ha hw=>⟨Hu rfl (ha.eval hx) hcall w,by
  have hw2:=hw.perm hp;refine(hc w Z _ (by have:=(El ha hv).append (AM.rvs Z caps);simpa using this) hw2.enter).mono ?_;rintro e w' ⟨r,v,Ho,Z',he,hΦ,hr,hs⟩;exact⟨v,r,Ho++Hr,Z',he,hs.le,hr,hw2.call hs,h r Ho hΦ⟩⟩) hn
end
section
variable {P : Program} {n : Nat} {c : Cx} {ops : Array Oper} {Q : Exit → Act → World → Prop} {rest : List Oper} {l : Fr} {H : List Ent} {d : Nat} {ty : TypeId} {pos : String} {af : Array Edge} {r : Rp} {x y z3 : Operand}
theorem wo {d:Option Nat}{op:Op}{j dj:Nat}{want b:Bool}(hb:b=want)(h:WL P n c ops Q ({ dst:=d,op:=op,type:=ty,pos:=pos,after:=af,guard:=none }::rest) l H)(hj:Cd ops j=some dj:=by rfl)(hv:look l dj=some (rB b):=by rfl) :
  WL P n c ops Q ({ dst:=d,op:=op,type:=ty,pos:=pos,after:=af,guard:=some (j,want) }::rest) l H:=Bc hj hv hb h
theorem wf {op:Op}{j dj:Nat}{want b:Bool}(hb:b = !want)(h:WL P n c ops Q rest ((d,rv undef)::l) H)(hj:Cd ops j=some dj:=by rfl)(hv:look l dj=some (rB b):=by rfl)(hn:Nat.blt d n=true:=by rfl) :
  WL P n c ops Q ({ dst:=some d,op:=op,type:=ty,pos:=pos,after:=af,guard:=some (j,want) }::rest) l H:=A9 hj hv hb hn h
theorem wu {op:Op}{j dj:Nat}{want:Bool}(h:WL P n c ops Q rest ((d,rv undef)::l) H)(hj:Cd ops j=some dj:=by rfl)(hv:look l dj=some (rv undef):=by rfl)(hn:Nat.blt d n=true:=by rfl) :
  WL P n c ops Q ({ dst:=some d,op:=op,type:=ty,pos:=pos,after:=af,guard:=some (j,want) }::rest) l H:=DR hj hv hn h
theorem wv {op:Op}(hr:Bd P n c l H { dst:=some d,op:=op,type:=ty,pos:=pos,after:=af,guard:=none } r)(h:WL P n c ops Q rest ((d,r)::l) H)(hn:Nat.blt d n=true:=by rfl):WL P n c ops Q ({ dst:=some d,op:=op,type:=ty,pos:=pos,after:=af,guard:=none }::rest) l H:=AD hr hn h
theorem wm (h:ev l x=some r)(hk:WL P n c ops Q rest ((d,r)::l) H)(hn:Nat.blt d n=true:=by rfl):WL P n c ops Q ({ dst:=some d,op:=.move x,type:=ty,pos:=pos,after:=af,guard:=none }::rest) l H:=AD (Ax h) hn hk
theorem wa (h:ev l x=some r)(hk:WL P n c ops Q rest ((d,r)::l) H)(hn:Nat.blt d n=true:=by rfl):WL P n c ops Q ({ dst:=some d,op:=.assign x,type:=ty,pos:=pos,after:=af,guard:=none }::rest) l H:=AD (AK h) hn hk
theorem GU {b:Bool}(hc:ev l z3=some (rB b))(hb:b=true)(h:ev l x=some r)(hk:WL P n c ops Q rest ((d,r)::l) H)(hn:Nat.blt d n=true:=by rfl):WL P n c ops Q ({ dst:=some d,op:=.pick z3 x y,type:=ty,pos:=pos,after:=af,guard:=none }::rest) l H:=AD (Ar hc hb h) hn hk
theorem G1 {b:Bool}(hc:ev l z3=some (rB b))(hb:b=false)(h:ev l y=some r)(hk:WL P n c ops Q rest ((d,r)::l) H)(hn:Nat.blt d n=true:=by rfl):WL P n c ops Q ({ dst:=some d,op:=.pick z3 x y,type:=ty,pos:=pos,after:=af,guard:=none }::rest) l H:=AD (AJ hc hb h) hn hk
theorem Cw {f:FuncId}{args:List Operand}{ats:Array TypeId}{rs:List Rp}(hcall:∀(as1:Array Value) (w:World),(callFunc f as1).run P w = .ok (.enter f as1) w)(hc:J9 P c.E f rs r)(hv:IP l args=some rs)(h:WL P n c ops Q rest ((d,r)::l) H)(hn:Nat.blt d n=true:=by rfl) :
  WL P n c ops Q ({ dst:=some d,op:=.call { callee:=.value (.func f),args:=args.toArray,argTypes:=ats },type:=ty,pos:=pos,after:=af,guard:=none }::rest) l H:=EF hcall hv hc rfl hn h
theorem Gt {f:FuncId}{args:List Operand}{ats:Array TypeId}{rs:List Rp}{Hin Hr:List Ent}{Φ:Rp→List Ent→Prop}(hcall:∀(as1:Array Value) (w:World),(callFunc f as1).run P w = .ok (.enter f as1) w)(hc:Fn P c.E f rs Hin Φ)(hv:IP l args=some rs)
  (hp:H.Perm (Hin++Hr)) (hn:Nat.blt d n=true) (h:∀r Ho,Φ r Ho→WL P n c ops Q rest ((d,r)::l) (Ho++Hr)) :
  WL P n c ops Q ({ dst:=some d,op:=.call { callee:=.value (.func f),args:=args.toArray,argTypes:=ats },type:=ty,pos:=pos,after:=af,guard:=none }::rest) l H:=Eb hcall hv hp hc hn h
theorem Ep {opsA:Array Oper}{f:FuncId}{args:List Operand}{ats:Array TypeId}{rs:List Rp}(hcall:∀(as1:Array Value) (w:World),(callFunc f as1).run P w = .ok (.enter f as1) w)(hc:J9 P c.E f rs r)(hv:IP l args=some rs) :
  CL P n c opsA Q l H { dst:=some d,op:=.call { callee:=.value (.func f),args:=args.toArray,argTypes:=ats },type:=ty,pos:=pos,after:=af,guard:=none } r H:=MN hcall hv hc rfl
theorem wt {K:Exit→Act→World→Prop}{l1:Fr}{H1:List Ent}(hl:AQ l1 l:=by repeat (first | exact AQ.nil | refine AQ.c rfl ?_))(hH:H1.Sublist H:=by repeat (first | exact sN | refine sC ?_ | refine sS ?_)):WK n c (Exit.then (OO n c l1 H1) K .normal) l H:=AE (BQ hl hH)
theorem CW {p:Prop}(hp:p){K:Exit→Act→World→Prop}{l1:Fr}{H1:List Ent}(hl:p→AQ l1 l:=by intro hp;repeat (first | exact AQ.nil | refine AQ.c rfl ?_ | refine AQ.c (by first | (simp only[hp];rfl) | simp[hp]) ?_))(hH:H1.Sublist H:=by repeat (first | exact sN | refine sC ?_ | refine sS ?_)):WK n c (Exit.then (OO n c l1 H1) K .normal) l H:=AE (BQ (hl hp) hH)
end
abbrev rP (b o:Nat):Rp:=rv (.pointer (some ⟨b,o,none⟩))
theorem ck {α:Type}{p:Bool}{x:Option α}{r:α}{G:Prop}(h:Bn p x=some r)(k:p=true→x=some r→G):G:=k (Np h).1 (Np h).2
theorem ob {α β:Type}{a:Option β}{f:β→Option α}{r:α}{G:Prop}(h:B6 a f=some r)(k:∀b,a=some b→f b=some r→G):G:=let ⟨b,h1,h2⟩:=OU h;k b h1 h2
theorem bd {α β:Type}{a:β}{f:β→Option α}{r:α}{G:Prop}(h:Mk a f=some r)(k:∀b,b=a→f b=some r→G):G:=let ⟨b,h1,h2⟩:=Pn h;k b h1 h2
theorem bz {α:Type}{b:Bool}{x y:Option α}{r:α}{G:Prop}(h:B0 b x y=some r)(t:b=true→x=some r→G)(f:b=false→y=some r→G):G:=by
 cases b
 ·exact f rfl h
 ·exact t rfl h
section
variable {P : Program} {n : Nat} {c : Cx} {ops : Array Oper} {Q : Exit → Act → World → Prop} {rest : List Oper} {l : Fr} {H : List Ent} {d : Nat} {x y : Operand} {t e : TypeId} {ty : TypeId} {pos : String} {af : Array Edge} {r : Rp} {sz : Nat}
theorem cz {α:Type}{b:Bool}{X Y:Option α}{r:α}{cx cy:Code}{o:Operand}(h:B0 b X Y=some r)(ho:ev l o=some (rB b))(h1:b=true→X=some r→WC P n c cx Q l H)(h2:b=false→Y=some r→WC P n c cy Q l H):WC P n c (.cond o cx cy) Q l H:=
 Jd ho (λe=>h1 e (Pk e h)) (λe=>h2 e (Pm e h))
theorem wz {op:Op}{j dj:Nat}{want:Bool}(hj:Cd ops j=some dj)(hv:look l dj=some (rB (!want)))(h:WL P n c ops Q rest ((d,rv undef)::l) H)(hn:Nat.blt d n=true:=by rfl) :
  WL P n c ops Q ({ dst:=some d,op:=op,type:=ty,pos:=pos,after:=af,guard:=some (j,want) }::rest) l H:=A9 hj hv rfl hn h
theorem vF {i o o' b:Nat}{fs:Array Field}{f:Field}(hu:P.underlying t=some (.struct fs))(h:(fs[i]?,ev l x,o+f.offset)=(some f,some (rv (.pointer (some ⟨b,o,none⟩))),o'))(hsz:∀w,(sizeOf f.type).run P w = .ok (sz+1) w)
  (k:WL P n c ops Q rest ((d,rv (.pointer (some ⟨b,o',none⟩)))::l) H) (hn:Nat.blt d n=true:=by rfl):WL P n c ops Q ({ dst:=some d,op:=.fieldAddr t x i,type:=ty,pos:=pos,after:=af,guard:=none }::rest) l H:=by
 simp only[Prod.mk.injEq] at h;exact AD (AL hu h.1 hsz h.2.1 h.2.2) hn k
theorem vL {b off:Nat}{cs:List Rp}(i:Nat)(hag:∀w,(isAgg t).run P w = .ok false w)(h:(ev l x,H[i]?,cs[off]?)=(some (rv (.pointer (some ⟨b,off,none⟩))),some (.blk b cs e),some r))
  (k:WL P n c ops Q rest ((d,r)::l) H) (hn:Nat.blt d n=true:=by rfl):WL P n c ops Q ({ dst:=some d,op:=.load t x,type:=ty,pos:=pos,after:=af,guard:=none }::rest) l H:=by
 simp only[Prod.mk.injEq] at h;exact AD (Bq (i:=i) hag h.1 h.2.1 h.2.2) hn k
end
abbrev Ah (x:Int):Rp:=rI .i64 x
abbrev Cg (x:Int):Nat:=Int.toNat x
abbrev Aq {a b:Type}(f:a→b)(l:List a):List b:=List.map f l
end Go.Proofs.YtfbmdidnlhifjaaGreatDoor.Q
namespace Go.Proofs
open Go.Shelf
def Tryz.laysM171_ren:Go.Shelf.Ren:=⟨fun | 171=>84 | 243=>103 | 246=>119 | 283=>127 | 284=>128 | 285=>129 | 286=>130 | 129=>114 | 317=>136 | 318=>137 | 319=>138 | 320=>139 | 337=>142 | 338=>143 | n=>n,fun | 3=>3 | 9=>9 | 2=>2 | 4=>4 | 171=>161 | 0=>0 | 53=>151 | 37=>163 | 5=>5 | 173=>164 | 212=>171 | 51=>149 | 20=>20 | 213=>172 | 46=>134 | 232=>175 | 233=>176 | n=>n,fun | 17=>1 | 18=>2 | 19=>3 | n=>n⟩
theorem Tryz.laysM171:Go.Proofs.LaysM.n171 Tryz.prog Tryz.laysM171_ren:={
 mixed:=by kernel_rfl
 f129:=Tryz.func114.trans (congrArg some (by kernel_rfl))
 f171:=Tryz.func84.trans (congrArg some (by kernel_rfl))
 f243:=Tryz.func103.trans (congrArg some (by kernel_rfl))
 f246:=Tryz.func119.trans (congrArg some (by kernel_rfl))
 f283:=Tryz.func127.trans (congrArg some (by kernel_rfl))
 f284:=Tryz.func128.trans (congrArg some (by kernel_rfl))
 f285:=Tryz.func129.trans (congrArg some (by kernel_rfl))
 f286:=Tryz.func130.trans (congrArg some (by kernel_rfl))
 f317:=Tryz.func136.trans (congrArg some (by kernel_rfl))
 f318:=Tryz.func137.trans (congrArg some (by kernel_rfl))
 f319:=Tryz.func138.trans (congrArg some (by kernel_rfl))
 f320:=Tryz.func139.trans (congrArg some (by kernel_rfl))
 f337:=Tryz.func142.trans (congrArg some (by kernel_rfl))
 f338:=Tryz.func143.trans (congrArg some (by kernel_rfl))
 t0:=Tryz.underlying0
 a0:=Tryz.isAgg0
 z0:=Tryz.sizeOf0
 v0:=Tryz.zeroValue0
 t2:=Tryz.underlying2
 a2:=Tryz.isAgg2
 z2:=Tryz.sizeOf2
 v2:=Tryz.zeroValue2
 t3:=Tryz.underlying3
 a3:=Tryz.isAgg3
 z3:=Tryz.sizeOf3
 v3:=Tryz.zeroValue3
 t4:=Tryz.underlying4
 a4:=Tryz.isAgg4
 z4:=Tryz.sizeOf4
 v4:=Tryz.zeroValue4
 t5:=Tryz.underlying5
 a5:=Tryz.isAgg5
 z5:=Tryz.sizeOf5
 v5:=Tryz.zeroValue5
 t9:=Tryz.underlying9
 a9:=Tryz.isAgg9
 z9:=Tryz.sizeOf9
 v9:=Tryz.zeroValue9
 t20:=Tryz.underlying20
 a20:=Tryz.isAgg20
 z20:=Tryz.sizeOf20
 v20:=Tryz.zeroValue20
 t37:=Tryz.underlying163
 a37:=Tryz.isAgg163
 z37:=Tryz.sizeOf163
 v37:=Tryz.zeroValue163
 t46:=Tryz.underlying134
 a46:=Tryz.isAgg134
 z46:=Tryz.sizeOf134
 v46:=Tryz.zeroValue134
 t51:=Tryz.underlying149
 a51:=Tryz.isAgg149
 z51:=Tryz.sizeOf149
 v51:=Tryz.zeroValue149
 t53:=Tryz.underlying151
 a53:=Tryz.isAgg151
 z53:=Tryz.sizeOf151
 v53:=Tryz.zeroValue151
 t171:=Tryz.underlying161
 a171:=Tryz.isAgg161
 z171:=Tryz.sizeOf161
 v171:=Tryz.zeroValue161
 t173:=Tryz.underlying164
 a173:=Tryz.isAgg164
 z173:=Tryz.sizeOf164
 v173:=Tryz.zeroValue164
 t212:=Tryz.underlying171
 a212:=Tryz.isAgg171
 z212:=Tryz.sizeOf171
 v212:=Tryz.zeroValue171
 t213:=Tryz.underlying172
 a213:=Tryz.isAgg172
 z213:=Tryz.sizeOf172
 t232:=Tryz.underlying175
 a232:=Tryz.isAgg175
 z232:=Tryz.sizeOf175
 v232:=Tryz.zeroValue175
 t233:=Tryz.underlying176
 a233:=Tryz.isAgg176
 z233:=Tryz.sizeOf176
 v233:=Tryz.zeroValue176
 g17:=by kernel_rfl
 g18:=by kernel_rfl
 g19:=by kernel_rfl
 i0:=by kernel_rfl
 i2:=by kernel_rfl
 i3:=by kernel_rfl
 i4:=by kernel_rfl
 i5:=by kernel_rfl
 i9:=by kernel_rfl
 i20:=by kernel_rfl
 i37:=by kernel_rfl
 i46:=by kernel_rfl
 i51:=by kernel_rfl
 i53:=by kernel_rfl
 i171:=by kernel_rfl
 i173:=by kernel_rfl
 i212:=by kernel_rfl
 i232:=by kernel_rfl
 i233:=by kernel_rfl
 m17:=by kernel_rfl
 m18:=by kernel_rfl
 m19:=by kernel_rfl }
open Go.RowKit Go.Sort Go.Lib in
theorem Tryz.strconv_Itoa (n : Int) (h0 : -9223372036854775808 ≤ n) (h1 : n ≤ 9223372036854775807) (w : World) (htab : Lib.TabIs Tryz.prog w "internal/strconv.uint64pow10" .u64 Lib.pow10Tab) :
  Calls Tryz.prog 84 #[.int .i64 n] w λe w'=>e = .returned (.string ⟨(Lib.itoa n).toArray⟩)∧∃k os,w'=grow (w.drewN k) os:=Any.strconv_Itoa Tryz.laysM171 n h0 h1 w htab
end Go.Proofs
namespace Go.Proofs.YtfbmdidnlhifjaaGreatDoor
open Go Go.RowKit
set_option linter.unusedVariables false
noncomputable def Hy:Nat:=1+1
structure J7 (w:World):Prop where
 pow : Lib.TabIs Tryz.prog w "internal/strconv.uint64pow10" .u64 Lib.pow10Tab
theorem OJ : Tryz.prog.globalNamed "internal/strconv.uint64pow10" = some 1 := by kernel_rfl
theorem LX:1<Hy:=by decide +kernel
theorem J7.block (w w':World)(h:∀k,k<Hy→w'.heap[k]? =w.heap[k]?)(hT:J7 w):J7 w':=by
 have hp:=hT.pow;unfold Lib.TabIs at hp;refine⟨?_⟩;unfold Lib.TabIs;unfold World.var? at hp ⊢;rw[OJ] at hp ⊢;simp only[Option.bind_some] at hp ⊢;rw[h _ LX];exact hp
def Nt (w:World)(M:List Nat):Prop:=Hy≤w.heap.size∧∀k∈M,Hy≤k
theorem J7.st {w0 w:World}{M:List Nat}{H:List Ent}(hT:J7 w0)(hG:Nt w0 M)(hw:St w0 M H w):J7 w:=
 J7.block w0 w (λk hk=>hw.old k (Nat.lt_of_lt_of_le hk hG.1) (λhm=>by have:=hG.2 k hm;omega)) hT
theorem Nt.nil {w:World}(h:Hy≤w.heap.size):Nt w []:=⟨h,by simp⟩
theorem Nt.st {w0 w:World}{M:List Nat}{H:List Ent}(hG:Nt w0 M)(hw:St w0 M H w):Hy≤w.heap.size:=Nat.le_trans hG.1 hw.size
structure Mr (w:World):Prop where
 tabs:J7 w
 size:Hy≤w.heap.size
theorem Mr.st {w0 w:World}{M:List Nat}{H:List Ent}(hE:Mr w0)(hM:∀k∈M,Hy≤k)(hw:St w0 M H w):Mr w:=
 ⟨hE.tabs.st ⟨hE.size,hM⟩ hw,Nat.le_trans hE.size hw.size⟩
theorem Mr.st0 {w0 w:World}{H:List Ent}(hE:Mr w0)(hw:St w0 [] H w):Mr w:=hE.st (by simp) hw
theorem OQ (p:List UInt8):(B p).data.toList=p:=by simp[B]
theorem OC (m:Int)(h0 : -9223372036854775808≤m)(h1:m≤9223372036854775807)(w:World)(hE:Mr w):Calls Tryz.prog 84 [.int .i64 m].toArray w (J8 w (.string (B (Lib.itoa m)))):=
 (Tryz.strconv_Itoa m h0 h1 w hE.tabs.pow).mono λe w' ⟨he,k,os,hw⟩=>⟨he,by rw[hw];exact St.of_below (Lib.below_grow _ _ (PW _) _ _)⟩
open Go Go.ChangeShapes Go.WideShapes Go.ChangeAt Go.RowKit Go.WideElems
theorem own:ownKnob Tryz.prog.godebug=none:=by kernel_rfl
theorem NR:laidOutB Tryz.prog=true:=by kernel_rfl
section
variable {H : Type} {enc : TypeId × Value → H} {P : Program}
theorem EZ (hl:laidOutB P=true){W W':World}(hb:Below W.heap.size W W'){sp:Nat→Bool}:∀{ts:List TypeId} {vs:List Value} {ds:List (DataW H)} {ps:List MemPlace},ts.all (λt=>P.readableRec t&&decide (t<P.types.size))=true→
  DataW.TrodAll enc P W 0 (λ_=>true) true ts vs ds ps→(∀p∈ps,p.block<W.heap.size)→(∀p∈ps,sp p.block=true)→DataW.TrodAll enc P W' 0 sp true ts vs ds ps
 | [],[],[],_,_,h,_,_=>h
 | [],_::_,_,_,_,h,_,_=>h.elim
 | [],[],_::_,_,_,h,_,_=>h.elim
 | _::_,[],_,_,_,h,_,_=>h.elim
 | _::_,_::_,[],_,_,h,_,_=>h.elim
 | t::ts,v::vs,d::ds,ps,ht,⟨p,q,h1,h2,e⟩,hlt,hs=>by
  simp only[List.all_cons,PY,PQ] at ht;refine⟨p,q,?_,EZ hl hb ht.2 h2 (λx hx=>hlt x (by rw[e];exact List.mem_append_right _ hx)) (λx hx=>hs x (by rw[e];exact List.mem_append_right _ hx)),e⟩;exact Trod_stays hl ht.1.1 ht.1.2 h1 (λx hx=>hb.same (hlt x (by rw[e];exact List.mem_append_left _ hx))) (λx hx=>hs x (by rw[e];exact List.mem_append_left _ hx))
theorem LU (hl:laidOutB P=true){f:Func}{s:ChangeSpec}{apart fresh handsOn:Bool}{W W':World}{args:Array Value}{ds gs:List (DataW H)}{before:List MemPlace}{tb:TypeId}(hp:f.params.toList.all (λt=>P.readableRec t&&decide (t<P.types.size))=true)
  (hv:s.vars=[]) (hr:f.resultTypes = #[tb]) (hb4:P.underlying tb=some .bool) (hW:DataW.Whole enc P f.params.toList s.vars apart W args.toList ds gs before)
  (h1:(s.fn H (ds++gs)).results=[.lit (.bool true)]) (h2:(s.fn H (ds++gs)).args=ds) (h3:(s.fn H (ds++gs)).vars=[]) (hb:Below W.heap.size W W') :
  s.post enc P f apart fresh handsOn false W args (.bool true) W':=by
 have hlt:∀p∈before,p.block<W.heap.size:=λp hp=>hW.lt p hp;have hW':=hW;obtain⟨p,q,hA,hV,hbf,_,_⟩:=hW';have hq:q=[]:=by
  rw[hv] at hV
  cases gs with
  | nil=>exact hV
  | cons _ _=>exact hV.elim
 subst hq;rw[List.append_nil] at hbf;subst hbf;refine⟨ds,gs,before,[],before,[],hW,?_,?_,?_,World.keptBut_mono (λp hp=>⟨hp,.inr (.inl hp)⟩) (hb.frame (·∈before)),λh=>by cases h⟩
 ·rw[h1,hr];exact trodAll_mk1 (shut_bool hb4 true)
 ·rw[h2];exact EZ hl hb hp hA hlt (λx hx=>by simpa using hlt x hx)
 ·rw[hv,h3];exact rfl
end
theorem KZ:Tryz.prog.underlying 4=some .bool:=Tryz.underlying4
def Id : List (String × DataW Unit) := [("math/bits.deBruijn32tab", Rows.laid_math_bits_deBruijn32tab), ("math/bits.deBruijn64tab", Rows.laid_math_bits_deBruijn64tab), ("internal/strconv.uint64pow10", Rows.laid_internal_strconv_uint64pow10)]
theorem Nj:(Tryz.prog.globals[1]?).map (·.type)=some 171:=by kernel_rfl
theorem Mi:Tryz.prog.cellsOf 151=1:=by kernel_rfl
theorem Mj:Tryz.prog.cellsOf 171=20:=by kernel_rfl
theorem NU {W:World}{n:String}{g:Nat}{cs:Array Value}(hg:Tryz.prog.globalNamed n=some g)(h:W.var? Tryz.prog n=some cs):g<W.heap.size:=by
 unfold World.var? at h;rw[hg] at h;simp only[Option.bind_some] at h
 cases hh:W.heap[g]? with
 | none=>rw[hh] at h;cases h
 | some o=>exact(Array.getElem?_eq_some_iff.1 hh).1
theorem OK {W:World}(h:laidMet Tryz.prog Id W):Mr W:=by
 have h3:=laidMet.tail (laidMet.tail h);have hp : Lib.TabIs Tryz.prog W "internal/strconv.uint64pow10" .u64 Lib.pow10Tab := Lib.tabIs_of_head OJ Nj Tryz.underlying171 Tryz.underlying151 Mi Mj h3
 exact⟨⟨hp⟩,NU OJ hp⟩
noncomputable def ER (os:Os):World:=
 let w0:=World.holding Tryz.prog os ⟨#[],#[],[]⟩
 let put (h:Array Obj) (g:Nat) (cs:Array Value):Array Obj:=h.modify g fun
  | .cells _ t frozen=>.cells cs t frozen
  | o=>o
 let nums (d:DataW Unit):Array Value:=match d with
  | .agg ds=>(ds.map fun | .lit (.int k n)=>Value.int k n | _=>undef).toArray
  | _=>#[]
 let h1:=put w0.heap 2 (nums Rows.laid_math_bits_deBruijn32tab)
 let h2:=put h1 3 (nums Rows.laid_math_bits_deBruijn64tab)
 let h3:=put h2 1 (nums Rows.laid_internal_strconv_uint64pow10)
 { w0 with heap:=h3 }
set_option maxRecDepth 100000 in
theorem Nd (os:Os)(args:Array Value):laidMet Tryz.prog Id ((ER os).forCall (λ_ _=>0) ⟨#[],args,[]⟩).memory:=
 laidMet_of_run' 8 (by kernel_rfl) (by kernel_rfl)
set_option linter.unusedSimpArgs false
set_option maxRecDepth 100000
theorem ND (c:Int)(w:World):Calls Tryz.prog 90 [.int .i32 (c)].toArray w (J8 w (.bool (GX c))):=by
 refine Ik (n:=9) Tryz.func90 rfl Tryz.ntmps90 rfl (Au (A4 (AD (AK rfl) rfl (A1 (AE (BE ?_))))));refine AU [(2,.bool (((decide ((97)≤(c)))&&(decide ((c)≤(122))))))] [] (φ:=True) ?_ (λhm1=>?_)
 ·refine A4 (AD (Ax rfl) rfl (AD (KF rfl rfl) rfl (AD (Ax rfl) rfl (AY (decide ((97)≤(c))) (λh1=>?_) (λh1=>?_)))))
  ·have g1:=h1;try simp only[PQ,PP] at g1
   refine Bc rfl rfl h1 (AD (Ax rfl) rfl (Bc rfl rfl h1 (AD (KE rfl rfl) rfl (AD (Ar rfl h1 rfl) rfl (AD (AK rfl) rfl (A1 ?_))))));exact AE (BQ trivial ⟨fb (by simp[h1]),trivial⟩ .slnil)
  ·have g1:=h1;try simp only[PQ,PP] at g1
   refine A9 rfl rfl h1 rfl (A9 rfl rfl h1 rfl (AD (AJ rfl h1 rfl) rfl (AD (AK rfl) rfl (A1 ?_))));exact AE (BQ trivial ⟨fb (by simp[h1]),trivial⟩ .slnil)
 refine A0 (Az (BJ rfl rfl) ?_);exact LN (by first | rfl | simp[])
theorem NX (c:Int)(w:World):Calls Tryz.prog 91 [.int .i32 (c)].toArray w (J8 w (.bool (Hj c))):=by
 refine Ik (n:=9) Tryz.func91 rfl Tryz.ntmps91 rfl (Au (A4 (AD (AK rfl) rfl (A1 (AE (BE ?_))))));refine AU [(2,.bool (((decide ((48)≤(c)))&&(decide ((c)≤(57))))))] [] (φ:=True) ?_ (λhm3=>?_)
 ·refine A4 (AD (Ax rfl) rfl (AD (KF rfl rfl) rfl (AD (Ax rfl) rfl (AY (decide ((48)≤(c))) (λh3=>?_) (λh3=>?_)))))
  ·have g3:=h3;try simp only[PQ,PP] at g3
   refine Bc rfl rfl h3 (AD (Ax rfl) rfl (Bc rfl rfl h3 (AD (KE rfl rfl) rfl (AD (Ar rfl h3 rfl) rfl (AD (AK rfl) rfl (A1 ?_))))));exact AE (BQ trivial ⟨fb (by simp[h3]),trivial⟩ .slnil)
  ·have g3:=h3;try simp only[PQ,PP] at g3
   refine A9 rfl rfl h3 rfl (A9 rfl rfl h3 rfl (AD (AJ rfl h3 rfl) rfl (AD (AK rfl) rfl (A1 ?_))));exact AE (BQ trivial ⟨fb (by simp[h3]),trivial⟩ .slnil)
 refine A0 (Az (BJ rfl rfl) ?_);exact LN (by first | rfl | simp[])
theorem Nc (c:Int)(w:World):Calls Tryz.prog 75 [.int .i32 (c)].toArray w (J8 w (.bool (CR c))):=by
 refine Ik (n:=37) Tryz.func75 rfl Tryz.ntmps75 rfl (Au (A4 (AD (AK rfl) rfl (A1 (AE (BE ?_))))));refine AU [(2,.bool (((GX c)||((Hj c)||(bif decide ((65)≤(c)) then((decide ((c)≤(90)))||((decide ((c)=(45)))||((decide ((c)=(95)))||((decide ((c)=(46)))||((decide ((c)=(58)))||(decide ((c)=(47)))))))) else((decide ((c)=(45)))||((decide ((c)=(95)))||((decide ((c)=(46)))||((decide ((c)=(58)))||(decide ((c)=(47))))))))))))] [] (φ:=True) ?_ (λhp=>?_)
 ·refine A4 (AD (Ax rfl) rfl (Eb Tryz.call90 rfl (λw hw=>ND c w) rfl (AD (Ax rfl) rfl (AY (GX c) (λh5=>?_) (λh5=>?_)))))
  ·have g5:=h5;try simp only[PQ,PP] at g5
   refine A9 rfl rfl h5 rfl (A9 rfl rfl h5 rfl (AD (Ar rfl h5 rfl) rfl (AD (Ax rfl) rfl (A9 rfl rfl rfl rfl (A9 rfl rfl rfl rfl (A9 rfl rfl rfl rfl (DR rfl rfl rfl (DR rfl rfl rfl (A9 rfl rfl rfl rfl (AD (Ar rfl rfl rfl) rfl (AD (Ax rfl) rfl (A9 rfl rfl rfl rfl (A9 rfl rfl rfl rfl (AD (Ar rfl rfl rfl) rfl (AD (Ax rfl) rfl (A9 rfl rfl rfl rfl (A9 rfl rfl rfl rfl (AD (Ar rfl rfl rfl) rfl (AD (Ax rfl) rfl (A9 rfl rfl rfl rfl (A9 rfl rfl rfl rfl (AD (Ar rfl rfl rfl) rfl (AD (Ax rfl) rfl ?_)))))))))))))))))))))));refine A9 rfl rfl rfl rfl (A9 rfl rfl rfl rfl (AD (Ar rfl rfl rfl) rfl (AD (Ax rfl) rfl (A9 rfl rfl rfl rfl (A9 rfl rfl rfl rfl (AD (Ar rfl rfl rfl) rfl (AD (AK rfl) rfl (A1 ?_))))))));exact AE (BQ trivial ⟨fb (by simp[h5]),trivial⟩ .slnil)
  ·have g5:=h5;try simp only[PQ,PP] at g5
   refine Bc rfl rfl h5 (AD (Ax rfl) rfl (Bc rfl rfl h5 (Eb Tryz.call91 rfl (λw hw=>NX c w) rfl (AD (AJ rfl h5 rfl) rfl (AD (Ax rfl) rfl (AY (Hj c) (λh6=>?_) (λh6=>?_)))))))
   ·have g6:=h6;try simp only[PQ,PP] at g6
    refine A9 rfl rfl h6 rfl (A9 rfl rfl h6 rfl (A9 rfl rfl h6 rfl (DR rfl rfl rfl (DR rfl rfl rfl (A9 rfl rfl h6 rfl (AD (Ar rfl h6 rfl) rfl (AD (Ax rfl) rfl (A9 rfl rfl rfl rfl (A9 rfl rfl rfl rfl (AD (Ar rfl rfl rfl) rfl (AD (Ax rfl) rfl (A9 rfl rfl rfl rfl (A9 rfl rfl rfl rfl (AD (Ar rfl rfl rfl) rfl (AD (Ax rfl) rfl (A9 rfl rfl rfl rfl (A9 rfl rfl rfl rfl (AD (Ar rfl rfl rfl) rfl (AD (Ax rfl) rfl (A9 rfl rfl rfl rfl (A9 rfl rfl rfl rfl (AD (Ar rfl rfl rfl) rfl (AD (Ax rfl) rfl ?_)))))))))))))))))))))));refine A9 rfl rfl rfl rfl (A9 rfl rfl rfl rfl (AD (Ar rfl rfl rfl) rfl (AD (AK rfl) rfl (A1 ?_))));exact AE (BQ trivial ⟨fb (by simp[h5,h6]),trivial⟩ .slnil)
   ·have g6:=h6;try simp only[PQ,PP] at g6
    refine Bc rfl rfl h6 (AD (Ax rfl) rfl (Bc rfl rfl h6 (AD (KF rfl rfl) rfl (Bc rfl rfl h6 (AD (Ax rfl) rfl (AY (decide ((65)≤(c))) (λh7=>?_) (λh7=>?_)))))))
    ·have g7:=h7;try simp only[PQ,PP] at g7
     refine Bc rfl rfl h7 (AD (Ax rfl) rfl (Bc rfl rfl h7 (AD (KE rfl rfl) rfl (Bc rfl rfl h6 (AD (Ar rfl h7 rfl) rfl (AD (AJ rfl h6 rfl) rfl (AD (Ax rfl) rfl (AY (decide ((c)≤(90))) (λh8=>?_) (λh8=>?_)))))))))
     ·have g8:=h8;try simp only[PQ,PP] at g8
      refine A9 rfl rfl h8 rfl (A9 rfl rfl h8 rfl (AD (Ar rfl h8 rfl) rfl (AD (Ax rfl) rfl (A9 rfl rfl rfl rfl (A9 rfl rfl rfl rfl (AD (Ar rfl rfl rfl) rfl (AD (Ax rfl) rfl (A9 rfl rfl rfl rfl (A9 rfl rfl rfl rfl (AD (Ar rfl rfl rfl) rfl (AD (Ax rfl) rfl (A9 rfl rfl rfl rfl (A9 rfl rfl rfl rfl (AD (Ar rfl rfl rfl) rfl (AD (Ax rfl) rfl (A9 rfl rfl rfl rfl (A9 rfl rfl rfl rfl (AD (Ar rfl rfl rfl) rfl (AD (AK rfl) rfl (A1 ?_))))))))))))))))))));exact AE (BQ trivial ⟨fb (by simp[h5,h6,h7,h8]),trivial⟩ .slnil)
     ·have g8:=h8;try simp only[PQ,PP] at g8
      refine Bc rfl rfl h8 (AD (Ax rfl) rfl (Bc rfl rfl h8 (AD (BK rfl rfl) rfl (AD (AJ rfl h8 rfl) rfl (AD (Ax rfl) rfl (AY (decide ((c)=(45))) (λh9=>?_) (λh9=>?_)))))))
      ·have g9:=h9;try simp only[PQ,PP] at g9
       refine A9 rfl rfl h9 rfl (A9 rfl rfl h9 rfl (AD (Ar rfl h9 rfl) rfl (AD (Ax rfl) rfl (A9 rfl rfl rfl rfl (A9 rfl rfl rfl rfl (AD (Ar rfl rfl rfl) rfl (AD (Ax rfl) rfl (A9 rfl rfl rfl rfl (A9 rfl rfl rfl rfl (AD (Ar rfl rfl rfl) rfl (AD (Ax rfl) rfl (A9 rfl rfl rfl rfl (A9 rfl rfl rfl rfl (AD (Ar rfl rfl rfl) rfl (AD (AK rfl) rfl (A1 ?_))))))))))))))));exact AE (BQ trivial ⟨fb (by simp[h5,h6,h7,h8,h9]),trivial⟩ .slnil)
      ·have g9:=h9;try simp only[PQ,PP] at g9
       refine Bc rfl rfl h9 (AD (Ax rfl) rfl (Bc rfl rfl h9 (AD (BK rfl rfl) rfl (AD (AJ rfl h9 rfl) rfl (AD (Ax rfl) rfl (AY (decide ((c)=(95))) (λhb=>?_) (λhb=>?_)))))))
       ·have hi:=hb;try simp only[PQ,PP] at hi
        refine A9 rfl rfl hb rfl (A9 rfl rfl hb rfl (AD (Ar rfl hb rfl) rfl (AD (Ax rfl) rfl (A9 rfl rfl rfl rfl (A9 rfl rfl rfl rfl (AD (Ar rfl rfl rfl) rfl (AD (Ax rfl) rfl (A9 rfl rfl rfl rfl (A9 rfl rfl rfl rfl (AD (Ar rfl rfl rfl) rfl (AD (AK rfl) rfl (A1 ?_))))))))))));exact AE (BQ trivial ⟨fb (by simp[h5,h6,h7,h8,h9,hb]),trivial⟩ .slnil)
       ·have hi:=hb;try simp only[PQ,PP] at hi
        refine Bc rfl rfl hb (AD (Ax rfl) rfl (Bc rfl rfl hb (AD (BK rfl rfl) rfl (AD (AJ rfl hb rfl) rfl (AD (Ax rfl) rfl (AY (decide ((c)=(46))) (λhe=>?_) (λhe=>?_)))))))
        ·have hj:=he;try simp only[PQ,PP] at hj
         refine A9 rfl rfl he rfl (A9 rfl rfl he rfl (AD (Ar rfl he rfl) rfl (AD (Ax rfl) rfl (A9 rfl rfl rfl rfl (A9 rfl rfl rfl rfl (AD (Ar rfl rfl rfl) rfl (AD (AK rfl) rfl (A1 ?_))))))));exact AE (BQ trivial ⟨fb (by simp[h5,h6,h7,h8,h9,hb,he]),trivial⟩ .slnil)
        ·have hj:=he;try simp only[PQ,PP] at hj
         refine Bc rfl rfl he (AD (Ax rfl) rfl (Bc rfl rfl he (AD (BK rfl rfl) rfl (AD (AJ rfl he rfl) rfl (AD (Ax rfl) rfl (AY (decide ((c)=(58))) (λhg=>?_) (λhg=>?_)))))))
         ·have hk:=hg;try simp only[PQ,PP] at hk
          refine A9 rfl rfl hg rfl (A9 rfl rfl hg rfl (AD (Ar rfl hg rfl) rfl (AD (AK rfl) rfl (A1 ?_))));exact AE (BQ trivial ⟨fb (by simp[h5,h6,h7,h8,h9,hb,he,hg]),trivial⟩ .slnil)
         ·have hk:=hg;try simp only[PQ,PP] at hk
          refine Bc rfl rfl hg (AD (Ax rfl) rfl (Bc rfl rfl hg (AD (BK rfl rfl) rfl (AD (AJ rfl hg rfl) rfl (AD (AK rfl) rfl (A1 ?_))))));exact AE (BQ trivial ⟨fb (by simp[h5,h6,h7,h8,h9,hb,he,hg]),trivial⟩ .slnil)
    ·have g7:=h7;try simp only[PQ,PP] at g7
     refine A9 rfl rfl h7 rfl (A9 rfl rfl h7 rfl (Bc rfl rfl h6 (AD (AJ rfl h7 rfl) rfl (AD (AJ rfl h6 rfl) rfl (AD (Ax rfl) rfl (Bc rfl rfl rfl (AD (Ax rfl) rfl (Bc rfl rfl rfl (AD (BK rfl rfl) rfl (AD (AJ rfl rfl rfl) rfl (AD (Ax rfl) rfl (AY (decide ((c)=(45))) (λha=>?_) (λha=>?_)))))))))))))
     ·have hl:=ha;try simp only[PQ,PP] at hl
      refine A9 rfl rfl ha rfl (A9 rfl rfl ha rfl (AD (Ar rfl ha rfl) rfl (AD (Ax rfl) rfl (A9 rfl rfl rfl rfl (A9 rfl rfl rfl rfl (AD (Ar rfl rfl rfl) rfl (AD (Ax rfl) rfl (A9 rfl rfl rfl rfl (A9 rfl rfl rfl rfl (AD (Ar rfl rfl rfl) rfl (AD (Ax rfl) rfl (A9 rfl rfl rfl rfl (A9 rfl rfl rfl rfl (AD (Ar rfl rfl rfl) rfl (AD (AK rfl) rfl (A1 ?_))))))))))))))));exact AE (BQ trivial ⟨fb (by simp[h5,h6,h7,ha]),trivial⟩ .slnil)
     ·have hl:=ha;try simp only[PQ,PP] at hl
      refine Bc rfl rfl ha (AD (Ax rfl) rfl (Bc rfl rfl ha (AD (BK rfl rfl) rfl (AD (AJ rfl ha rfl) rfl (AD (Ax rfl) rfl (AY (decide ((c)=(95))) (λhd=>?_) (λhd=>?_)))))))
      ·have hm:=hd;try simp only[PQ,PP] at hm
       refine A9 rfl rfl hd rfl (A9 rfl rfl hd rfl (AD (Ar rfl hd rfl) rfl (AD (Ax rfl) rfl (A9 rfl rfl rfl rfl (A9 rfl rfl rfl rfl (AD (Ar rfl rfl rfl) rfl (AD (Ax rfl) rfl (A9 rfl rfl rfl rfl (A9 rfl rfl rfl rfl (AD (Ar rfl rfl rfl) rfl (AD (AK rfl) rfl (A1 ?_))))))))))));exact AE (BQ trivial ⟨fb (by simp[h5,h6,h7,ha,hd]),trivial⟩ .slnil)
      ·have hm:=hd;try simp only[PQ,PP] at hm
       refine Bc rfl rfl hd (AD (Ax rfl) rfl (Bc rfl rfl hd (AD (BK rfl rfl) rfl (AD (AJ rfl hd rfl) rfl (AD (Ax rfl) rfl (AY (decide ((c)=(46))) (λhf=>?_) (λhf=>?_)))))))
       ·have hn:=hf;try simp only[PQ,PP] at hn
        refine A9 rfl rfl hf rfl (A9 rfl rfl hf rfl (AD (Ar rfl hf rfl) rfl (AD (Ax rfl) rfl (A9 rfl rfl rfl rfl (A9 rfl rfl rfl rfl (AD (Ar rfl rfl rfl) rfl (AD (AK rfl) rfl (A1 ?_))))))));exact AE (BQ trivial ⟨fb (by simp[h5,h6,h7,ha,hd,hf]),trivial⟩ .slnil)
       ·have hn:=hf;try simp only[PQ,PP] at hn
        refine Bc rfl rfl hf (AD (Ax rfl) rfl (Bc rfl rfl hf (AD (BK rfl rfl) rfl (AD (AJ rfl hf rfl) rfl (AD (Ax rfl) rfl (AY (decide ((c)=(58))) (λhh=>?_) (λhh=>?_)))))))
        ·have ho:=hh;try simp only[PQ,PP] at ho
         refine A9 rfl rfl hh rfl (A9 rfl rfl hh rfl (AD (Ar rfl hh rfl) rfl (AD (AK rfl) rfl (A1 ?_))));exact AE (BQ trivial ⟨fb (by simp[h5,h6,h7,ha,hd,hf,hh]),trivial⟩ .slnil)
        ·have ho:=hh;try simp only[PQ,PP] at ho
         refine Bc rfl rfl hh (AD (Ax rfl) rfl (Bc rfl rfl hh (AD (BK rfl rfl) rfl (AD (AJ rfl hh rfl) rfl (AD (AK rfl) rfl (A1 ?_))))));exact AE (BQ trivial ⟨fb (by simp[h5,h6,h7,ha,hd,hf,hh]),trivial⟩ .slnil)
 refine A0 (Az (BJ rfl rfl) ?_);exact LN (by simp only[CR];by_cases h:65≤c<;>simp[h,Bool.or_assoc])
theorem P6 (p:List UInt8)(w:World):Calls Tryz.prog 55 [.string (B p)].toArray w (J8 w (.bool (Lw p))):=by
 refine Ik (n:=21) Tryz.func55 rfl Tryz.ntmps55 rfl (Au (A4 (AD (AK rfl) rfl (A1 (AE (BE ?_))))));refine Au (Au (A4 (AD (Ax rfl) rfl (LH Eu rfl rfl (λhd=>?_)))));refine A1 (AE (BE ?_));refine AS (Jc (S:=Nat) (λ(k:Nat)=>k≤p.length∧Bz H9 0 p=Bz H9 k (p.drop k)) (λ(k:Nat)=>[(0,.string (B (p))),(2,.bool (false)),(6,.pointer (some ⟨hd,0,none⟩))]) (λ(k:Nat)=>[.blk hd (.stringIter (B p) (k))]) (λ(k:Nat)=>p.length-k) (0) ?_ ⟨rfl,rfl,rfl,trivial⟩ (.cons_cons _ (.slnil)) ?_)
 ·exact⟨Qw _,by simp⟩
 rintro k hi0;refine Au (A4 (M3 (i:=0) rfl rfl rfl (λhend=>?_) (λhj hg hi hh hlu39 hhu39 hwu39=>?_)))
 ·refine AD (AG rfl rfl) rfl (A1 (AE (BE ?_)));refine Au (Co rfl rfl (B7 (AB (AB (Bi (AE (BE ?_)))))));refine AU [(2,.bool (((decide ((1)≤((p.length:Int))))&&(decide (((p.length:Int))≤(64))))))] [.blk hd (.stringIter (B p) (k))] (φ:=True) ?_ (λhk=>?_)
  ·refine A4 (AD (Ax rfl) rfl (AD (C5 Eu rfl) rfl (AD (KF rfl rfl) rfl (AD (Ax rfl) rfl (AY (decide ((1)≤((p.length:Int)))) (λha=>?_) (λha=>?_))))))
   ·have he:=ha;try simp only[PQ,PP] at he
    refine Bc rfl rfl ha (AD (Ax rfl) rfl (Bc rfl rfl ha (AD (C5 Eu rfl) rfl (Bc rfl rfl ha (AD (KE rfl rfl) rfl (AD (Ar rfl ha rfl) rfl (AD (AK rfl) rfl (A1 ?_))))))));exact AE (BQ trivial ⟨fb (by first | (simp only[ha,Qn,Qz,Qu,Qk,Qx,Q0,Qv,Q2,Qe,Qy,Ql,Qa,if_true,if_false,reduceIte,Bool.false_eq_true];done) | simp[ha]),trivial⟩ (.cons_cons _ (.slnil)))
   ·have he:=ha;try simp only[PQ,PP] at he
    refine A9 rfl rfl ha rfl (A9 rfl rfl ha rfl (A9 rfl rfl ha rfl (AD (AJ rfl ha rfl) rfl (AD (AK rfl) rfl (A1 ?_)))));exact AE (BQ trivial ⟨fb (by first | (simp only[ha,Qn,Qz,Qu,Qk,Qx,Q0,Qv,Q2,Qe,Qy,Ql,Qa,if_true,if_false,reduceIte,Bool.false_eq_true];done) | simp[ha]),trivial⟩ (.cons_cons _ (.slnil)))
  refine A0 (Az (BJ rfl rfl) ?_);exact LN (by rw[OI hi0 hend])
 ·refine AD (AG rfl rfl) rfl (A1 (AE (BE ?_)));refine Au (Bx rfl rfl (A7 (AE (BE ?_))));refine AS (Au (A4 (AD (AG rfl rfl) rfl (AD (AK rfl) rfl (A1 (AE (BE ?_)))))));refine Au (A4 (AD (Ax rfl) rfl (Eb Tryz.call75 rfl (λw hw=>Nc (hg:Int) w) rfl (AD (B5 rfl) rfl (A1 (AE (BE ?_)))))));refine Jd (b:=!(CR (hg:Int))) rfl (λhb=>?_) (λhb=>?_)
  ·have hf:=hb;try simp only[PQ,PP] at hf
   refine Au (A4 (AD (AK rfl) rfl (A1 (AE (BE ?_)))));refine A0 (AI (Ai (AI (Ai (Az (BJ rfl rfl) ?_)))));exact LN (by rw[Pj hi0 hh hlu39 hhu39 hb])
  ·have hf:=hb;try simp only[PQ,PP] at hf
   refine A7 (AX (AE (AR (k+hi) ?_ ⟨rfl,rfl,rfl,trivial⟩ (.cons_cons _ (.slnil)))));exact NT hi0 hh hlu39 hhu39 hb
open Go
theorem Nm (m:Int)(h0 : -9223372036854775808≤m)(h1:m≤9223372036854775807)(w:World)(hE:Mr w):Calls Tryz.prog 94 [.int .i64 (m)].toArray w (J8 w (.string (B (Lib.itoa m)))):=by
 refine Ik (n:=5) Tryz.func94 rfl Tryz.ntmps94 rfl (Au (A4 (AD (AK rfl) rfl (A1 (AE (BE ?_))))));refine Au (A4 (AD (Ax rfl) rfl (Eb Tryz.call84 rfl (λw hw=>OC m (by omega) (by omega) w (hE.st0 hw)) rfl (AD (AK rfl) rfl (A1 (AE (BE ?_)))))));refine A0 (Az (BJ rfl rfl) ?_);exact LN (by first | rfl | simp[])
end Go.Proofs.YtfbmdidnlhifjaaGreatDoor
namespace Go.Proofs
open Go.Shelf
def Tryz.lays138_ren:Go.Shelf.Ren:=⟨fun | 138=>93 | 195=>115 | 218=>116 | 143=>117 | 219=>126 | 217=>132 | 225=>133 | 224=>134 | 267=>135 | 266=>140 | 314=>141 | n=>n,fun | 9=>9 | 3=>3 | 4=>4 | 5=>5 | 0=>0 | 46=>134 | 146=>173 | 51=>149 | n=>n,fun | 1=>0 | n=>n⟩
theorem Tryz.lays138:Go.Proofs.Lays.n138 Tryz.prog Tryz.lays138_ren:={
 mixed:=by kernel_rfl
 f138:=Tryz.func93.trans (congrArg some (by kernel_rfl))
 f143:=Tryz.func117.trans (congrArg some (by kernel_rfl))
 f195:=Tryz.func115.trans (congrArg some (by kernel_rfl))
 f217:=Tryz.func132.trans (congrArg some (by kernel_rfl))
 f218:=Tryz.func116.trans (congrArg some (by kernel_rfl))
 f219:=Tryz.func126.trans (congrArg some (by kernel_rfl))
 f224:=Tryz.func134.trans (congrArg some (by kernel_rfl))
 f225:=Tryz.func133.trans (congrArg some (by kernel_rfl))
 f266:=Tryz.func140.trans (congrArg some (by kernel_rfl))
 f267:=Tryz.func135.trans (congrArg some (by kernel_rfl))
 f314:=Tryz.func141.trans (congrArg some (by kernel_rfl))
 t0:=Tryz.underlying0
 a0:=Tryz.isAgg0
 z0:=Tryz.sizeOf0
 v0:=Tryz.zeroValue0
 t3:=Tryz.underlying3
 a3:=Tryz.isAgg3
 z3:=Tryz.sizeOf3
 v3:=Tryz.zeroValue3
 t4:=Tryz.underlying4
 a4:=Tryz.isAgg4
 z4:=Tryz.sizeOf4
 v4:=Tryz.zeroValue4
 t5:=Tryz.underlying5
 a5:=Tryz.isAgg5
 z5:=Tryz.sizeOf5
 v5:=Tryz.zeroValue5
 t9:=Tryz.underlying9
 a9:=Tryz.isAgg9
 z9:=Tryz.sizeOf9
 v9:=Tryz.zeroValue9
 t46:=Tryz.underlying134
 a46:=Tryz.isAgg134
 z46:=Tryz.sizeOf134
 v46:=Tryz.zeroValue134
 t51:=Tryz.underlying149
 a51:=Tryz.isAgg149
 z51:=Tryz.sizeOf149
 v51:=Tryz.zeroValue149
 t146:=Tryz.underlying173
 a146:=Tryz.isAgg173
 z146:=Tryz.sizeOf173
 v146:=Tryz.zeroValue173
 g1:=by kernel_rfl }
open Go.RowKit Go.Lib in
theorem Tryz.strings_Count_one (s:ByteArray)(c:UInt8)(w:World) :
  Calls Tryz.prog 93 #[.string s,.string ⟨#[c]⟩] w λe w'=>e = .returned (.int .i64 (Lib.countByte s.data.toList c))∧w'=w:=Any.strings_Count_one Tryz.lays138 s c w
end Go.Proofs
namespace Go.Proofs.YtfbmdidnlhifjaaGreatDoor
open Go
set_option linter.unusedVariables false
set_option linter.unusedSimpArgs false
open Go Go.RowKit
section
variable {P : Program} {n : Nat} {w0 : World} {M : List Nat} {l : Fr} {H : List Ent} {d : Option Nat} {x y : Operand} {ty t t' : TypeId} {pos : String} {af : Array Edge} {g : Option (Nat × Bool)} {k : IntKind} {p q z : Int}
end
set_option maxRecDepth 100000
end Go.Proofs.YtfbmdidnlhifjaaGreatDoor
namespace Go.Proofs.YtfbmdidnlhifjaaGreatDoor.Q
open Go Go.RowKit
set_option linter.unusedVariables false
def GE (Z:Fz):Prop:=∀w,LD Z w→Mr w
theorem GE.mono {Z Z':Fz}(h:Fz.le Z Z')(hg:GE Z):GE Z':=λw hw=>hg w ⟨λb o e=>hw b o (h b o e),λk i b e=>hw.nm k i b (h.nm k i b e)⟩
theorem J9.rle {P:Program}{E:Fz→Prop}{f:FuncId}{args:List Rp}{r r':Rp}(h:J9 P E f args r)(hr:DE r r'):J9 P E f args r':=λw Z vs hv hs=>
 (h w Z vs hv hs).mono λe w' ⟨q,v,H,Z',he,⟨hq,hH⟩,hp,ht⟩=>⟨r',v,H,Z',he,⟨rfl,hH⟩,hr Z' v (hq▸hp),ht⟩
theorem J9.of_id {P:Program}{E:Fz→Prop}{f:FuncId}{vs:List Value}{v:Value}(h:∀w,Calls P f vs.toArray w (λe w'=>e = .returned v∧w'=w)):J9 P E f (vs.map rv) (rv v):=
 J9.of_old λw Z _ _=>(h w).mono λe w' ⟨he,hw⟩=>⟨he,by rw[hw];exact Proofs.YtfbmdidnlhifjaaGreatDoor.St.refl w []⟩
theorem Nl (m:Int)(g:Cr .i64 m=true):J9 Tryz.prog GE 94 [rI .i64 m] (rS (Lib.itoa m)):=J9.of_old (vs:=[.int .i64 m]) λw Z hf he=>Nm m (J1 g).1 (J1 g).2 w (he w hf)
theorem L3 (s:Ao)(c:UInt8):J9 Tryz.prog GE 93 [rS s,rS [c]] (rI .i64 (Lib.countByte s c)):=J9.of_id (vs:=[.string (B s),.string (B [c])]) λw=>by have:=Tryz.strings_Count_one (B s) c w;rwa [OQ] at this
theorem Pi (s:Ao):J9 Tryz.prog GE 55 [rS s] (rB (Lw s)):=J9.of_old (vs:=[.string (B s)]) λw Z hf he=>P6 s w
open Go Go.RowKit Go.ChangeShapes Go.Deep
set_option linter.unusedSimpArgs false
def ZW (W:World):Fz:=⟨λb=>W.heap[b]?,λ_ _=>none⟩
theorem ZW.frz (W:World):LD (ZW W) W:=⟨λ_ _ h=>h,λ_ _ _ h=>by cases h⟩
def Hn (P:Program)(e:TypeId){α:Type}(enc:α→List Rp)(ok:α→Bool):Prop:=
 ∀{H:Type} {encH:TypeId×Value→H} {W:World} {sp:Nat→Bool} {held:Bool} {n:Nat} {cs:List Value} {x:DataW H×List MemPlace},DataW.trod encH P W 0 sp held n e cs=some x→∃y:α,ok y=true∧AM (ZW W) (enc y) cs
section
variable {P : Program} {e t : TypeId}
theorem Hn.int {k:IntKind}{enc:Int→List Rp}(ht:P.underlying e=some (.int k))(he:∀n,enc n=[rI k n]):Hn P e enc (Cr k):=λh=>by
 obtain⟨n,rfl,_,hwf⟩:=DataW.trod_int ht h;exact⟨n,hwf,by rw[he];exact⟨rfl,trivial⟩⟩
theorem Hn.str {enc:Ao→List Rp}(ht:P.underlying e=some .string)(he:∀n,enc n=[rS n]):Hn P e enc NK:=λh=>by
 obtain⟨s,rfl,_,hl⟩:=DataW.trod_string ht h;exact⟨s.data.toList,Qf (by rw[Array.length_toList];exact hl),by rw[he];exact⟨congrArg Value.string (P9 s),trivial⟩⟩
theorem Hn.bool {enc:Bool→List Rp}(ht:P.underlying e=some .bool)(he:∀n,enc n=[rB n]):Hn P e enc (λ_=>true):=λh=>by
 obtain⟨b,rfl,_⟩:=DataW.trod_bool ht h;exact⟨b,rfl,by rw[he];exact⟨rfl,trivial⟩⟩
theorem IU {W:World}{a:Addr}{v:Value}(h:W.cell? a=some v):a.spot=none∧Em (ZW W) a.block a.off=some v:=by
 unfold World.cell? at h;unfold Em ZW;dsimp only
 cases hh:W.heap[a.block]? with
 | none=>rw[hh] at h;cases h
 | some o=>
  rw[hh] at h
  cases o with
  | cells cs t fz=>
   cases hs:a.spot with
   | none=>simp[hs] at h;exact⟨rfl,h⟩
   | some _=>simp[hs] at h
  | _=>simp at h
theorem Hn.slice {α:Type}[Inhabited α]{enc:α→List Rp}{ok:α→Bool}{sz:Nat}(ht:P.underlying t=some (.slice e))(hc:P.cellsOf e=sz)(hsz:0<sz)(h:Hn P e enc ok)(hlen:∀y,(enc y).length=sz){enc':List α→List Rp}(he:∀ys,enc' ys=[AH sz (ys.map enc)]) :
  Hn P t enc' (λys=>ys.all ok&&decide (ys.length≤9223372036854775807)):=fun {H encH W sp held n cs x} hx=>by
 rcases open_slice ht hx with⟨rfl,_⟩ | ⟨a,len,cap,m,n',D,Pl,rfl,hb,hl,hm,hmm,_,hel⟩
 ·exact⟨[],by simp,by rw[he];exact⟨LC.nil sz _,trivial⟩⟩
 ·have hlm:len≤m:=by rw[hmm];split<;>omega
  have each:∀i,i<len→∃y:α,ok y=true∧∃cs',W.cells? 0 (a.add (i*sz)) sz=some cs'∧AM (ZW W) (enc y) cs':=λi hi=>by
   obtain⟨cs',h1,h2⟩:=hel i (by omega);obtain⟨y,hy,hr⟩:=h h2;rw[hc] at h1;exact⟨y,hy,cs',h1,hr⟩
  obtain⟨f,hf⟩:=choose_lt each;refine⟨(List.range len).map f,?_,?_⟩
  ·simp only[PY,Qj,List.mem_map,List.mem_range,PQ];refine⟨?_,by simp;simp only[maxLen] at hm;omega⟩;rintro _ ⟨i,hi,rfl⟩;exact(hf i hi).1
  ·rw[he];refine⟨⟨some a,cap,by simp,by simpa using hl,hm,(λh=>by cases h),λi c hi=>?_⟩,trivial⟩;rw[Qt,Qs] at hi;have hil:i<len:=by
    cases hq:(List.range len)[i]? with
    | none=>rw[hq] at hi;cases hi
    | some _=>have:=(List.getElem?_eq_some_iff.1 hq).1;simpa using this
   rw[List.getElem?_range hil] at hi;simp only[Option.map_some,Option.some.injEq,Function.comp] at hi;subst hi;obtain⟨_,cs',h1,hr⟩:=hf i hil;obtain⟨_,hcl,hcell⟩:=World.cells?_some h1;have hsp:a.spot=none:=by
    obtain⟨_,cs0,g1,_⟩:=hf 0 (by omega);obtain⟨_,gcl,gcell⟩:=World.cells?_some g1;have h0:=gcell 0 hsz;rw[PR (by omega)] at h0;have:=(IU h0).1;simpa[Addr.add] using this
   refine⟨hlen _,a,rfl,hsp,λj r hj=>?_⟩;obtain⟨u,hu,hp⟩:=hr.at hj;have hjs:j<sz:=by have:=(List.getElem?_eq_some_iff.1 hj).1;rw[hlen] at this;exact this
   have h3:=hcell j hjs;rw[hu] at h3;have h4:=(IU h3).2;refine⟨u,?_,hp⟩;have e1:((a.add (i*sz)).add j).block=a.block:=by simp only[Addr.add];split<;>split<;>rfl
   have e2:((a.add (i*sz)).add j).off=a.off+(i*sz+j):=by simp only[Addr.add];split<;>split<;>simp_all<;>omega
   rw[e1,e2] at h4;exact h4
theorem Li {Z:Fz}{cs:List Value}{o:Nat}(h:cs.length=o):AM Z [] (cs.drop o):=by rw[List.drop_of_length_le (by omega)];trivial
theorem Dg {Z:Fz}{cs:List Value}{o s o':Nat}{rs rs':List Rp}(h:AM Z rs ((cs.drop o).take s))(ho:o+s=o')(h2:AM Z rs' (cs.drop o')):AM Z (rs++rs') (cs.drop o):=by
 rw[← List.take_append_drop s (cs.drop o),List.drop_drop];subst ho;exact h.append h2
theorem Hn.val {α:Type}{enc:α→List Rp}{ok:α→Bool}(h:Hn P e enc ok){r:α→Rp}(he:∀y,enc y=[r y]){H:Type}{encH:TypeId×Value→H}{W:World}{sp:Nat→Bool}{held:Bool}{v:Value}{d:DataW H}{ps:List MemPlace}
  (hone:v.cells = #[v]) (ht:DataW.Trod encH P W 0 sp held e v d ps):∃y:α,ok y=true∧(r y).p (ZW W) v:=by
 obtain⟨fuel,hf⟩:=ht;rw[hone] at hf;obtain⟨y,hy,hr⟩:=h hf;rw[he] at hr;exact⟨y,hy,hr.1⟩
theorem Hn.valAgg {α:Type}{enc:α→List Rp}{ok:α→Bool}(h:Hn P e enc ok){H:Type}{encH:TypeId×Value→H}{W:World}{sp:Nat→Bool}{held:Bool}{cs:Array Value}{d:DataW H}{ps:List MemPlace}
  (ht:DataW.Trod encH P W 0 sp held e (.agg cs) d ps):∃y:α,ok y=true∧(AT (enc y)).p (ZW W) (.agg cs):=by
 obtain⟨fuel,hf⟩:=ht;obtain⟨y,hy,hr⟩:=h hf;exact⟨y,hy,cs.toList,by simp,hr⟩
end
theorem Nk {W w:World}(hw:LD (ZW W) w):W.heap.size≤w.heap.size:=by
 rcases Nat.eq_zero_or_pos W.heap.size with h | h
 ·omega
 ·have h1:W.heap[W.heap.size-1]? =some (W.heap[W.heap.size-1]'(by omega)):=Array.getElem?_eq_getElem (by omega);have:=(Array.getElem?_eq_some_iff.1 (hw _ _ h1)).1;omega
theorem Mg {W:World}(hE:Mr W):GE (ZW W):=λw hw=>by
 have hb:Below W.heap.size W { w with os:=W.os,tape:=W.tape,output:=W.output }:=⟨rfl,rfl,rfl,(show W.heap.size≤w.heap.size from Nk hw),λk hk=>by
  have h1:W.heap[k]? =some (W.heap[k]'hk):=Array.getElem?_eq_getElem hk;rw[h1];exact hw k _ h1⟩
 have hE2:=hE.st0 (St.of_below hb);exact⟨J7.block { w with os:=W.os,tape:=W.tape,output:=W.output } w (λ_ _=>rfl) hE2.tabs,hE2.size⟩
theorem M7 {W:World}(hE:Mr W):St ⟨W,ZW W,[],GE,[]⟩ [] (ZW W) W where
 os:=rfl
 tape:=rfl
 output:=rfl
 size:=PW _
 old:=λ_ _ _=>rfl
 has:=λ_ h=>by cases h
 own:=λ_ h=>by cases h
 dis:=.nil
 frz:=ZW.frz W
 le:=Fz.le.refl _
 new:=λ_ _ h=>.inl h
 zdis:=λ_ h=>by cases h
 env:=Mg hE
 emono:=λh hg=>GE.mono h hg
 gst:=GR.none rfl
theorem M8 {W W':World}{Z Z':Fz}{E:Fz→Prop}{H:List Ent}(h:St ⟨W,Z,[],E,[]⟩ H Z' W'):Below W.heap.size W W':=⟨h.os,h.tape,h.output,h.size,λk hk=>h.old k hk (by simp)⟩
open Go
set_option maxRecDepth 100000
set_option maxHeartbeats 4000000
end Go.Proofs.YtfbmdidnlhifjaaGreatDoor.Q
namespace Go.Proofs.YtfbmdidnlhifjaaGreatDoor
open Go
set_option linter.unusedVariables false
structure Ac where
 fKind:Int
 fInt:Int
 fStr:Ao
 fN:Int
 deriving DecidableEq,Inhabited
def LR (s:Ao)(ha:Int):Option (Stp (Int) (Out (Bool) (Unit))):=
 B0 (decide (ha<(s.length:Int))) (Bn (BV ha (s.length:Int))<|B0 (((decide ((La s ha)<32))||(decide (126<(La s ha))))) (some (.out (.ret false))) (Bn (Cr .i64 (ha+1))<|some (.next (ha+1)))) (some (.out (.go ())))
def LP :Option (Bool):=
 some true
def Ji (F:Nat)(s:Ao):Option (Bool):=
 B6 (CB (λσ=>LR s σ) F 0) (Cf λν=>LP )
def BN (ok:Bool)(i:Int):Option (Int):=
 B0 (ok) (Bn (Cr .i64 (i+1))<|some (i+1)) (some (-1))
def ME (F:Nat)(c:Ac):Option (Bool):=
 Bn (imp (decide (c.fKind=4)) (imp (decide (c.fInt=0)) (imp (decide (c.fN=0)) ((Ji F c.fStr).isSome))))<|some ((decide (c.fKind=4))&&((decide (c.fInt=0))&&((decide (c.fN=0))&&(ov (Ji F c.fStr)))))
def MC (F:Nat)(ha:(List Ac)→Int→Int→Option (Int))(hb:(List Ac)→Int→Int→Option (Int))(v:(List Ac))(i:Int):Option (Int):=
 B0 (((decide (i<0))||(decide ((v.length:Int)≤i)))) (some (-1)) (Bn (BV i (v.length:Int))<|B0 (decide (((Aj v i).fKind)=1)) (Bn (imp (decide (((Aj v i).fInt)=0)) (imp (decide (((Aj v i).fStr)=([]:Ao))) ((BN (decide (((Aj v i).fN)=0)) i).isSome)))<|Bn (imp (decide (((Aj v i).fInt)=0)) (imp (!(decide (((Aj v i).fStr)=([]:Ao)))) ((BN false i).isSome)))<|Bn (imp (!(decide (((Aj v i).fInt)=0))) ((BN false i).isSome))<|some (bif decide (((Aj v i).fInt)=0) then(bif decide (((Aj v i).fStr)=([]:Ao)) then(ov (BN (decide (((Aj v i).fN)=0)) i)) else(ov (BN false i))) else(ov (BN false i)))) (B0 (decide (((Aj v i).fKind)=2)) (Bn (imp (decide (((Aj v i).fInt)=0)) (imp (decide (((Aj v i).fStr)=([]:Ao))) ((BN (decide (((Aj v i).fN)=0)) i).isSome)))<|Bn (imp (decide (((Aj v i).fInt)=0)) (imp (!(decide (((Aj v i).fStr)=([]:Ao)))) ((BN false i).isSome)))<|Bn (imp (!(decide (((Aj v i).fInt)=0))) (imp (decide (((Aj v i).fInt)=1)) (imp (decide (((Aj v i).fStr)=([]:Ao))) ((BN (decide (((Aj v i).fN)=0)) i).isSome))))<|Bn (imp (!(decide (((Aj v i).fInt)=0))) (imp (decide (((Aj v i).fInt)=1)) (imp (!(decide (((Aj v i).fStr)=([]:Ao)))) ((BN false i).isSome))))<|Bn (imp (!(decide (((Aj v i).fInt)=0))) (imp (!(decide (((Aj v i).fInt)=1))) ((BN false i).isSome)))<|some (bif decide (((Aj v i).fInt)=0) then(bif decide (((Aj v i).fStr)=([]:Ao)) then(ov (BN (decide (((Aj v i).fN)=0)) i)) else(ov (BN false i))) else(bif decide (((Aj v i).fInt)=1) then(bif decide (((Aj v i).fStr)=([]:Ao)) then(ov (BN (decide (((Aj v i).fN)=0)) i)) else(ov (BN false i))) else(ov (BN false i))))) (B0 (decide (((Aj v i).fKind)=3)) (Bn (imp (decide (((Aj v i).fStr)=([]:Ao))) ((BN (decide (((Aj v i).fN)=0)) i).isSome))<|Bn (imp (!(decide (((Aj v i).fStr)=([]:Ao)))) ((BN false i).isSome))<|some (bif decide (((Aj v i).fStr)=([]:Ao)) then(ov (BN (decide (((Aj v i).fN)=0)) i)) else(ov (BN false i)))) (B0 (decide (((Aj v i).fKind)=4)) (B6 (ME F (Aj v i)) λhd=>B6 (BN hd i) λhe=>some he) (B0 (((decide (((Aj v i).fKind)=5))&&((decide (((Aj v i).fInt)=0))&&((decide (((Aj v i).fStr)=([]:Ao)))&&(decide (0≤((Aj v i).fN))))))) (Bn (Cr .i64 (i+1))<|B6 (ha v (i+1) ((Aj v i).fN)) λhf=>some hf) (B0 (((decide (((Aj v i).fKind)=6))&&((decide (((Aj v i).fInt)=0))&&((decide (((Aj v i).fStr)=([]:Ao)))&&(decide (0≤((Aj v i).fN))))))) (Bn (Cr .i64 (i+1))<|B6 (hb v (i+1) ((Aj v i).fN)) λhg=>some hg) (some (-1))))))))
def Cp (v:(List Ac))(n:Int)(he:(List Ac)→Int→Option (Int))(hb:Int)(ha:Int):Option (Stp (Int×Int) (Out (Int) (Int))):=
 B0 (decide (ha<n)) (B6 (he v hb) λhd=>B0 (decide (hd<0)) (some (.out (.ret (-1)))) (Bn (Cr .i64 (ha+1))<|some (.next (hd,ha+1)))) (some (.out (.go hb)))
def Ee (ha:Int):Option (Int):=
 some ha
def HQ (F:Nat)(ha:(List Ac)→Int→Option (Int))(v:(List Ac))(i:Int)(n:Int):Option (Int):=
 B6 (CB (λσ=>Cp v n ha σ.1 σ.2) F (i,0)) (Cf λν=>Ee ν)
def CD (F:Nat)(v:(List Ac))(n:Int)(hf:(List Ac)→Int→Option (Int))(ha:Int)(hd:Ao)(hb:Int):Option (Stp (Int×Ao×Int) (Out (Int) (Int))):=
 B0 (decide (hb<n)) (Bn (imp (!(decide ((v.length:Int)≤ha))) (BV ha (v.length:Int)))<|Bn (imp (!(decide ((v.length:Int)≤ha))) ((ME F (Aj v ha)).isSome))<|B0 (((decide ((v.length:Int)≤ha))||((!(ov (ME F (Aj v ha))))||((decide (0<hb))&&(CY ((Aj v ha).fStr) hd||decide (((Aj v ha).fStr)=hd)))))) (some (.out (.ret (-1)))) (Bn (BV ha (v.length:Int))<|Bn (Cr .i64 (ha+1))<|B6 (hf v (ha+1)) λhe=>B0 (decide (he<0)) (some (.out (.ret (-1)))) (Bn (Cr .i64 (hb+1))<|some (.next (he,(Aj v ha).fStr,hb+1))))) (some (.out (.go ha)))
def GZ (ha:Int):Option (Int):=
 some ha
def Lk (F:Nat)(ha:(List Ac)→Int→Option (Int))(v:(List Ac))(i:Int)(n:Int):Option (Int):=
 B6 (CB (λσ=>CD F v n ha σ.1 σ.2.1 σ.2.2) F (i,([]:Ao),0)) (Cf λν=>GZ ν)
mutual
def IC:Nat→(List Ac)→Int→Option (Int)
 | 0,_,_=>none
 | nn+1,v,i=>MC nn (ID nn) (MB nn) v i
def ID:Nat→(List Ac)→Int→Int→Option (Int)
 | 0,_,_,_=>none
 | nn+1,v,i,n=>HQ nn (IC nn) v i n
def MB:Nat→(List Ac)→Int→Int→Option (Int)
 | 0,_,_,_=>none
 | nn+1,v,i,n=>Lk nn (IC nn) v i n
end
end Go.Proofs.YtfbmdidnlhifjaaGreatDoor
namespace Go.Proofs.YtfbmdidnlhifjaaGreatDoor.Q
open Go Go.RowKit
set_option linter.unusedVariables false
set_option linter.unusedSimpArgs false
set_option maxRecDepth 100000
set_option maxHeartbeats 4000000
@[reducible] def Ab (x:Ac):List Rp:=[Ah x.fKind,Ah x.fInt,rS x.fStr,Ah x.fN]
theorem B1 (x:Ac):(Ab x).length=4:=rfl
theorem I5 (x:Ac):(Ab x).all (·.one)=true:=rfl
end Go.Proofs.YtfbmdidnlhifjaaGreatDoor.Q
