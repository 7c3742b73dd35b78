/-
  Texts of the proof, put together: AL, FwA, FwB, FwC, FwD, FwE, PlA, FwF, ShelfN, FwG, Row, QA, QB, PQ0, QC, FwH, FwK, QD, QE, QR, IdA, PlB, IdB, PlC.
-/
import Derived.Test.YthjcjnbngagagaaDoorProg
import Derived.WalkKit
import Derived.Deep.QuietTactic
import Derived.Deep.LoopGhost
import Derived.Lib.Strings
import Derived.Lib.Bytealg
import Derived.Shelf.Strconv.Itoa3
import Derived.Shelf.LaysM
import Derived.Shelf.LaysC
import Derived.Shelf.Strconv.AtoiAll
import Derived.Shelf.Strconv.ErrVarAll
import Derived.Lib.SmallJoins
import Derived.Lib.AppendIntMem
import Derived.Test.YthjcjnbngagagaaDoorCards
import Derived.Test.YthjcjnbngagagaaDoorTie
import Derived.Carry
import Derived.ChangeSame
import Derived.ProofKit
import Derived.OpenShut
import Derived.Deep.DeepHandedRow
import Derived.Deep.DeepWitnessRowRef
import Derived.Lib.LaidTab
import Derived.Lib.LaidIn
import Derived.Stop.LaidErr
import Derived.Scope
import GoSem.Core.View
import GoSem.Op.String
import Derived.IntWalk
import Derived.Laws.AppendOwn
import Derived.Laws.OwnMore
import Derived.Great.FillDense
import Derived.Lib.AtoiAllCases
import Derived.Lib.ItoaNum
import Derived.Lib.ItoaLen
namespace Go.Proofs.YthjcjnbngagagaaDoor
open Go
abbrev Hq:=@Tryd.isAgg9
abbrev Gc:=@Tryd.call10
abbrev Hp:=@Tryd.call11
abbrev Hn:=@Tryd.call16
abbrev JN:=@Tryd.call6
abbrev Ds:=@Tryd.sizeOf9
abbrev AL:=@Tryd.underlying22
abbrev Cw:=@Tryd.underlying9
abbrev IX:=@Tryd.zeroValue9
abbrev Kj:=@decide_eq_false_iff_not
abbrev Kk:=@decide_eq_true_eq
abbrev Kl:=@Bool.false_eq_true
abbrev Km:=@Bool.false_and
abbrev Kn:=@Bool.not_false
abbrev Ko:=@Bool.and_false
abbrev Kq:=@Bool.false_or
abbrev Kr:=@Bool.true_and
abbrev Ks:=@Bool.or_false
abbrev Kt:=@Bool.not_true
abbrev Ku:=@Bool.and_true
abbrev Kv:=@Bool.true_or
abbrev Kw:=@Bool.or_true
abbrev Kx:=@List.getElem?_eq_getElem
abbrev Ky:=@cond_false
abbrev K0:=@Bool.and_eq_true
abbrev K1:=@cond_true
abbrev K2:=@decide_eq_true
abbrev K3:=@if_false
abbrev K4:=@List.mem_singleton
abbrev K5:=@decide_eq_false
abbrev K6:=@Bool.or_eq_true
abbrev K7:=@Bool.or_eq_false_iff
abbrev K8:=@if_true
abbrev K9:=@List.length_map
abbrev KA:=@Bool.and_eq_false_iff
abbrev KB:=@List.getD_eq_getElem?_getD
abbrev KC:=@Bool.not_eq_true'
abbrev KD:=@List.eq_nil_of_length_eq_zero
abbrev KE:=@Bool.not_eq_false'
abbrev KF:=@Nat.le_refl
abbrev KG:=@List.mem_of_getElem?
abbrev KH:=@Bool.eq_iff_iff
abbrev KI:=@Nat.zero_le
open Go Go.RowKit
set_option linter.unusedVariables false
abbrev Fr:=List (Nat×Value)
def look:Fr→Nat→Option Value
 | [],_=>none
 | p::l,i=>bif Nat.beq p.1 i then some p.2 else look l i
theorem AH (j:Nat)(v:Value)(l:Fr)(i:Nat):look ((j,v)::l) i=if j=i then some v else look l i:=by
 by_cases h:j=i
 ·subst h;simp[look]
 ·have:Nat.beq j i=false:=by
   cases hb:Nat.beq j i
   ·rfl
   ·exact absurd (Nat.eq_of_beq_eq_true hb) h
  simp[look,this,h]
structure AU (n:Nat) (l:Fr) (a:Act):Prop where
 size:a.tmps.size=n
 defers:a.defers=[]
 tm:∀i v,look l i=some v→a.tmps[i]? =some v
def ev:Fr→Operand→Option Value
 | l,.tmp t=>look l t
 | _,.const v=>some v
 | _,.global g=>some (.pointer (some ⟨g,0,none⟩))
 | _,.func f=>some (.func (.func f) #[] #[])
section
variable {n : Nat} {l l' : Fr} {a : Act}
theorem AU.eval (h:AU n l a){x:Operand}{v:Value}(hx:ev l x=some v):a.eval x=v:=by
 cases x with
 | tmp t=>simp[Act.eval,Array.getD_eq_getD_getElem?,h.tm t v hx]
 | const u=>simp only[ev,Option.some.injEq] at hx;subst hx;rfl
 | global g=>simpa[ev,Act.eval] using hx
 | func f=>simpa[ev,Act.eval] using hx
theorem AU.put (h:AU n l a){d:Nat}(hd:Nat.blt d n=true)(v:Value):AU n ((d,v)::l) (a.put (some d) v):=by
 have hd':d<n:=by simpa using hd
 refine⟨by simp[Act.put,h.size],by simp[Act.put,h.defers],λi u hi=>?_⟩;rw[AH] at hi;simp only[Act.put,Array.getElem?_setIfInBounds]
 split at hi
 ·rename_i e;subst e;simp at hi;subst hi;simp[h.size,hd']
 ·rename_i e;rw[if_neg e];exact h.tm i u hi
theorem AU.put_none (h:AU n l a)(v:Value):AU n l (a.put none v):=h
def A9:Fr→Fr→Prop
 | [],_=>True
 | p::r,l=>look l p.1=some p.2∧A9 r l
theorem A9.look:∀{l' l:Fr},A9 l' l→∀i v,look l' i=some v→Proofs.YthjcjnbngagagaaDoor.look l i=some v
 | [],_,_,i,v,h=>by simp[Proofs.YthjcjnbngagagaaDoor.look] at h
 | p::r,l,⟨h1,h2⟩,i,v,h=>by
  obtain⟨j,u⟩:=p;rw[AH] at h
  split at h
  ·rename_i e;subst e;simp at h;subst h;exact h1
  ·exact A9.look h2 i v h
theorem AU.sub (h:AU n l a)(hs:A9 l' l):AU n l' a:=⟨h.size,h.defers,λi v hi=>h.tm i v (hs.look i v hi)⟩
end
inductive Ent where
 | blk (b:Nat) (o:Obj)
 | row (v:Value) (e:TypeId) (sz:Nat) (n:Nat) (xs:List Value)
def Ent.foot:Ent→List Nat
 | .blk b _=>[b]
 | .row v _ _ _ _=>v.ownBlock.toList
def Ent.holds (w:World):Ent→Prop
 | .blk b o=>w.heap[b]? =some o
 | .row v e sz n xs=>w.ownsRow 0 e sz v n xs
theorem Ent.lt {w:World}{e:Ent}(h:e.holds w){k:Nat}(hk:k∈e.foot):k<w.heap.size:=by
 cases e with
 | blk b o=>simp[Ent.foot] at hk;subst hk;exact(Array.getElem?_eq_some_iff.1 h).1
 | row v e sz n xs=>simp[Ent.foot,Option.mem_toList] at hk;exact(World.ownsRow.lt h k hk).2
theorem Ent.keep {w w':World}{e:Ent}(h:e.holds w)(hk:∀k∈e.foot,w'.heap[k]? =w.heap[k]?):e.holds w':=by
 cases e with
 | blk b o=>exact(hk b (by simp[Ent.foot])).trans h
 | row v e sz n xs=>
  refine⟨h.1,?_⟩;rcases h.2 with hn | ⟨g,cap,cur,rfl,hb,hgg,rest⟩
  ·exact .inl hn
  ·exact .inr ⟨g,cap,cur,rfl,hb,(hk g (by simp[Ent.foot,Value.ownBlock])).trans hgg,rest⟩
structure St (w0:World) (M:List Nat) (H:List Ent) (w:World):Prop where
 os:w.os=w0.os
 tape:w.tape=w0.tape
 output:w.output=w0.output
 size:w0.heap.size≤w.heap.size
 old:∀k,k<w0.heap.size→k ∉ M→w.heap[k]? =w0.heap[k]?
 has:∀e∈H,e.holds w
 own:∀e∈H,∀k∈e.foot,w0.heap.size≤k∨k∈M
 dis:H.Pairwise (λe e'=>∀k∈e.foot,k ∉ e'.foot)
section
variable {w0 w w' : World} {M M2 : List Nat} {H H' Hr Hin Hout : List Ent}
theorem St.refl (w:World)(M:List Nat):St w M [] w:=⟨rfl,rfl,rfl,KF _,λ_ _ _=>rfl,by simp,by simp,.nil⟩
theorem St.enter (h:St w0 M H w):St w (H.flatMap Ent.foot) H w:=
 ⟨rfl,rfl,rfl,KF _,λ_ _ _=>rfl,h.has,λe he k hk=>.inr (List.mem_flatMap.2 ⟨e,he,hk⟩),h.dis⟩
theorem St.below (h:St w0 [] H w):Below w0.heap.size w0 w:=⟨h.os,h.tape,h.output,h.size,λk hk=>h.old k hk (by simp)⟩
theorem St.of_below (h:Below w0.heap.size w0 w):St w0 [] [] w:=⟨h.os,h.tape,h.output,h.size,λk hk _=>h.block k hk,by simp,by simp,.nil⟩
theorem St.sub (h:St w0 M H w)(hs:H'.Sublist H):St w0 M H' w:=
 ⟨h.os,h.tape,h.output,h.size,h.old,λe he=>h.has e (hs.subset he),λe he=>h.own e (hs.subset he),h.dis.sublist hs⟩
theorem St.perm (h:St w0 M H w)(hp:H.Perm H'):St w0 M H' w:=
 ⟨h.os,h.tape,h.output,h.size,h.old,λe he=>h.has e (hp.mem_iff.2 he),λe he=>h.own e (hp.mem_iff.2 he),
  (hp.pairwise_iff (λhxy k hk hk'=>hxy k hk' hk)).1 h.dis⟩
theorem AI:∀{H:List Ent} {i:Nat} {e:Ent},H[i]? =some e→H.Perm (e::H.eraseIdx i)
 | x::r,0,e,h=>by simp at h;subst h;simp
 | x::r,i+1,e,h=>by
  simp at h;exact((AI h).cons x).trans (List.Perm.swap e x _)
theorem St.front (h:St w0 M H w){i:Nat}{e:Ent}(hi:H[i]? =some e):St w0 M (e::H.eraseIdx i) w:=h.perm (AI hi)
theorem St.drew (h:St w0 M H w):St w0 M H w.drew:=
 ⟨h.os,h.tape,h.output,h.size,h.old,λe he=>Ent.keep (h.has e he) λ_ _=>rfl,h.own,h.dis⟩
theorem St.drawn (h:St w0 M H w)(k:Nat):St w0 M H { w with drawn:=k }:=
 ⟨h.os,h.tape,h.output,h.size,h.old,λe he=>Ent.keep (h.has e he) λ_ _=>rfl,h.own,h.dis⟩
theorem St.mem_lt (h:St w0 M H w){e:Ent}(he:e∈H){k:Nat}(hk:k∈e.foot):k<w.heap.size:=Ent.lt (h.has e he) hk
theorem St.call (h:St w0 M (Hin++Hr) w)(h':St w M2 Hout w')(hM:∀k∈M2,∃e∈Hin,k∈e.foot):St w0 M (Hout++Hr) w':=by
 have hd:=List.pairwise_append.1 h.dis;have hM2:∀k,k<w0.heap.size→k ∉ M→k ∉ M2:=λk hk hkM hkM2=>by
  obtain⟨e,he,hke⟩:=hM k hkM2;rcases h.own e (List.mem_append_left _ he) k hke with h1 | h1
  ·omega
  ·exact hkM h1
 have hr:∀e∈Hr,∀k∈e.foot,k<w.heap.size∧k ∉ M2:=λe he k hk=>by
  refine⟨h.mem_lt (List.mem_append_right _ he) hk,λhkM2=>?_⟩;obtain⟨e',he',hke'⟩:=hM k hkM2;exact hd.2.2 e' he' e he k hke' hk
 refine⟨h'.os.trans h.os,h'.tape.trans h.tape,h'.output.trans h.output,Nat.le_trans h.size h'.size,λk hk hkM=>?_,λe he=>?_,λe he k hk=>?_,?_⟩
 ·exact(h'.old k (Nat.lt_of_lt_of_le hk h.size) (hM2 k hk hkM)).trans (h.old k hk hkM)
 ·rcases List.mem_append.1 he with he | he
  ·exact h'.has e he
  ·exact Ent.keep (h.has e (List.mem_append_right _ he)) λk hk=>h'.old k (hr e he k hk).1 (hr e he k hk).2
 ·rcases List.mem_append.1 he with he | he
  ·rcases h'.own e he k hk with h1 | h1
   ·exact .inl (Nat.le_trans h.size h1)
   ·obtain⟨e',he',hke'⟩:=hM k h1;exact h.own e' (List.mem_append_left _ he') k hke'
  ·exact h.own e (List.mem_append_right _ he) k hk
 ·refine List.pairwise_append.2 ⟨h'.dis,hd.2.1,λe he e' he' k hk hk'=>?_⟩;rcases h'.own e he k hk with h1 | h1
  ·have:=(hr e' he' k hk').1;omega
  ·exact(hr e' he' k hk').2 h1
theorem St.call0 (h:St w0 M H w)(h':St w [] Hout w'):St w0 M (Hout++H) w':=
 St.call (Hin:=[]) (by simpa using h) h' (by simp)
theorem St.set (h:St w0 M H w){i:Nat}{e e':Ent}(hi:H[i]? =some e)(os:w'.os=w.os)(tape:w'.tape=w.tape)(output:w'.output=w.output)(size:w.heap.size≤w'.heap.size)
  (hb:∀k,k<w.heap.size→k ∉ e.foot→w'.heap[k]? =w.heap[k]?) (he:e'.holds w') (hf:∀k∈e'.foot,k∈e.foot∨w.heap.size≤k):St w0 M (H.set i e') w':=by
 have hp:(e::H.eraseIdx i).Perm H:=(AI hi).symm;have h1:St w0 M ([e]++H.eraseIdx i) w:=h.perm (AI hi);have hil:i<H.length:=(List.getElem?_eq_some_iff.1 hi).1;have h2:St w e.foot [e'] w':=
  ⟨os,tape,output,size,hb,by simpa using he,by simpa using λk hk=>(hf k hk).symm,by simp⟩
 have h3:=h1.call h2 (λk hk=>⟨e,by simp,hk⟩);have hq:(H.set i e')[i]? =some e':=by simp[hil]
 have:=AI hq;rw[List.eraseIdx_set_eq] at this;exact h3.perm this.symm
theorem St.alloc (h:St w0 M H w)(o:Obj):St w0 M (.blk w.heap.size o::H) (w.alloc o):=by
 have h2:St w [] [.blk w.heap.size o] (w.alloc o):=
  ⟨rfl,rfl,rfl,by simp,λk hk _=>Below.heap_alloc w o k hk,by simpa[Ent.holds] using heap_alloc_new w o,by simp[Ent.foot],by simp⟩
 exact h.call0 h2
end
section
variable (P : Program) (n : Nat) (w0 : World) (M : List Nat)
def WL (ops:Array Oper)(Q:Exit→Act→World→Prop)(rest:List Oper)(l:Fr)(H:List Ent):Prop:=∀a w,AU n l a→St w0 M H w→wpList P ops Q rest a w
def WC (c:Code)(Q:Exit→Act→World→Prop)(l:Fr)(H:List Ent):Prop:=∀a w,AU n l a→St w0 M H w→c.wp P Q a w
def WK (K:Act→World→Prop)(l:Fr)(H:List Ent):Prop:=∀a w,AU n l a→St w0 M H w→K a w
def Cv {S:Type}(inv:S→Prop)(fr:S→Fr)(hp:S→List Ent):Act→World→Prop:=λa w=>∃s,inv s∧AU n (fr s) a∧St w0 M (hp s) w
def A3 (l:Fr)(H:List Ent)(o:Oper)(v:Value):Prop:=∀a w,AU n l a→St w0 M H w→(execOp a.eval o).run P w = .ok (.value v) w
end
def Id (w:World)(M:List Nat)(Φ:Value→List Ent→Prop):Ending→World→Prop:=λe w'=>∃v H,e = .returned v∧St w M H w'∧Φ v H
def AQ (w:World)(v:Value):Ending→World→Prop:=λe w'=>e = .returned v∧St w [] [] w'
section
variable {P : Program} {n : Nat} {w0 : World} {M : List Nat} {ops : Array Oper} {Q : Exit → Act → World → Prop} {rest : List Oper} {l l' : Fr} {H H' : List Ent} {x y c : Code} {K : Act → World → Prop}
theorem WC.sub (hl:A9 l' l)(hH:H'.Sublist H)(h:WC P n w0 M c Q l' H'):WC P n w0 M c Q l H:=λa w ha hw=>h a w (ha.sub hl) (hw.sub hH)
theorem WK.sub (hl:A9 l' l)(hH:H'.Sublist H)(h:WK n w0 M K l' H'):WK n w0 M K l H:=λa w ha hw=>h a w (ha.sub hl) (hw.sub hH)
theorem WL.sub (hl:A9 l' l)(hH:H'.Sublist H)(h:WL P n w0 M ops Q rest l' H'):WL P n w0 M ops Q rest l H:=λa w ha hw=>h a w (ha.sub hl) (hw.sub hH)
theorem WL.front {i:Nat}{e:Ent}(hi:H[i]? =some e)(h:WL P n w0 M ops Q rest l (e::H.eraseIdx i)):WL P n w0 M ops Q rest l H:=λa w ha hw=>h a w ha (hw.front hi)
theorem Ai (h:WC P n w0 M x (Exit.then (λa w=>y.wp P Q a w) Q) l H):WC P n w0 M (x.seq y) Q l H:=λa w ha hw=>wp_seq (h a w ha hw)
theorem Cj {S:Type}(inv:S→Prop)(fr:S→Fr)(hp:S→List Ent)(h:WC P n w0 M x (Exit.then (Cv n w0 M inv fr hp) Q) l H)(h2:∀s,inv s→WC P n w0 M y Q (fr s) (hp s)) :
  WC P n w0 M (x.seq y) Q l H:=λa w ha hw=>wp_seq (wp_mono (h a w ha hw) λe a w q=>by
   cases e with
   | normal=>obtain⟨s,hi,hs,ht⟩:=q;exact h2 s hi a w hs ht
   | _=>exact q)
theorem A8 {S:Type}{inv:S→Prop}{fr:S→Fr}{hp:S→List Ent}(s:S)(hi:inv s)(hl:A9 (fr s) l)(hH:(hp s).Sublist H):WK n w0 M (Cv n w0 M inv fr hp) l H:=
 λ_ _ ha hw=>⟨s,hi,ha.sub hl,hw.sub hH⟩
theorem Ad (h:WK n w0 M K l H):WK n w0 M (Exit.then K Q .normal) l H:=h
theorem Av {id:Nat}(h:WK n w0 M (Q (.exit id)) l H):WK n w0 M (Exit.then K Q (.exit id)) l H:=h
theorem An (h:WK n w0 M (Q .ret) l H):WK n w0 M (Exit.then K Q .ret) l H:=h
theorem AC {id:Nat}(h:WK n w0 M (Q .normal) l H):WK n w0 M (Exit.inBlock id Q .normal) l H:=h
theorem A7 {id:Nat}(h:WK n w0 M (Q .ret) l H):WK n w0 M (Exit.inBlock id Q .ret) l H:=h
theorem A1 {J:Prop}(b:Bool)(h1:b=true→J)(h2:b=false→J):J:=by cases b;exact h2 rfl;exact h1 rfl
def J7 (n:Nat)(w0:World)(M:List Nat)(φ:Prop)(l:Fr)(H:List Ent):Act→World→Prop:=λa w=>φ∧AU n l a∧St w0 M H w
theorem Az (l1:Fr)(H1:List Ent){φ:Prop}(h:WC P n w0 M x (Exit.then (J7 n w0 M φ l1 H1) Q) l H)(h2:φ→WC P n w0 M y Q l1 H1):WC P n w0 M (x.seq y) Q l H:=λa w ha hw=>
 wp_seq (wp_mono (h a w ha hw) λe a w q=>by
  cases e with
  | normal=>exact h2 q.1 a w q.2.1 q.2.2
  | _=>exact q)
theorem As {φ:Prop}{l1:Fr}{H1:List Ent}(hφ:φ)(hl:A9 l1 l)(hH:H1.Sublist H):WK n w0 M (J7 n w0 M φ l1 H1) l H:=λ_ _ ha hw=>⟨hφ,ha.sub hl,hw.sub hH⟩
theorem fi {k:IntKind}{a b:Int}(h:a=b):some (Value.int k a)=some (Value.int k b):=by rw[h]
theorem fb {a b:Bool}(h:a=b):some (Value.bool a)=some (Value.bool b):=by rw[h]
theorem Af (h:WC P n w0 M y Q l H):WK n w0 M (λa w=>y.wp P Q a w) l H:=h
theorem Ax (h:WK n w0 M (Q .normal) l H):WC P n w0 M .skip Q l H:=λa w ha hw=>wp_skip (h a w ha hw)
theorem Bf {id:Nat}(h:WK n w0 M (Q (.exit id)) l H):WC P n w0 M (.exit id) Q l H:=λa w ha hw=>wp_exit (h a w ha hw)
theorem Aq (h:WK n w0 M (Q .ret) l H):WC P n w0 M .ret Q l H:=λa w ha hw=>wp_ret (h a w ha hw)
theorem A5 {id:Nat}(h:WC P n w0 M c (Exit.inBlock id Q) l H):WC P n w0 M (.block id c) Q l H:=λa w ha hw=>wp_block (h a w ha hw)
theorem AJ {id:Nat}(h:WK n w0 M (Q .normal) l H):WK n w0 M (Exit.inBlock id Q (.exit id)) l H:=λa w ha hw=>by
 show if id=id then _ else _
 rw[if_pos rfl];exact h a w ha hw
theorem A0 {o:Operand}{b:Bool}(ho:ev l o=some (.bool b))(h1:b=true→WC P n w0 M x Q l H)(h2:b=false→WC P n w0 M y Q l H):WC P n w0 M (.cond o x y) Q l H:=
 λa w ha hw=>wp_cond_split (ha.eval ho) (λe=>h1 e a w ha hw) (λe=>h2 e a w ha hw)
theorem Ca {o:Operand}{b:Bool}(ho:ev l o=some (.bool b))(hb:b=true)(h:WC P n w0 M x Q l H):WC P n w0 M (.cond o x y) Q l H:=
 λa w ha hw=>by subst hb;exact wp_cond_true (ha.eval ho) (h a w ha hw)
theorem BB {o:Operand}{b:Bool}(ho:ev l o=some (.bool b))(hb:b=false)(h:WC P n w0 M y Q l H):WC P n w0 M (.cond o x y) Q l H:=
 λa w ha hw=>by subst hb;exact wp_cond_false (ha.eval ho) (h a w ha hw)
theorem Ck {S:Type}(inv:S→Prop)(fr:S→Fr)(hp:S→List Ent)(μ:S→Nat)(s0:S)(h0:inv s0)(hl:A9 (fr s0) l)(hH:(hp s0).Sublist H)
  (round:∀s,inv s→WC P n w0 M c (Exit.then (Cv n w0 M (λs'=>inv s'∧μ s'<μ s) fr hp) Q) (fr s) (hp s)):WC P n w0 M (.loop c) Q l H:=λa w ha hw=>by
 refine wp_loop_ghost (λk a w=>∃s,μ s=k∧inv s∧AU n (fr s) a∧St w0 M (hp s) w) (μ s0) ⟨s0,rfl,h0,ha.sub hl,hw.sub hH⟩ ?_;rintro k a w ⟨s,rfl,hi,ha,hw⟩;refine wp_mono (round s hi a w ha hw) λe a' w' q=>?_
 cases e with
 | normal=>
  obtain⟨s',⟨hi',hlt⟩,ha',hw'⟩:=q;exact⟨μ s',hlt,s',rfl,hi',ha',hw'⟩
 | _=>exact q
theorem Ae {id:Nat}{ops:List Oper}(h:WL P n w0 M ops.toArray Q ops l H):WC P n w0 M (.region id ops.toArray false) Q l H:=λa w ha hw=>wp_region_lit (h a w ha hw)
theorem Ag (h:WK n w0 M (Q .normal) l H):WL P n w0 M ops Q [] l H:=λa w ha hw=>wpList_nil (h a w ha hw)
def Bl (ops:Array Oper)(j:Nat):Option Nat:=(ops[j]?).bind (·.dst)
theorem AS {a:Act}{j d:Nat}{b:Bool}(ha:AU n l a)(hj:Bl ops j=some d)(hv:look l d=some (.bool b)):yielded ops a.tmps j=some b:=by
 unfold Bl at hj;simp[yielded,hj,ha.tm d _ hv]
theorem BS {a:Act}{j d:Nat}(ha:AU n l a)(hj:Bl ops j=some d)(hv:look l d=some undef):yielded ops a.tmps j=none:=by
 unfold Bl at hj;simp[yielded,hj,ha.tm d _ hv,undef]
theorem Aj {d:Option Nat}{op:Op}{ty:TypeId}{pos:String}{af:Array Edge}{j dj:Nat}{want b:Bool}(hj:Bl ops j=some dj)(hv:look l dj=some (.bool b))(hb:b=want)
  (h:WL P n w0 M ops Q ({ dst:=d,op:=op,type:=ty,pos:=pos,after:=af,guard:=none }::rest) l H) :
  WL P n w0 M ops Q ({ dst:=d,op:=op,type:=ty,pos:=pos,after:=af,guard:=some (j,want) }::rest) l H:=λa w ha hw=>by
 have h1:=h a w ha hw;have hy:=AS ha hj hv;subst hb;simp only[wpList,Region.wanted,hy,beq_self_eq_true,K8] at h1 ⊢;exact h1
theorem Ah {d:Nat}{op:Op}{ty:TypeId}{pos:String}{af:Array Edge}{j dj:Nat}{want b:Bool}(hj:Bl ops j=some dj)(hv:look l dj=some (.bool b))(hb:b = !want)(hn:Nat.blt d n=true)
  (h:WL P n w0 M ops Q rest ((d,undef)::l) H) :
  WL P n w0 M ops Q ({ dst:=some d,op:=op,type:=ty,pos:=pos,after:=af,guard:=some (j,want) }::rest) l H:=λa w ha hw=>by
 have hy:=AS ha hj hv;subst hb;refine wpList_skip ?_ (h _ w (ha.put hn _) hw);simp[Region.wanted,hy]
theorem At {d:Nat}{op:Op}{ty:TypeId}{pos:String}{af:Array Edge}{j dj:Nat}{want:Bool}(hj:Bl ops j=some dj)(hv:look l dj=some undef)(hn:Nat.blt d n=true)
  (h:WL P n w0 M ops Q rest ((d,undef)::l) H) :
  WL P n w0 M ops Q ({ dst:=some d,op:=op,type:=ty,pos:=pos,after:=af,guard:=some (j,want) }::rest) l H:=λa w ha hw=>by
 have hy:=BS ha hj hv;refine wpList_skip ?_ (h _ w (ha.put hn _) hw);simp[Region.wanted,hy]
theorem Aa {d:Nat}{op:Op}{ty:TypeId}{pos:String}{af:Array Edge}{v:Value}(hr:A3 P n w0 M l H { dst:=some d,op:=op,type:=ty,pos:=pos,after:=af,guard:=none } v)
  (hn:Nat.blt d n=true) (h:WL P n w0 M ops Q rest ((d,v)::l) H):WL P n w0 M ops Q ({ dst:=some d,op:=op,type:=ty,pos:=pos,after:=af,guard:=none }::rest) l H:=λa w ha hw=>
 wpList_plain rfl λK hK=>by
  unfold Oper.wp;rw[hr a w ha hw];exact hK _ _ (h _ w (ha.put hn v) hw)
theorem GI {d:Nat}{op:Op}{ty:TypeId}{pos:String}{af:Array Edge}
  (hr:∀a w,AU n l a→St w0 M H w→∃v w' H',(execOp a.eval { dst:=some d,op:=op,type:=ty,pos:=pos,after:=af,guard:=none }).run P w = .ok (.value v) w'∧St w0 M H' w'∧WL P n w0 M ops Q rest ((d,v)::l) H')
  (hn:Nat.blt d n=true):WL P n w0 M ops Q ({ dst:=some d,op:=op,type:=ty,pos:=pos,after:=af,guard:=none }::rest) l H:=λa w ha hw=>
 wpList_plain rfl λK hK=>by
  obtain⟨v,w',H',h1,h2,h3⟩:=hr a w ha hw;unfold Oper.wp;rw[h1];exact hK _ _ (h3 _ w' (ha.put hn v) h2)
theorem IY {op:Op}{ty:TypeId}{pos:String}{af:Array Edge}
  (hr:∀a w,AU n l a→St w0 M H w→∃w' H',(execOp a.eval { dst:=none,op:=op,type:=ty,pos:=pos,after:=af,guard:=none }).run P w = .ok .skip w'∧St w0 M H' w'∧WL P n w0 M ops Q rest l H') :
  WL P n w0 M ops Q ({ dst:=none,op:=op,type:=ty,pos:=pos,after:=af,guard:=none }::rest) l H:=λa w ha hw=>
 wpList_plain rfl λK hK=>by
  obtain⟨w',H',h1,h2,h3⟩:=hr a w ha hw;unfold Oper.wp;rw[h1];exact hK _ _ (h3 _ w' (ha.put_none _) h2)
theorem CR {d:Nat}{op:Op}{ty:TypeId}{pos:String}{af:Array Edge}{f:FuncId}{args:Array Value}
  (hr:∀a w,AU n l a→St w0 M H w→(execOp a.eval { dst:=some d,op:=op,type:=ty,pos:=pos,after:=af,guard:=none }).run P w = .ok (.enter f args) w)
  (hc:∀w,St w0 M H w→Calls P f args w (λe w'=>∃v H',e = .returned v∧St w0 M H' w'∧WL P n w0 M ops Q rest ((d,v)::l) H'))
  (hn:Nat.blt d n=true):WL P n w0 M ops Q ({ dst:=some d,op:=op,type:=ty,pos:=pos,after:=af,guard:=none }::rest) l H:=λa w ha hw=>
 wpList_plain rfl λK hK=>by
  unfold Oper.wp;rw[hr a w ha hw];refine(hc w hw).mono ?_;rintro e w' ⟨v,H',rfl,h2,h3⟩;exact hK _ _ (h3 _ w' (ha.put hn v) h2)
end
def B (l:List UInt8):ByteArray:=⟨l.toArray⟩
theorem B4 (l:List UInt8):(B l).toList=l:=by
 rw[Go.ByteArray.toList_eq];rfl
theorem AW (l:List UInt8):(B l).size=l.length:=by simp[B,ByteArray.size]
theorem JY (s:ByteArray):s=B s.data.toList:=by cases s;simp[B]
theorem fs {a b:List UInt8}(h:a=b):some (Value.string (B a))=some (Value.string (B b)):=by rw[h]
theorem Ga (p q:List UInt8):B p++B q=B (p++q):=by
 apply ByteArray.ext;simp[B,ByteArray.data_append]
theorem CB (l:List UInt8)(i j:Nat):(B l).extract i j=B ((l.drop i).take (j-i)):=by
 rw[Lib.extract_eq];rfl
theorem IV (l:List UInt8)(i:Nat):(B l)[i]? =l[i]?:=by
 by_cases h:i<(B l).size
 ·have h':i<l.length:=by rw[AW] at h;exact h
  rw[Go.ByteArray.getElem?_lt' _ _ h,Kx h'];rfl
 ·have h' : ¬ i<l.length:=by rw[AW] at h;exact h
  rw[Go.ByteArray.getElem?_ge' _ _ h,List.getElem?_eq_none (by omega)]
section
variable {P : Program} {n : Nat} {w0 : World} {M : List Nat} {l : Fr} {H : List Ent} {d : Option Nat} {x y c : Operand} {ty t t' : TypeId} {pos : String} {af : Array Edge} {g : Option (Nat × Bool)} {v u : Value}
theorem Ac (h:ev l x=some v):A3 P n w0 M l H { dst:=d,op:=.move x,type:=ty,pos:=pos,after:=af,guard:=g } v:=λa w ha _=>by
 simp[execOp,ha.eval h]
theorem Ab (h:ev l x=some v):A3 P n w0 M l H { dst:=d,op:=.assign x,type:=ty,pos:=pos,after:=af,guard:=g } v:=λa w ha _=>by
 simp[execOp,ha.eval h]
theorem Al {b:Bool}(hc:ev l c=some (.bool b))(hb:b=true)(h:ev l x=some v):A3 P n w0 M l H { dst:=d,op:=.pick c x y,type:=ty,pos:=pos,after:=af,guard:=g } v:=λa w ha _=>by
 subst hb;simp[execOp,ha.eval h,ha.eval hc,asBool]
theorem Am {b:Bool}(hc:ev l c=some (.bool b))(hb:b=false)(h:ev l y=some v):A3 P n w0 M l H { dst:=d,op:=.pick c x y,type:=ty,pos:=pos,after:=af,guard:=g } v:=λa w ha _=>by
 subst hb;simp[execOp,ha.eval h,ha.eval hc,asBool]
theorem Ao {vs:Array Value}{i:Nat}(h:ev l x=some (.tuple vs))(hi:vs[i]? =some v):A3 P n w0 M l H { dst:=d,op:=.extract x i,type:=ty,pos:=pos,after:=af,guard:=g } v:=λa w ha _=>by
 simp[execOp,ha.eval h,Instr.extract,hi]
theorem Bb {b:Bool}(h:ev l x=some (.bool b)):A3 P n w0 M l H { dst:=d,op:=.unOp .not t x,type:=ty,pos:=pos,after:=af,guard:=g } (.bool (!b)):=λa w ha _=>by
 simp[execOp,ha.eval h,Op.unary]
theorem A4 (op:BinOp)(k k':IntKind)(p q:Int)(w:World):(eqGuard op t x y (.int k p) (.int k' q)).run P w = .ok () w:=by
 unfold eqGuard;split<;>simp
theorem AR (op:BinOp)(p q:ByteArray)(w:World):(eqGuard op t x y (.string p) (.string q)).run P w = .ok () w:=by
 unfold eqGuard;split<;>simp
theorem Da (op:BinOp)(p q:Bool)(w:World):(eqGuard op t x y (.bool p) (.bool q)).run P w = .ok () w:=by
 unfold eqGuard;split<;>simp
section
variable {k : IntKind} {p q z : Int} (hx : ev l x = some (.int k p)) (hy : ev l y = some (.int k q))
include hx hy
theorem C3 (hz:k.wrap (p+q)=z):A3 P n w0 M l H { dst:=d,op:=.binOp .add t x y t',type:=ty,pos:=pos,after:=af,guard:=g } (.int k z):=λa w ha _=>by
 simp[execOp,ha.eval hx,ha.eval hy,A4,binOp,Op.intArith,hz]
theorem ER (hz:k.wrap (p-q)=z):A3 P n w0 M l H { dst:=d,op:=.binOp .sub t x y t',type:=ty,pos:=pos,after:=af,guard:=g } (.int k z):=λa w ha _=>by
 simp[execOp,ha.eval hx,ha.eval hy,A4,binOp,Op.intArith,hz]
theorem Dl:A3 P n w0 M l H { dst:=d,op:=.binOp .lss t x y t',type:=ty,pos:=pos,after:=af,guard:=g } (.bool (decide (p<q))):=λa w ha _=>by
 simp[execOp,ha.eval hx,ha.eval hy,A4,binOp,Op.intCmp]
theorem DR:A3 P n w0 M l H { dst:=d,op:=.binOp .leq t x y t',type:=ty,pos:=pos,after:=af,guard:=g } (.bool (decide (p≤q))):=λa w ha _=>by
 simp[execOp,ha.eval hx,ha.eval hy,A4,binOp,Op.intCmp]
theorem GS:A3 P n w0 M l H { dst:=d,op:=.binOp .gtr t x y t',type:=ty,pos:=pos,after:=af,guard:=g } (.bool (decide (q<p))):=λa w ha _=>by
 simp[execOp,ha.eval hx,ha.eval hy,A4,binOp,Op.intCmp]
theorem Dw:A3 P n w0 M l H { dst:=d,op:=.binOp .geq t x y t',type:=ty,pos:=pos,after:=af,guard:=g } (.bool (decide (q≤p))):=λa w ha _=>by
 simp[execOp,ha.eval hx,ha.eval hy,A4,binOp,Op.intCmp]
theorem Cg:A3 P n w0 M l H { dst:=d,op:=.binOp .eql t x y t',type:=ty,pos:=pos,after:=af,guard:=g } (.bool (decide (p=q))):=λa w ha _=>by
 have e:(p ==q)=decide (p=q):=by rw[KH];simp
 simp[execOp,ha.eval hx,ha.eval hy,A4,binOp,Op.intCmp,e]
theorem Dv:A3 P n w0 M l H { dst:=d,op:=.binOp .neq t x y t',type:=ty,pos:=pos,after:=af,guard:=g } (.bool (!decide (p=q))):=λa w ha _=>by
 have e:(p !=q) = !decide (p=q):=by rw[KH];simp
 simp[execOp,ha.eval hx,ha.eval hy,A4,binOp,Op.intCmp,e]
end
section
variable {p q : List UInt8} (hx : ev l x = some (.string (B p))) (hy : ev l y = some (.string (B q)))
include hx hy
theorem CM (hz:p.length+q.length≤9223372036854775807):A3 P n w0 M l H { dst:=d,op:=.binOp .add t x y t',type:=ty,pos:=pos,after:=af,guard:=g } (.string (B (p++q))):=λa w ha _=>by
 have : ¬ ((((B p).size+(B q).size:Nat):Int) > IntKind.i64.max):=by rw[AW,AW];simp[IntKind.max,IntKind.signed,IntKind.bits];omega
 simp only[execOp,ha.eval hx,ha.eval hy,Sem.run_bind,AR,binOp,Op.stringOp,this,K3,Ga];simp
theorem IN:A3 P n w0 M l H { dst:=d,op:=.binOp .lss t x y t',type:=ty,pos:=pos,after:=af,guard:=g } (.bool (Op.bytesLess p q)):=λa w ha _=>by
 simp[execOp,ha.eval hx,ha.eval hy,AR,binOp,Op.stringOp,B4]
theorem CU:A3 P n w0 M l H { dst:=d,op:=.binOp .eql t x y t',type:=ty,pos:=pos,after:=af,guard:=g } (.bool (decide (p=q))):=λa w ha _=>by
 have e:(p ==q)=decide (p=q):=by rw[KH];simp
 simp[execOp,ha.eval hx,ha.eval hy,AR,binOp,Op.stringOp,B4,e]
theorem Ce:A3 P n w0 M l H { dst:=d,op:=.binOp .neq t x y t',type:=ty,pos:=pos,after:=af,guard:=g } (.bool (!decide (p=q))):=λa w ha _=>by
 have e:(p ==q)=decide (p=q):=by rw[KH];simp
 simp[execOp,ha.eval hx,ha.eval hy,AR,binOp,Op.stringOp,B4,e]
end
theorem IQ {p q:Bool}(ht:P.underlying t=some .bool)(hx:ev l x=some (.bool p))(hy:ev l y=some (.bool q)):A3 P n w0 M l H { dst:=d,op:=.binOp .eql t x y t',type:=ty,pos:=pos,after:=af,guard:=g } (.bool (p ==q)):=λa w ha _=>by
 have h1:∀dd:Nat,(Op.equalIn (dd+1) t (.bool p) (.bool q)).run P w = .ok (p ==q) w:=λdd=>by simp[Op.equalIn,run_underlying ht]
 have h2:(Op.equal t (.bool p) (.bool q)).run P w = .ok (p ==q) w:=h1 9999;simp only[execOp,ha.eval hx,ha.eval hy,Sem.run_bind,Da,Result.andThen_ok,binOp,h2,Sem.run_pure]
theorem AE {p:List UInt8}(ht:P.underlying t=some .string)(h:ev l x=some (.string (B p))):A3 P n w0 M l H { dst:=d,op:=.call { callee:=.builtin .len,args:=#[x],argTypes:=#[t] },type:=ty,pos:=pos,after:=af,guard:=g } (.int .i64 p.length):=λa w ha _=>by
 simp[execOp,resolve,invoke,builtin,ha.eval h,Builtin.len_,run_underlying ht,goInt,AW]
theorem DC {A:Option Addr}{m cp:Nat}{e:TypeId}(ht:P.underlying t=some (.slice e))(h:ev l x=some (.slice A m cp)):A3 P n w0 M l H { dst:=d,op:=.call { callee:=.builtin .len,args:=#[x],argTypes:=#[t] },type:=ty,pos:=pos,after:=af,guard:=g } (.int .i64 m):=λa w ha _=>by
 simp[execOp,resolve,invoke,builtin,ha.eval h,Builtin.len_,run_underlying ht,goInt]
theorem Ec {p:List UInt8}{k:IntKind}{i:Int}{c:UInt8}(ht:P.underlying t=some .string)(h:ev l x=some (.string (B p)))(hi:ev l y=some (.int k i))(h0:0≤i)(hc:p[i.toNat]? =some c) :
  A3 P n w0 M l H { dst:=d,op:=.index t x y,type:=ty,pos:=pos,after:=af,guard:=g } (.int .u8 c.toNat):=λa w ha _=>by
 simp[execOp,ha.eval h,ha.eval hi,Instr.index,asIntOf,run_underlying ht,h0,IV,hc]
theorem AO {k:IntKind}{i:Int}{m:Nat}(code:BoundsCode)(w:World)(h0:0≤i)(h1:i≤m):(Instr.sliceBound (.int k i) m code).run P w = .ok i.toNat w:=by
 simp[Instr.sliceBound,asIntOf,h0,h1]
theorem BK {p:List UInt8}{k:IntKind}{i:Int}(ht:P.underlying t=some .string)(h:ev l x=some (.string (B p)))(hi:ev l y=some (.int k i))(h0:0≤i)(h1:i≤p.length) :
  A3 P n w0 M l H { dst:=d,op:=.slice t x (some y) none none,type:=ty,pos:=pos,after:=af,guard:=g } (.string (B (p.drop i.toNat))):=λa w ha _=>by
 have e:List.take ((B p).size-i.toNat) (List.drop i.toNat p)=List.drop i.toNat p:=by rw[List.take_of_length_le];simp[AW]
 simp[execOp,ha.eval h,ha.eval hi,Instr.sliceAt,Instr.slice,run_underlying ht,Instr.sliceBounds,AO (m:=(B p).size) _ _ h0 (by rw[AW];exact h1),CB,e]
theorem Bz {p:List UInt8}{k:IntKind}{i:Int}(ht:P.underlying t=some .string)(h:ev l x=some (.string (B p)))(hi:ev l y=some (.int k i))(h0:0≤i)(h1:i≤p.length) :
  A3 P n w0 M l H { dst:=d,op:=.slice t x none (some y) none,type:=ty,pos:=pos,after:=af,guard:=g } (.string (B (p.take i.toNat))):=λa w ha _=>by
 simp[execOp,ha.eval h,ha.eval hi,Instr.sliceAt,Instr.slice,run_underlying ht,Instr.sliceBounds,AO (m:=(B p).size) _ _ h0 (by rw[AW];exact h1),CB]
end
theorem EX (b o j:Nat):(⟨b,o,none⟩:Addr).add j=⟨b,o+j,none⟩:=by unfold Addr.add;split<;>simp_all
section
variable {P : Program} {n : Nat} {w0 : World} {M : List Nat} {ops : Array Oper} {Q : Exit → Act → World → Prop} {rest : List Oper} {l : Fr} {H H' : List Ent} {d : Nat} {x y c : Operand} {ty t t' e : TypeId} {pos : String} {af : Array Edge} {g : Option (Nat × Bool)} {v u : Value}
theorem St.ent {w:World}(h:St w0 M H w){i:Nat}{en:Ent}(hi:H[i]? =some en):en.holds w:=h.has en (KG hi)
end
def Dq:Nat→List Value→Fr
 | _,[]=>[]
 | i,v::r=>(i,v)::Dq (i+1) r
theorem BM:∀(args:List Value) (k i:Nat) (v:Value),look (Dq k args) i=some v→k≤i∧args[i-k]? =some v
 | [],k,i,v,h=>by simp[Dq,look] at h
 | u::r,k,i,v,h=>by
  rw[Dq,AH] at h
  split at h
  ·rename_i e;subst e;simp at h;subst h;simp
  ·rename_i e
   have:=BM r (k+1) i v h;refine⟨by omega,?_⟩;rw[show i-k=(i-(k+1))+1 from by omega];simpa using this.2
section
variable {P : Program} {n : Nat} {w0 w : World} {M : List Nat} {ops : Array Oper} {Q : Exit → Act → World → Prop} {rest : List Oper} {l l' : Fr} {H H' : List Ent} {d : Nat} {ty t : TypeId} {pos : String} {af : Array Edge} {v u : Value}
theorem Jy {f:FuncId}{fn:Func}{c:Code}{args:List Value}{R:Ending→World→Prop}(hf:P.funcs[f]? =some fn)(hb:fn.body=some c)(hn:fn.ntmps=n)(hle:Nat.ble args.length n=true)
  (hw:St w0 M H w) (h:WC P n w0 M c (bodyPost P fn R) (Dq 0 args) H):Calls P f args.toArray w R:=by
 have hle':args.length≤n:=by simpa using hle
 refine calls_of_wp hf hb (h _ w ⟨?_,rfl,λi v hi=>?_⟩ hw)
 ·simp[hn];omega
 ·have:=(BM args 0 i v hi).2;simp only[Nat.sub_zero] at this;have hlt:i<args.length:=(List.getElem?_eq_some_iff.1 this).1;rw[Array.getElem?_append_left (by simpa using hlt)];simpa using this
theorem A6 {f:FuncId}{fn:Func}{c:Code}{args:List Value}{R:Ending→World→Prop}(hf:P.funcs[f]? =some fn)(hb:fn.body=some c)(hn:fn.ntmps=n)(hle:Nat.ble args.length n=true)
  (h:WC P n w [] c (bodyPost P fn R) (Dq 0 args) []):Calls P f args.toArray w R:=Jy hf hb hn hle (St.refl w []) h
theorem Ap {fn:Func}{R:Ending→World→Prop}(hr:∀a w,AU n l a→St w0 M H w→(results fn a.tmps).run P w = .ok v w)(h:∀w,St w0 M H w→R (.returned v) w):WK n w0 M (bodyPost P fn R .ret) l H:=
 λa w ha hw=>⟨ha.defers,v,hr a w ha hw,h w hw⟩
theorem Be {a:Act}(ha:AU n l a){i:Nat}(h:look l i=some v):a.tmps[i]?.getD undef=v:=by
 rw[ha.tm i v h];rfl
theorem B3 {fn:Func}{i:Nat}(hr:fn.results = #[.tmp i])(h:look l i=some v):∀a w,AU n l a→St w0 M H w→(results fn a.tmps).run P w = .ok v w:=λa w ha hw=>by
 have e:=Be ha h;simp[results,hr,e]
theorem H3 {fn:Func}{i j:Nat}(hr:fn.results = #[.tmp i,.tmp j])(h:look l i=some v)(h2:look l j=some u):∀a w,AU n l a→St w0 M H w→(results fn a.tmps).run P w = .ok (.tuple #[v,u]) w:=λa w ha hw=>by
 have e:=Be ha h;have e2:=Be ha h2;simp[results,hr,e,e2]
theorem IH {fn:Func}{i j k:Nat}{u':Value}(hr:fn.results = #[.tmp i,.tmp j,.tmp k])(h:look l i=some v)(h2:look l j=some u)(h3:look l k=some u'):∀a w,AU n l a→St w0 M H w→(results fn a.tmps).run P w = .ok (.tuple #[v,u,u']) w:=λa w ha hw=>by
 have e:=Be ha h;have e2:=Be ha h2;have e3:=Be ha h3;simp[results,hr,e,e2,e3]
theorem JU {fn:Func}{i j k m:Nat}{u' u'':Value}(hr:fn.results = #[.tmp i,.tmp j,.tmp k,.tmp m])(h:look l i=some v)(h2:look l j=some u)(h3:look l k=some u')(h4:look l m=some u''):∀a w,AU n l a→St w0 M H w→(results fn a.tmps).run P w = .ok (.tuple #[v,u,u',u'']) w:=λa w ha hw=>by
 have e:=Be ha h;have e2:=Be ha h2;have e3:=Be ha h3;have e4:=Be ha h4;simp[results,hr,e,e2,e3,e4]
theorem AB (e:v=u):∀w,St w0 [] H w→AQ w0 u (.returned v) w:=λw hw=>⟨by rw[e],hw.sub (List.nil_sublist _)⟩
theorem BI {f:FuncId}{args:Array Operand}{ats:Array TypeId}{o:Oper}{a:Act}{vs:List Value}(ho:o.op = .call { callee:=.value (.func f),args:=args,argTypes:=ats })
  (hcall:∀(as1:Array Value) (w:World),(callFunc f as1).run P w = .ok (.enter f as1) w) (hv:(args.map a.eval)=vs.toArray) (w:World):(execOp a.eval o).run P w = .ok (.enter f vs.toArray) w:=by
 simp[execOp,ho,resolve,Act.eval,Deferred.ofValue,invoke,hv,hcall]
def EB (l:Fr):List Operand→Option (List Value)
 | []=>some []
 | x::r=>match ev l x,EB l r with
  | some v,some vs=>some (v::vs)
  | _,_=>none
theorem CZ {a:Act}(ha:AU n l a):∀{xs:List Operand} {vs:List Value},EB l xs=some vs→xs.map a.eval=vs
 | [],vs,h=>by simp[EB] at h;subst h;rfl
 | x::r,vs,h=>by
  simp only[EB] at h
  split at h
  ·rename_i v vs' h1 h2
   simp at h;subst h;simp[ha.eval h1,CZ ha h2]
  ·cases h
theorem Ar {f:FuncId}{args:List Operand}{ats:Array TypeId}{vs:List Value}(hcall:∀(as1:Array Value) (w:World),(callFunc f as1).run P w = .ok (.enter f as1) w)(hv:EB l args=some vs)
  (hc:∀w,St w0 M H w→Calls P f vs.toArray w (AQ w u)) (hn:Nat.blt d n=true) (h:WL P n w0 M ops Q rest ((d,u)::l) H) :
  WL P n w0 M ops Q ({ dst:=some d,op:=.call { callee:=.value (.func f),args:=args.toArray,argTypes:=ats },type:=ty,pos:=pos,after:=af,guard:=none }::rest) l H:=
 CR (λa w ha hw=>BI rfl hcall (by simp[CZ ha hv]) w) (λw hw=>(hc w hw).mono λe w' ⟨he,hs⟩=>⟨u,H,he,by simpa using hw.call0 hs,h⟩) hn
theorem Et {f:FuncId}{args:List Operand}{ats:Array TypeId}{vs:List Value}{Φ:Value→List Ent→Prop}(hcall:∀(as1:Array Value) (w:World),(callFunc f as1).run P w = .ok (.enter f as1) w)(hv:EB l args=some vs)
  (hc:∀w,St w0 M H w→Calls P f vs.toArray w (Id w [] Φ)) (hn:Nat.blt d n=true) (h:∀u Ho,Φ u Ho→WL P n w0 M ops Q rest ((d,u)::l) (Ho++H)) :
  WL P n w0 M ops Q ({ dst:=some d,op:=.call { callee:=.value (.func f),args:=args.toArray,argTypes:=ats },type:=ty,pos:=pos,after:=af,guard:=none }::rest) l H:=
 CR (λa w ha hw=>BI rfl hcall (by simp[CZ ha hv]) w) (λw hw=>(hc w hw).mono λe w' ⟨v,Ho,he,hs,hf⟩=>⟨v,Ho++H,he,hw.call0 hs,h v Ho hf⟩) hn
end
theorem IS (p:List UInt8)(i:Nat)(u:UInt8)(h:p[i]? =some u):(B p).get! i=u:=by
 have h':i<p.length:=(List.getElem?_eq_some_iff.1 h).1;have h2:p[i]=u:=(List.getElem?_eq_some_iff.1 h).2;subst h2;show(B p).data[i]! =_;simp[B,getElem!_pos,h']
theorem Em (p:List UInt8)(i:Nat)(u:UInt8)(h:p[i]? =some u)(hu:u.toNat<128):Utf8.decode (B p) i=(u.toNat,1):=by
 have e:=IS p i u h;simp[Utf8.decode,e,hu]
theorem En (p:List UInt8)(i:Nat)(u:UInt8)(h:p[i]? =some u)(hu:128≤u.toNat):128≤(Utf8.decode (B p) i).1∧1≤(Utf8.decode (B p) i).2:=by
 have e:=IS p i u h;simp only[Utf8.decode,Nat.add_zero,e];rw[if_neg (by omega)]
 split
 ·split
  ·exact⟨by assumption,by simp⟩
  ·exact⟨by decide,by decide⟩
 ·split
  ·split
   ·rename_i h1;simp at h1;exact⟨by have:=h1.1;simp only;omega,by simp⟩
   ·exact⟨by decide,by decide⟩
  ·split
   ·split
    ·rename_i h1;simp at h1;exact⟨by have:=h1.1;simp only;omega,by simp⟩
    ·exact⟨by decide,by decide⟩
   ·exact⟨by decide,by decide⟩
section
variable {P : Program} {n : Nat} {w0 : World} {M : List Nat} {ops : Array Oper} {Q : Exit → Act → World → Prop} {rest : List Oper} {l : Fr} {H H' : List Ent} {d : Nat} {x y c : Operand} {ty t t' e : TypeId} {pos : String} {af : Array Edge} {g : Option (Nat × Bool)} {v u : Value}
theorem DX {p:List UInt8}(hu:P.underlying t=some .string)(hx:ev l x=some (.string (B p)))(hn:Nat.blt d n=true)
  (h:∀b,WL P n w0 M ops Q rest ((d,.pointer (some ⟨b,0,none⟩))::l) (.blk b (.stringIter (B p) 0)::H)) :
  WL P n w0 M ops Q ({ dst:=some d,op:=.range t x,type:=ty,pos:=pos,after:=af,guard:=none }::rest) l H:=
 GI (λa w ha hw=>⟨_,w.alloc (.stringIter (B p) 0),_,by simp[execOp,ha.eval hx,Instr.range,run_underlying hu],hw.alloc _,h w.heap.size⟩) hn
theorem St.setObj {w:World}(h:St w0 M H w){i b:Nat}{o o':Obj}(hi:H[i]? =some (.blk b o)):St w0 M (H.set i (.blk b o')) { w with heap:=w.heap.setIfInBounds b o' }:=by
 have hb:w.heap[b]? =some o:=h.ent hi;have hlt:b<w.heap.size:=(Array.getElem?_eq_some_iff.1 hb).1;refine h.set hi rfl rfl rfl (by simp) (λk _ hk=>?_) ?_ (by simp[Ent.foot])
 ·simp only[Ent.foot,K4] at hk;simp only[Array.getElem?_setIfInBounds];rw[if_neg (λe=>hk e.symm)]
 ·show(w.heap.setIfInBounds b o')[b]? =some o';simp[hlt]
theorem EF {p:List UInt8}{i b k:Nat}(hx:ev l x=some (.pointer (some ⟨b,0,none⟩)))(hi:H[i]? =some (.blk b (.stringIter (B p) k)))(hn:Nat.blt d n=true)
  (hend:p.length≤k→WL P n w0 M ops Q rest ((d,.tuple #[.bool false])::l) H)
  (hgo:∀(u:UInt8) (c wd:Nat),p[k]? =some u→(u.toNat<128→c=u.toNat∧wd=1)→(128≤u.toNat→128≤c)→1≤wd→
   WL P n w0 M ops Q rest ((d,.tuple #[.bool true,.int .i64 k,.int .i32 c])::l) (H.set i (.blk b (.stringIter (B p) (k+wd))))) :
  WL P n w0 M ops Q ({ dst:=some d,op:=.next x true,type:=ty,pos:=pos,after:=af,guard:=none }::rest) l H:=
 GI (λa w ha hw=>by
  have hb:w.heap[b]? =some (.stringIter (B p) k):=hw.ent hi
  by_cases hlt:k<p.length
  ·have hu:p[k]? =some p[k]:=Kx hlt;have hs:k<(B p).size:=by rw[AW];exact hlt
   refine⟨_,{ w with heap:=w.heap.setIfInBounds b (.stringIter (B p) (k+(Utf8.decode (B p) k).2)) },_,?_,hw.setObj hi,hgo p[k] (Utf8.decode (B p) k).1 (Utf8.decode (B p) k).2 hu ?_ ?_ ?_⟩
   ·simp[execOp,ha.eval hx,Instr.next,getObj,setObj,Sem.run,hb,hs,goInt]
   ·intro h;rw[Em p k _ hu h];exact⟨rfl,rfl⟩
   ·intro h;exact(En p k _ hu h).1
   ·rcases Nat.lt_or_ge (p[k]).toNat 128 with h | h
    ·rw[Em p k _ hu h];exact KF 1
    ·exact(En p k _ hu h).2
  ·have hs : ¬ k<(B p).size:=by rw[AW];exact hlt
   exact⟨_,w,H,by simp[execOp,ha.eval hx,Instr.next,getObj,Sem.run,hb,hs],hw,hend (by omega)⟩) hn
end
def AV (c:Int):Bool:=decide (97≤c)&&decide (c≤122)
def Bi (c:Int):Bool:=decide (48≤c)&&decide (c≤57)
def Bo (c:Int):Bool:=AV c||Bi c||(decide (65≤c)&&decide (c≤90))||decide (c=45)||decide (c=95)||decide (c=46)||decide (c=58)||decide (c=47)
def De (n:Int):Bool:=decide (-1000000000000≤n)&&decide (n≤1000000000000)
def Cy (p:List UInt8)(i:Int):Int:=((p[i.toNat]?).getD 0).toNat
theorem HZ {p:List UInt8}{k:Nat}{u:UInt8}(h:p[k]? =some u):Cy p (k:Int)=u.toNat:=by simp[Cy,h]
def Au (f:Nat→UInt8→Bool):Nat→List UInt8→Bool
 | _,[]=>true
 | i,u::r=>f i u&&Au f (i+1) r
def Bh (i:Nat)(u:UInt8):Bool:=AV u.toNat||(!decide (i=0)&&(Bi u.toNat||decide ((u.toNat:Int)=45)||decide ((u.toNat:Int)=95)))
def Dx (_:Nat)(u:UInt8):Bool:=Bo u.toNat
def AX (p:List UInt8):Bool:=Au Bh 0 p&&decide (1≤p.length)&&decide (p.length≤24)
def Hb (p:List UInt8):Bool:=Au Dx 0 p&&decide (1≤p.length)&&decide (p.length≤64)
theorem El {p:List UInt8}{k:Nat}{u:UInt8}(h:p[k]? =some u):p.drop k=u::p.drop (k+1):=by
 obtain⟨h1,h2⟩:=List.getElem?_eq_some_iff.1 h;rw[List.drop_eq_getElem_cons h1,h2]
theorem Gf {f:Nat→UInt8→Bool}{p:List UInt8}{k:Nat}{u:UInt8}(hi:k≤p.length∧Au f 0 p=Au f k (p.drop k))(h:p[k]? =some u)(ht:f k u=false):Au f 0 p=false:=by
 rw[hi.2,El h];simp[Au,ht]
theorem D7 {f:Nat→UInt8→Bool}{p:List UInt8}{k:Nat}{u:UInt8}(hi:k≤p.length∧Au f 0 p=Au f k (p.drop k))(h:p[k]? =some u)(ht:f k u=true) :
  (k+1≤p.length∧Au f 0 p=Au f (k+1) (p.drop (k+1)))∧p.length-(k+1)<p.length-k:=by
 have hk:k<p.length:=(List.getElem?_eq_some_iff.1 h).1;refine⟨⟨hk,?_⟩,by omega⟩;rw[hi.2,El h];simp[Au,ht]
theorem E0 {f:Nat→UInt8→Bool}{p:List UInt8}{k:Nat}(hi:k≤p.length∧Au f 0 p=Au f k (p.drop k))(h:p.length≤k):Au f 0 p=true:=by
 rw[hi.2,List.drop_of_length_le h];rfl
def DE (k c:Nat):Bool:=!(AV c)&&(decide ((k:Int)=0)||(!(Bi c)&&(!(decide ((c:Int)=45))&&!(decide ((c:Int)=95)))))
theorem Ed {k:Nat}{u:UInt8}{c wd:Nat}(hl:u.toNat<128→c=u.toNat∧wd=1)(hh:128≤u.toNat→128≤c):DE k c = !Bh k u:=by
 rcases Nat.lt_or_ge u.toNat 128 with h | h
 ·rw[(hl h).1];have e:decide ((k:Int)=0)=decide (k=0):=by simp
  simp only[DE,Bh,e]
  cases AV u.toNat<;>cases decide (k=0)<;>cases Bi u.toNat<;>simp
 ·have h2:=hh h;have e:∀m:Nat,128≤m→DE k m=true:=λm hm=>by
   simp[DE,AV,Bi];omega
  have e2:Bh k u=false:=by simp[Bh,AV,Bi];omega
  rw[e c h2,e2];rfl
theorem GT {p:List UInt8}{k:Nat}{u:UInt8}{c wd:Nat}(hi:k≤p.length∧Au Bh 0 p=Au Bh k (p.drop k))(h:p[k]? =some u)(hl:u.toNat<128→c=u.toNat∧wd=1)(hh:128≤u.toNat→128≤c)
  (ht:DE k c=false):(k+wd≤p.length∧Au Bh 0 p=Au Bh (k+wd) (p.drop (k+wd)))∧p.length-(k+wd)<p.length-k:=by
 rcases Nat.lt_or_ge u.toNat 128 with hu | hu
 ·rw[(hl hu).2];rw[Ed hl hh] at ht;exact D7 hi h (by simpa using ht)
 ·have h2:=hh hu;simp[DE,AV,Bi] at ht;omega
theorem Iy {p:List UInt8}{k:Nat}{u:UInt8}{c wd:Nat}(hi:k≤p.length∧Au Bh 0 p=Au Bh k (p.drop k))(h:p[k]? =some u)(hl:u.toNat<128→c=u.toNat∧wd=1)(hh:128≤u.toNat→128≤c)
  (ht:DE k c=true):AX p=false:=by
 rw[Ed hl hh] at ht;simp[AX,Gf hi h (by simpa using ht)]
theorem H8 {p:List UInt8}{k:Nat}(hi:k≤p.length∧Au Bh 0 p=Au Bh k (p.drop k))(h:p.length≤k):AX p=((decide ((1:Int)≤p.length))&&(decide ((p.length:Int)≤24))):=by
 simp[AX,E0 hi h];grind
theorem G5 {k:Nat}{u:UInt8}{c wd:Nat}(hl:u.toNat<128→c=u.toNat∧wd=1)(hh:128≤u.toNat→128≤c):Bo c=Dx k u:=by
 rcases Nat.lt_or_ge u.toNat 128 with h | h
 ·rw[(hl h).1];rfl
 ·have h2:=hh h;have e:∀m:Nat,128≤m→Bo m=false:=λm hm=>by
   simp[Bo,AV,Bi];omega
  rw[e c h2];exact(e _ h).symm
theorem I5 {p:List UInt8}{k:Nat}{u:UInt8}{c wd:Nat}(hi:k≤p.length∧Au Dx 0 p=Au Dx k (p.drop k))(h:p[k]? =some u)(hl:u.toNat<128→c=u.toNat∧wd=1)(hh:128≤u.toNat→128≤c)
  (ht:(!Bo c)=false):(k+wd≤p.length∧Au Dx 0 p=Au Dx (k+wd) (p.drop (k+wd)))∧p.length-(k+wd)<p.length-k:=by
 have ht':Bo c=true:=by simpa using ht
 rcases Nat.lt_or_ge u.toNat 128 with hu | hu
 ·rw[(hl hu).2];rw[G5 (k:=k) hl hh] at ht';exact D7 hi h ht'
 ·have h2:=hh hu;simp[Bo,AV,Bi] at ht';omega
theorem JK {p:List UInt8}{k:Nat}{u:UInt8}{c wd:Nat}(hi:k≤p.length∧Au Dx 0 p=Au Dx k (p.drop k))(h:p[k]? =some u)(hl:u.toNat<128→c=u.toNat∧wd=1)(hh:128≤u.toNat→128≤c)
  (ht:(!Bo c)=true):Hb p=false:=by
 rw[G5 (k:=k) hl hh] at ht;simp[Hb,Gf hi h (by simpa using ht)]
theorem Jr {p:List UInt8}{k:Nat}(hi:k≤p.length∧Au Dx 0 p=Au Dx k (p.drop k))(h:p.length≤k):Hb p=((decide ((1:Int)≤p.length))&&(decide ((p.length:Int)≤64))):=by
 simp[Hb,E0 hi h];grind
section
variable {P : Program} {n : Nat} {w0 : World} {M : List Nat} {ops : Array Oper} {Q : Exit → Act → World → Prop} {rest : List Oper} {l : Fr} {H H' : List Ent} {x y c : Operand} {ty t t' e : TypeId} {pos : String} {af : Array Edge} {g : Option (Nat × Bool)} {v u : Value}
theorem BD {d:Option Nat}{p:List UInt8}{k:IntKind}{i:Int}(ht:P.underlying t=some .string)(h:ev l x=some (.string (B p)))(hi:ev l y=some (.int k i))(h0:0≤i)(h1:i<p.length) :
  A3 P n w0 M l H { dst:=d,op:=.index t x y,type:=ty,pos:=pos,after:=af,guard:=g } (.int .u8 (Cy p i)):=by
 have hl:i.toNat<p.length:=by omega
 have hc:p[i.toNat]? =some p[i.toNat]:=Kx hl;have e:Cy p i=p[i.toNat].toNat:=by simp[Cy,hc]
 rw[e];exact Ec ht h hi h0 hc
theorem G1 {d:Option Nat}{p:List UInt8}{z:Int}(ht:P.underlying t=some .string)(h:ev l x=some (.string (B p)))(hz:(p.length:Int)=z):A3 P n w0 M l H { dst:=d,op:=.call { callee:=.builtin .len,args:=#[x],argTypes:=#[t] },type:=ty,pos:=pos,after:=af,guard:=g } (.int .i64 z):=by
 subst hz;exact AE ht h
theorem JF {d:Option Nat}{f:FuncId}{args:List Operand}{ats:Array TypeId}{vs:List Value}(hv:EB l args=some vs)(hcall:∀w,(callFunc f vs.toArray).run P w = .ok (.value v) w) :
  A3 P n w0 M l H { dst:=d,op:=.call { callee:=.value (.func f),args:=args.toArray,argTypes:=ats },type:=ty,pos:=pos,after:=af,guard:=g } v:=λa w ha hw=>by
 have e:(args.toArray.map a.eval)=vs.toArray:=by simp[CZ ha hv]
 simp only[execOp,resolve,Sem.run_bind,Sem.run_pure,Result.andThen_ok,e,Act.eval,Deferred.ofValue,invoke];simpa using hcall w
theorem DT {f : FuncId} {fn : Func} (hf : P.funcs[f]? = some fn) (hname : (fn.name == "runtime.NumGoroutine") = false) (hb : fn.body.isNone = true) (hn : Extern.findNext fn = none) (he : Extern.find fn = some Extern.BytealgIndexByte.indexByte)
  (p:List UInt8) (m:Int) (w:World):(callFunc f [.string (B p),.int .u8 m].toArray).run P w = .ok (.value (.int .i64 (Lib.indexByte p m.toNat.toUInt8))) w:=by
 rw[run_callFunc_extern hf hname hb hn he,Lib.run_indexByteString];rfl
theorem Ix {d:Option Nat}{ms:Array (String×TypeId)}{ti:TypeId}{u:Value}(ht:P.underlying t=some (.interface ms))(hx:ev l x=some (.iface ti u)) :
  A3 P n w0 M l H { dst:=d,op:=.binOp .neq t x (.const .nilIface) t',type:=ty,pos:=pos,after:=af,guard:=g } (.bool true):=λa w ha hw=>by
 have h1:∀dd:Nat,(Op.equalIn (dd+1) t (.iface ti u) .nilIface).run P w = .ok false w:=λdd=>by simp[Op.equalIn,run_underlying ht]
 have h2:(Op.equal t (.iface ti u) .nilIface).run P w = .ok false w:=h1 9999;have h3:(eqGuard .neq t x (.const .nilIface) (.iface ti u) .nilIface).run P w = .ok () w:=by simp[eqGuard]
 have hy:a.eval (.const .nilIface) = .nilIface:=rfl;simp only[execOp,ha.eval hx,hy,Sem.run_bind,h3,Result.andThen_ok,binOp,h2,Sem.run_pure];rfl
theorem ES {d:Option Nat}{ms:Array (String×TypeId)}(ht:P.underlying t=some (.interface ms))(hx:ev l x=some .nilIface) :
  A3 P n w0 M l H { dst:=d,op:=.binOp .neq t x (.const .nilIface) t',type:=ty,pos:=pos,after:=af,guard:=g } (.bool false):=λa w ha hw=>by
 have h1:∀dd:Nat,(Op.equalIn (dd+1) t .nilIface .nilIface).run P w = .ok true w:=λdd=>by simp[Op.equalIn,run_underlying ht]
 have h2:(Op.equal t .nilIface .nilIface).run P w = .ok true w:=h1 9999;have h3:(eqGuard .neq t x (.const .nilIface) .nilIface .nilIface).run P w = .ok () w:=by simp[eqGuard]
 have hy:a.eval (.const .nilIface) = .nilIface:=rfl;simp only[execOp,ha.eval hx,hy,Sem.run_bind,h3,Result.andThen_ok,binOp,h2,Sem.run_pure];rfl
variable (P n w0 M) in
def WQ (opsA:Array Oper)(K:Act→World→Prop)(rest:List Oper)(l:Fr)(H:List Ent):Prop:=∀a,AU n l a→wpQuiet P opsA (St w0 M H) (λa'=>∀w',St w0 M H w'→K a' w') rest a
theorem Do {id:Nat}{ops:List Oper}(hm:P.follows .mixedOrders=true)(hB:Region.lexB .any ops.toArray=true)(h:WQ P n w0 M ops.toArray (Q .normal) ops l H):WC P n w0 M (.region id ops.toArray true) Q l H:=λa w ha hw=>
 wp_region_quiet (C:=St w0 M H) hm hB (hw.drawn _) (by simpa using h a ha)
variable {K : Act → World → Prop}
theorem Ht (h:WK n w0 M K l H):WQ P n w0 M ops K [] l H:=λa ha w' hw=>h a w' ha hw
theorem BT {d:Nat}{op:Op}(hr:A3 P n w0 M l H { dst:=some d,op:=op,type:=ty,pos:=pos,after:=af,guard:=none } v)
  (hn:Nat.blt d n=true) (h:WQ P n w0 M ops K rest ((d,v)::l) H):WQ P n w0 M ops K ({ dst:=some d,op:=op,type:=ty,pos:=pos,after:=af,guard:=none }::rest) l H:=λa ha=>by
 simp only[wpQuiet,Region.wanted,K8];refine⟨v,λw hw=>?_,h _ (ha.put hn v)⟩;unfold Oper.quietAt;rw[hr a w ha hw];exact⟨rfl,rfl⟩
end
end Go.Proofs.YthjcjnbngagagaaDoor
namespace Go.Proofs
open Go.Shelf
def Tryd.laysM171_ren:Go.Shelf.Ren:=⟨fun | 171=>38 | 243=>58 | 246=>73 | 283=>82 | 284=>83 | 285=>84 | 286=>85 | 129=>56 | 317=>89 | 318=>90 | 319=>91 | 320=>92 | 337=>95 | 338=>96 | n=>n,fun | 3=>3 | 9=>9 | 2=>2 | 4=>4 | 171=>90 | 0=>0 | 53=>67 | 37=>79 | 5=>5 | 173=>92 | 212=>100 | 51=>65 | 20=>20 | 213=>101 | 46=>48 | 232=>107 | 233=>108 | n=>n,fun | 17=>3 | 18=>4 | 19=>5 | n=>n⟩
theorem Tryd.laysM171:Go.Proofs.LaysM.n171 Tryd.prog Tryd.laysM171_ren:={
 mixed:=by kernel_rfl
 f129:=Tryd.func56.trans (congrArg some (by kernel_rfl))
 f171:=Tryd.func38.trans (congrArg some (by kernel_rfl))
 f243:=Tryd.func58.trans (congrArg some (by kernel_rfl))
 f246:=Tryd.func73.trans (congrArg some (by kernel_rfl))
 f283:=Tryd.func82.trans (congrArg some (by kernel_rfl))
 f284:=Tryd.func83.trans (congrArg some (by kernel_rfl))
 f285:=Tryd.func84.trans (congrArg some (by kernel_rfl))
 f286:=Tryd.func85.trans (congrArg some (by kernel_rfl))
 f317:=Tryd.func89.trans (congrArg some (by kernel_rfl))
 f318:=Tryd.func90.trans (congrArg some (by kernel_rfl))
 f319:=Tryd.func91.trans (congrArg some (by kernel_rfl))
 f320:=Tryd.func92.trans (congrArg some (by kernel_rfl))
 f337:=Tryd.func95.trans (congrArg some (by kernel_rfl))
 f338:=Tryd.func96.trans (congrArg some (by kernel_rfl))
 t0:=Tryd.underlying0
 a0:=Tryd.isAgg0
 z0:=Tryd.sizeOf0
 v0:=Tryd.zeroValue0
 t2:=Tryd.underlying2
 a2:=Tryd.isAgg2
 z2:=Tryd.sizeOf2
 v2:=Tryd.zeroValue2
 t3:=Tryd.underlying3
 a3:=Tryd.isAgg3
 z3:=Tryd.sizeOf3
 v3:=Tryd.zeroValue3
 t4:=Tryd.underlying4
 a4:=Tryd.isAgg4
 z4:=Tryd.sizeOf4
 v4:=Tryd.zeroValue4
 t5:=Tryd.underlying5
 a5:=Tryd.isAgg5
 z5:=Tryd.sizeOf5
 v5:=Tryd.zeroValue5
 t9:=Tryd.underlying9
 a9:=Tryd.isAgg9
 z9:=Tryd.sizeOf9
 v9:=Tryd.zeroValue9
 t20:=Tryd.underlying20
 a20:=Tryd.isAgg20
 z20:=Tryd.sizeOf20
 v20:=Tryd.zeroValue20
 t37:=Tryd.underlying79
 a37:=Tryd.isAgg79
 z37:=Tryd.sizeOf79
 v37:=Tryd.zeroValue79
 t46:=Tryd.underlying48
 a46:=Tryd.isAgg48
 z46:=Tryd.sizeOf48
 v46:=Tryd.zeroValue48
 t51:=Tryd.underlying65
 a51:=Tryd.isAgg65
 z51:=Tryd.sizeOf65
 v51:=Tryd.zeroValue65
 t53:=Tryd.underlying67
 a53:=Tryd.isAgg67
 z53:=Tryd.sizeOf67
 v53:=Tryd.zeroValue67
 t171:=Tryd.underlying90
 a171:=Tryd.isAgg90
 z171:=Tryd.sizeOf90
 v171:=Tryd.zeroValue90
 t173:=Tryd.underlying92
 a173:=Tryd.isAgg92
 z173:=Tryd.sizeOf92
 v173:=Tryd.zeroValue92
 t212:=Tryd.underlying100
 a212:=Tryd.isAgg100
 z212:=Tryd.sizeOf100
 v212:=Tryd.zeroValue100
 t213:=Tryd.underlying101
 a213:=Tryd.isAgg101
 z213:=Tryd.sizeOf101
 t232:=Tryd.underlying107
 a232:=Tryd.isAgg107
 z232:=Tryd.sizeOf107
 v232:=Tryd.zeroValue107
 t233:=Tryd.underlying108
 a233:=Tryd.isAgg108
 z233:=Tryd.sizeOf108
 v233:=Tryd.zeroValue108
 g17:=by kernel_rfl
 g18:=by kernel_rfl
 g19:=by kernel_rfl
 i0:=by kernel_rfl
 i2:=by kernel_rfl
 i3:=by kernel_rfl
 i4:=by kernel_rfl
 i5:=by kernel_rfl
 i9:=by kernel_rfl
 i20:=by kernel_rfl
 i37:=by kernel_rfl
 i46:=by kernel_rfl
 i51:=by kernel_rfl
 i53:=by kernel_rfl
 i171:=by kernel_rfl
 i173:=by kernel_rfl
 i212:=by kernel_rfl
 i232:=by kernel_rfl
 i233:=by kernel_rfl
 m17:=by kernel_rfl
 m18:=by kernel_rfl
 m19:=by kernel_rfl }
open Go.RowKit Go.Sort Go.Lib in
theorem Tryd.strconv_Itoa (n : Int) (h0 : -9223372036854775808 ≤ n) (h1 : n ≤ 9223372036854775807) (w : World) (htab : Lib.TabIs Tryd.prog w "internal/strconv.uint64pow10" .u64 Lib.pow10Tab) :
  Calls Tryd.prog 38 #[.int .i64 n] w λe w'=>e = .returned (.string ⟨(Lib.itoa n).toArray⟩)∧∃k os,w'=grow (w.drewN k) os:=Any.strconv_Itoa Tryd.laysM171 n h0 h1 w htab
def Tryd.laysC172_ren:Go.Shelf.Ren:=⟨fun | 172=>41 | 244=>59 | 245=>60 | 247=>74 | 279=>75 | 280=>76 | 281=>77 | 282=>78 | 287=>86 | 316=>87 | 171=>38 | 205=>88 | 321=>93 | 322=>94 | 243=>58 | 246=>73 | 283=>82 | 284=>83 | 285=>84 | 286=>85 | 129=>56 | 317=>89 | 318=>90 | 319=>91 | 320=>92 | 337=>95 | 338=>96 | n=>n,fun | 9=>9 | 3=>3 | 75=>51 | 76=>52 | 4=>4 | 5=>5 | 167=>78 | 37=>79 | 0=>0 | 85=>80 | 2=>2 | 168=>82 | 53=>67 | 175=>94 | 46=>48 | 210=>97 | 127=>103 | 145=>106 | 143=>104 | 21=>21 | 171=>90 | 173=>92 | 212=>100 | 51=>65 | 20=>20 | 213=>101 | 232=>107 | 233=>108 | 80=>109 | n=>n,fun | 15=>1 | 16=>2 | 17=>3 | 18=>4 | 19=>5 | n=>n⟩
theorem Tryd.laysC172:Go.Proofs.LaysC.n172 Tryd.prog Tryd.laysC172_ren:={
 mixed:=by kernel_rfl
 f129:=Tryd.func56.trans (congrArg some (by kernel_rfl))
 f171:=Tryd.func38.trans (congrArg some (by kernel_rfl))
 f172:=Tryd.func41.trans (congrArg some (by kernel_rfl))
 f205:=Tryd.func88.trans (congrArg some (by kernel_rfl))
 f243:=Tryd.func58.trans (congrArg some (by kernel_rfl))
 f244:=Tryd.func59.trans (congrArg some (by kernel_rfl))
 f245:=Tryd.func60.trans (congrArg some (by kernel_rfl))
 f246:=Tryd.func73.trans (congrArg some (by kernel_rfl))
 f247:=Tryd.func74.trans (congrArg some (by kernel_rfl))
 f279:=Tryd.func75.trans (congrArg some (by kernel_rfl))
 f280:=Tryd.func76.trans (congrArg some (by kernel_rfl))
 f281:=Tryd.func77.trans (congrArg some (by kernel_rfl))
 f282:=Tryd.func78.trans (congrArg some (by kernel_rfl))
 f283:=Tryd.func82.trans (congrArg some (by kernel_rfl))
 f284:=Tryd.func83.trans (congrArg some (by kernel_rfl))
 f285:=Tryd.func84.trans (congrArg some (by kernel_rfl))
 f286:=Tryd.func85.trans (congrArg some (by kernel_rfl))
 f287:=Tryd.func86.trans (congrArg some (by kernel_rfl))
 f316:=Tryd.func87.trans (congrArg some (by kernel_rfl))
 f317:=Tryd.func89.trans (congrArg some (by kernel_rfl))
 f318:=Tryd.func90.trans (congrArg some (by kernel_rfl))
 f319:=Tryd.func91.trans (congrArg some (by kernel_rfl))
 f320:=Tryd.func92.trans (congrArg some (by kernel_rfl))
 f321:=Tryd.func93.trans (congrArg some (by kernel_rfl))
 f322:=Tryd.func94.trans (congrArg some (by kernel_rfl))
 f337:=Tryd.func95.trans (congrArg some (by kernel_rfl))
 f338:=Tryd.func96.trans (congrArg some (by kernel_rfl))
 t0:=Tryd.underlying0
 a0:=Tryd.isAgg0
 z0:=Tryd.sizeOf0
 v0:=Tryd.zeroValue0
 t2:=Tryd.underlying2
 a2:=Tryd.isAgg2
 z2:=Tryd.sizeOf2
 v2:=Tryd.zeroValue2
 t3:=Tryd.underlying3
 a3:=Tryd.isAgg3
 z3:=Tryd.sizeOf3
 v3:=Tryd.zeroValue3
 t4:=Tryd.underlying4
 a4:=Tryd.isAgg4
 z4:=Tryd.sizeOf4
 v4:=Tryd.zeroValue4
 t5:=Tryd.underlying5
 a5:=Tryd.isAgg5
 z5:=Tryd.sizeOf5
 v5:=Tryd.zeroValue5
 t9:=Tryd.underlying9
 a9:=Tryd.isAgg9
 z9:=Tryd.sizeOf9
 v9:=Tryd.zeroValue9
 t20:=Tryd.underlying20
 a20:=Tryd.isAgg20
 z20:=Tryd.sizeOf20
 v20:=Tryd.zeroValue20
 t21:=Tryd.underlying21
 a21:=Tryd.isAgg21
 z21:=Tryd.sizeOf21
 v21:=Tryd.zeroValue21
 t37:=Tryd.underlying79
 a37:=Tryd.isAgg79
 z37:=Tryd.sizeOf79
 v37:=Tryd.zeroValue79
 t46:=Tryd.underlying48
 a46:=Tryd.isAgg48
 z46:=Tryd.sizeOf48
 v46:=Tryd.zeroValue48
 t51:=Tryd.underlying65
 a51:=Tryd.isAgg65
 z51:=Tryd.sizeOf65
 v51:=Tryd.zeroValue65
 t53:=Tryd.underlying67
 a53:=Tryd.isAgg67
 z53:=Tryd.sizeOf67
 v53:=Tryd.zeroValue67
 t75:=Tryd.underlying51
 a75:=Tryd.isAgg51
 z75:=Tryd.sizeOf51
 v75:=Tryd.zeroValue51
 t76:=Tryd.underlying52
 a76:=Tryd.isAgg52
 z76:=Tryd.sizeOf52
 v76:=Tryd.zeroValue52
 t85:=Tryd.underlying80
 a85:=Tryd.isAgg80
 z85:=Tryd.sizeOf80
 v85:=Tryd.zeroValue80
 t127:=Tryd.underlying103
 a127:=Tryd.isAgg103
 z127:=Tryd.sizeOf103
 v127:=Tryd.zeroValue103
 t143:=Tryd.underlying104
 a143:=Tryd.isAgg104
 z143:=Tryd.sizeOf104
 v143:=Tryd.zeroValue104
 t145:=Tryd.underlying106
 a145:=Tryd.isAgg106
 z145:=Tryd.sizeOf106
 v145:=Tryd.zeroValue106
 t167:=Tryd.underlying78
 a167:=Tryd.isAgg78
 z167:=Tryd.sizeOf78
 v167:=Tryd.zeroValue78
 t168:=Tryd.underlying82
 a168:=Tryd.isAgg82
 z168:=Tryd.sizeOf82
 v168:=Tryd.zeroValue82
 t171:=Tryd.underlying90
 a171:=Tryd.isAgg90
 z171:=Tryd.sizeOf90
 v171:=Tryd.zeroValue90
 t173:=Tryd.underlying92
 a173:=Tryd.isAgg92
 z173:=Tryd.sizeOf92
 v173:=Tryd.zeroValue92
 t175:=Tryd.underlying94
 a175:=Tryd.isAgg94
 z175:=Tryd.sizeOf94
 v175:=Tryd.zeroValue94
 t210:=Tryd.underlying97
 a210:=Tryd.isAgg97
 z210:=Tryd.sizeOf97
 v210:=Tryd.zeroValue97
 t212:=Tryd.underlying100
 a212:=Tryd.isAgg100
 z212:=Tryd.sizeOf100
 v212:=Tryd.zeroValue100
 t213:=Tryd.underlying101
 a213:=Tryd.isAgg101
 z213:=Tryd.sizeOf101
 t232:=Tryd.underlying107
 a232:=Tryd.isAgg107
 z232:=Tryd.sizeOf107
 v232:=Tryd.zeroValue107
 t233:=Tryd.underlying108
 a233:=Tryd.isAgg108
 z233:=Tryd.sizeOf108
 v233:=Tryd.zeroValue108
 g15:=by kernel_rfl
 g16:=by kernel_rfl
 g17:=by kernel_rfl
 g18:=by kernel_rfl
 g19:=by kernel_rfl
 t80:=Tryd.underlying109
 a80:=Tryd.isAgg109
 z80:=Tryd.sizeOf109
 v80:=Tryd.zeroValue109
 i0:=by kernel_rfl
 i2:=by kernel_rfl
 i3:=by kernel_rfl
 i4:=by kernel_rfl
 i5:=by kernel_rfl
 i9:=by kernel_rfl
 i20:=by kernel_rfl
 i21:=by kernel_rfl
 i37:=by kernel_rfl
 i46:=by kernel_rfl
 i51:=by kernel_rfl
 i53:=by kernel_rfl
 i75:=by kernel_rfl
 i76:=by kernel_rfl
 i80:=by kernel_rfl
 i85:=by kernel_rfl
 i127:=by kernel_rfl
 i143:=by kernel_rfl
 i145:=by kernel_rfl
 i167:=by kernel_rfl
 i168:=by kernel_rfl
 i171:=by kernel_rfl
 i173:=by kernel_rfl
 i175:=by kernel_rfl
 i210:=by kernel_rfl
 i212:=by kernel_rfl
 i232:=by kernel_rfl
 i233:=by kernel_rfl
 m15:=by kernel_rfl
 m16:=by kernel_rfl
 m17:=by kernel_rfl
 m18:=by kernel_rfl
 m19:=by kernel_rfl
 c0:=by kernel_rfl
 c2:=by kernel_rfl
 c3:=by kernel_rfl
 c4:=by kernel_rfl
 c5:=by kernel_rfl
 c9:=by kernel_rfl
 c20:=by kernel_rfl
 c21:=by kernel_rfl
 c37:=by kernel_rfl
 c46:=by kernel_rfl
 c51:=by kernel_rfl
 c53:=by kernel_rfl
 c75:=by kernel_rfl
 c76:=by kernel_rfl
 c80:=by kernel_rfl
 c85:=by kernel_rfl
 c127:=by kernel_rfl
 c143:=by kernel_rfl
 c145:=by kernel_rfl
 c167:=by kernel_rfl
 c168:=by kernel_rfl
 c171:=by kernel_rfl
 c173:=by kernel_rfl
 c175:=by kernel_rfl
 c210:=by kernel_rfl
 c212:=by kernel_rfl
 c213:=by kernel_rfl
 c232:=by kernel_rfl
 c233:=by kernel_rfl }
open Go.RowKit in
theorem Tryd.strconv_Atoi_ok (s:ByteArray)(hmax:s.size≤9223372036854775806)(v:Int)(h:Lib.atoiAll s.data.toList = .ok v)(w:World) :
  Calls Tryd.prog 41 #[.string s] w λe w'=>e = .returned (.tuple #[.int .i64 v,.nilIface])∧(w'=w∨∃t,w'=Lib.bytesWorld w 5 t):=Any.strconv_Atoi_ok Tryd.laysC172 s hmax v h w
open Go.RowKit in
theorem Tryd.strconv_Atoi_range_var (s : ByteArray) (hlim : s.size ≤ 281474976710656) (h : Lib.atoiAll s.data.toList = .range) (tp : TypeId) (p : Value) (w : World) (hvar : w.var? Tryd.prog "strconv.ErrRange" = some #[.iface tp p]) :
  Calls Tryd.prog 41 #[.string s] w λe w'=>∃N,e = .returned (.tuple #[.int .i64 (Lib.atoiSat s.data.toList),.iface 82 (.pointer (some ⟨N,0,none⟩))])∧w.heap.size≤N∧w'.heap[N]? =some (.cells #[.string ⟨#[65,116,111,105]⟩,.string s,.iface tp p] 97 (0,0))∧Below w.heap.size w w':=Any.strconv_Atoi_range_var Tryd.laysC172 s hlim h tp p w hvar
end Go.Proofs
namespace Go.Proofs.YthjcjnbngagagaaDoor
open Go Go.RowKit
set_option linter.unusedVariables false
noncomputable def CV:Nat:=Nat.max 3 2+1
structure E9 (w:World):Prop where
 pow : Lib.TabIs Tryd.prog w "internal/strconv.uint64pow10" .u64 Lib.pow10Tab
 rng : ∃ tp p, w.var? Tryd.prog "strconv.ErrRange" = some #[.iface tp p]
theorem Jv : Tryd.prog.globalNamed "internal/strconv.uint64pow10" = some 3 := by kernel_rfl
theorem Ju : Tryd.prog.globalNamed "strconv.ErrRange" = some 2 := by kernel_rfl
theorem GV:3<CV:=by decide +kernel
theorem GU:2<CV:=by decide +kernel
theorem E9.block (w w':World)(h:∀k,k<CV→w'.heap[k]? =w.heap[k]?)(hT:E9 w):E9 w':=by
 obtain⟨tp,p,hr⟩:=hT.rng;have hp:=hT.pow;unfold Lib.TabIs at hp;refine⟨?_,tp,p,?_⟩
 ·unfold Lib.TabIs;unfold World.var? at hp ⊢;rw[Jv] at hp ⊢;simp only[Option.bind_some] at hp ⊢;rw[h _ GV];exact hp
 ·unfold World.var? at hr ⊢;rw[Ju] at hr ⊢;simp only[Option.bind_some] at hr ⊢;rw[h _ GU];exact hr
def If (w:World)(M:List Nat):Prop:=CV≤w.heap.size∧∀k∈M,CV≤k
theorem E9.st {w0 w:World}{M:List Nat}{H:List Ent}(hT:E9 w0)(hG:If w0 M)(hw:St w0 M H w):E9 w:=
 E9.block w0 w (λk hk=>hw.old k (Nat.lt_of_lt_of_le hk hG.1) (λhm=>by have:=hG.2 k hm;omega)) hT
theorem If.nil {w:World}(h:CV≤w.heap.size):If w []:=⟨h,by simp⟩
theorem If.st {w0 w:World}{M:List Nat}{H:List Ent}(hG:If w0 M)(hw:St w0 M H w):CV≤w.heap.size:=Nat.le_trans hG.1 hw.size
structure Es (w:World):Prop where
 tabs:E9 w
 size:CV≤w.heap.size
theorem Es.st {w0 w:World}{M:List Nat}{H:List Ent}(hE:Es w0)(hM:∀k∈M,CV≤k)(hw:St w0 M H w):Es w:=
 ⟨hE.tabs.st ⟨hE.size,hM⟩ hw,Nat.le_trans hE.size hw.size⟩
theorem Es.st0 {w0 w:World}{H:List Ent}(hE:Es w0)(hw:St w0 [] H w):Es w:=hE.st (by simp) hw
theorem Ig (p:List UInt8):(B p).data.toList=p:=by simp[B]
theorem Jp (m:Int)(h0 : -9223372036854775808≤m)(h1:m≤9223372036854775807)(w:World)(hE:Es w):Calls Tryd.prog 38 [.int .i64 m].toArray w (AQ w (.string (B (Lib.itoa m)))):=
 (Tryd.strconv_Itoa m h0 h1 w hE.tabs.pow).mono λe w' ⟨he,k,os,hw⟩=>⟨he,by rw[hw];exact St.of_below (Lib.below_grow _ _ (KF _) _ _)⟩
theorem IB (p:List UInt8)(hp:p.length≤281474976710656)(v:Int)(h:Lib.atoiAll p = .ok v)(w:World):Calls Tryd.prog 41 [.string (B p)].toArray w (AQ w (.tuple #[.int .i64 v,.nilIface])):=
 (Tryd.strconv_Atoi_ok (B p) (by rw[AW];omega) v (by rw[Ig];exact h) w).mono λe w' ⟨he,hw⟩=>⟨he,by
  rcases hw with rfl | ⟨t,rfl⟩
  ·exact St.refl _ _
  ·exact St.of_below (Joins.below_bytesWorld _ _ _ _ (KF _))⟩
theorem Gs (p:List UInt8)(hp:p.length≤281474976710656)(h:Lib.atoiAll p = .range)(w:World)(hE:Es w) :
  Calls Tryd.prog 41 [.string (B p)].toArray w (Id w [] (λv H=>∃m t b,v = .tuple #[.int .i64 m,.iface t b]∧H=[])):=by
 obtain⟨tp,q,hr⟩:=hE.tabs.rng;exact(Tryd.strconv_Atoi_range_var (B p) (by rw[AW];omega) (by rw[Ig];exact h) tp q w hr).mono λe w' ⟨N,he,_,_,hb⟩=>⟨_,_,he,St.of_below hb,_,_,_,rfl,rfl⟩
open Go Go.ChangeShapes Go.WideShapes Go.ChangeAt Go.RowKit Go.WideElems
theorem own:ownKnob Tryd.prog.godebug=none:=by kernel_rfl
theorem I1:laidOutB Tryd.prog=true:=by kernel_rfl
section
variable {H : Type} {enc : TypeId × Value → H} {P : Program}
theorem CD (hl:laidOutB P=true){W W':World}(hb:Below W.heap.size W W'){sp:Nat→Bool}:∀{ts:List TypeId} {vs:List Value} {ds:List (DataW H)} {ps:List MemPlace},ts.all (λt=>P.readableRec t&&decide (t<P.types.size))=true→
  DataW.TrodAll enc P W 0 (λ_=>true) true ts vs ds ps→(∀p∈ps,p.block<W.heap.size)→(∀p∈ps,sp p.block=true)→DataW.TrodAll enc P W' 0 sp true ts vs ds ps
 | [],[],[],_,_,h,_,_=>h
 | [],_::_,_,_,_,h,_,_=>h.elim
 | [],[],_::_,_,_,h,_,_=>h.elim
 | _::_,[],_,_,_,h,_,_=>h.elim
 | _::_,_::_,[],_,_,h,_,_=>h.elim
 | t::ts,v::vs,d::ds,ps,ht,⟨p,q,h1,h2,e⟩,hlt,hs=>by
  simp only[List.all_cons,K0,Kk] at ht;refine⟨p,q,?_,CD hl hb ht.2 h2 (λx hx=>hlt x (by rw[e];exact List.mem_append_right _ hx)) (λx hx=>hs x (by rw[e];exact List.mem_append_right _ hx)),e⟩;exact Trod_stays hl ht.1.1 ht.1.2 h1 (λx hx=>hb.same (hlt x (by rw[e];exact List.mem_append_left _ hx))) (λx hx=>hs x (by rw[e];exact List.mem_append_left _ hx))
theorem GR (hl:laidOutB P=true){f:Func}{s:ChangeSpec}{apart fresh handsOn:Bool}{W W':World}{args:Array Value}{ds gs:List (DataW H)}{before:List MemPlace}{tb:TypeId}(hp:f.params.toList.all (λt=>P.readableRec t&&decide (t<P.types.size))=true)
  (hv:s.vars=[]) (hr:f.resultTypes = #[tb]) (hb4:P.underlying tb=some .bool) (hW:DataW.Whole enc P f.params.toList s.vars apart W args.toList ds gs before)
  (h1:(s.fn H (ds++gs)).results=[.lit (.bool true)]) (h2:(s.fn H (ds++gs)).args=ds) (h3:(s.fn H (ds++gs)).vars=[]) (hb:Below W.heap.size W W') :
  s.post enc P f apart fresh handsOn false W args (.bool true) W':=by
 have hlt:∀p∈before,p.block<W.heap.size:=λp hp=>hW.lt p hp;have hW':=hW;obtain⟨p,q,hA,hV,hbf,_,_⟩:=hW';have hq:q=[]:=by
  rw[hv] at hV
  cases gs with
  | nil=>exact hV
  | cons _ _=>exact hV.elim
 subst hq;rw[List.append_nil] at hbf;subst hbf;refine⟨ds,gs,before,[],before,[],hW,?_,?_,?_,World.keptBut_mono (λp hp=>⟨hp,.inr (.inl hp)⟩) (hb.frame (·∈before)),λh=>by cases h⟩
 ·rw[h1,hr];exact trodAll_mk1 (shut_bool hb4 true)
 ·rw[h2];exact CD hl hb hp hA hlt (λx hx=>by simpa using hlt x hx)
 ·rw[hv,h3];exact rfl
end
theorem Gr:Tryd.prog.underlying 4=some .bool:=Tryd.underlying4
def DG : List (String × DataW Unit) := [("math/bits.deBruijn32tab", Rows.laid_math_bits_deBruijn32tab), ("math/bits.deBruijn64tab", Rows.laid_math_bits_deBruijn64tab), ("internal/strconv.uint64pow10", Rows.laid_internal_strconv_uint64pow10), ("strconv.ErrRange", Rows.laid_strconv_ErrRange), ("strconv.ErrSyntax", Rows.laid_strconv_ErrSyntax)]
theorem HT:(Tryd.prog.globals[3]?).map (·.type)=some 100:=by kernel_rfl
theorem HS:(Tryd.prog.globals[2]?).map (·.type)=some 51:=by kernel_rfl
theorem Hi:Tryd.prog.cellsOf 67=1:=by kernel_rfl
theorem Hj:Tryd.prog.cellsOf 100=20:=by kernel_rfl
theorem Hk:Tryd.prog.cellsOf 9=1:=by kernel_rfl
theorem HY:Tryd.prog.cellsOf 106=1:=by kernel_rfl
theorem G8 : "*" ++ "errors.errorString" = "*errors.errorString" := by decide
theorem Jw (u : TypeId) (h : Tryd.prog.typeName? 3 u = some "*errors.errorString") : u = 104 :=
 typeName_ptr_named (nm := "errors.errorString") (by rw [G8]; kernel_rfl) (by kernel_rfl) (by decide) u (by rw [G8]; exact h)
theorem G6 {W:World}{n:String}{g:Nat}{cs:Array Value}(hg:Tryd.prog.globalNamed n=some g)(h:W.var? Tryd.prog n=some cs):g<W.heap.size:=by
 unfold World.var? at h;rw[hg] at h;simp only[Option.bind_some] at h
 cases hh:W.heap[g]? with
 | none=>rw[hh] at h;cases h
 | some o=>exact(Array.getElem?_eq_some_iff.1 hh).1
theorem Jx {W:World}(h:laidMet Tryd.prog DG W):Es W:=by
 have h3:=laidMet.tail (laidMet.tail h);have h4:=laidMet.tail h3;have hp : Lib.TabIs Tryd.prog W "internal/strconv.uint64pow10" .u64 Lib.pow10Tab := Lib.tabIs_of_head Jv HT Tryd.underlying100 Tryd.underlying67 Hi Hj h3
 obtain⟨a,s,hv,_,_,_⟩:=laid_sentinel h4 Ju HS Tryd.underlying51 Jw Tryd.underlying104 Tryd.underlying106 rfl rfl Tryd.underlying9 HY Hk;refine⟨⟨hp,_,_,hv⟩,?_⟩;have h1:=G6 Jv hp;have h2:=G6 Ju hv;exact Nat.max_lt.2 ⟨h1,h2⟩
noncomputable def C7 (os:Os):World:=
 let w0:=World.holding Tryd.prog os ⟨#[],#[],[]⟩
 let put (h:Array Obj) (g:Nat) (cs:Array Value):Array Obj:=h.modify g fun
  | .cells _ t frozen=>.cells cs t frozen
  | o=>o
 let nums (d:DataW Unit):Array Value:=match d with
  | .agg ds=>(ds.map fun | .lit (.int k n)=>Value.int k n | _=>undef).toArray
  | _=>#[]
 let n:=w0.heap.size
 let h1:=put w0.heap 4 (nums Rows.laid_math_bits_deBruijn32tab)
 let h2:=put h1 5 (nums Rows.laid_math_bits_deBruijn64tab)
 let h3:=put h2 3 (nums Rows.laid_internal_strconv_uint64pow10)
 let h4:=put h3 2 #[.iface 104 (.pointer (some ⟨n,0,none⟩))]
 let h5:=put h4 1 #[.iface 104 (.pointer (some ⟨n+1,0,none⟩))]
 let h6:=h5.push (.cells #[.string ⟨#[118,97,108,117,101,32,111,117,116,32,111,102,32,114,97,110,103,101]⟩] 106 (0,0))
 let h7:=h6.push (.cells #[.string ⟨#[105,110,118,97,108,105,100,32,115,121,110,116,97,120]⟩] 106 (0,0))
 { w0 with heap:=h7 }
set_option maxRecDepth 100000 in
theorem HE (os:Os)(args:Array Value):laidMet Tryd.prog DG ((C7 os).forCall (λ_ _=>0) ⟨#[],args,[]⟩).memory:=
 laidMet_of_run' 8 (by kernel_rfl) (by kernel_rfl)
end Go.Proofs.YthjcjnbngagagaaDoor
namespace Go.Proofs.YthjcjnbngagagaaDoor.Q
open Go Go.RowKit
set_option linter.unusedVariables false
abbrev Fz:=Nat→Option Obj
def Fz.le (Z Z':Fz):Prop:=∀b o,Z b=some o→Z' b=some o
theorem Fz.le.refl (Z:Fz):Fz.le Z Z:=λ_ _ h=>h
theorem Fz.le.trans {Z Z' Z'':Fz}(h:Fz.le Z Z')(h':Fz.le Z' Z''):Fz.le Z Z'':=λb o e=>h' b o (h b o e)
def Ii (Z:Fz)(w:World):Prop:=∀b o,Z b=some o→w.heap[b]? =some o
def Cz (Z:Fz)(b o:Nat):Option Value:=match Z b with
 | some (.cells cs _ _)=>cs[o]?
 | _=>none
theorem D3 {Z Z':Fz}(h:Fz.le Z Z'){b o:Nat}{v:Value}(e:Cz Z b o=some v):Cz Z' b o=some v:=by
 unfold Cz at *
 cases hz:Z b with
 | none=>simp[hz] at e
 | some ob=>rw[h b ob hz];simpa[hz] using e
theorem D4 {Z:Fz}{w:World}(h:Ii Z w){b o:Nat}{v:Value}(e:Cz Z b o=some v):w.cell? ⟨b,o,none⟩=some v:=by
 unfold Cz at e
 cases hz:Z b with
 | none=>simp[hz] at e
 | some ob=>
  rw[hz] at e
  cases ob with
  | cells cs t fz=>rw[cell_of_row w b o cs t fz (h b _ hz)];exact e
  | _=>cases e
structure Rp where
 p:Fz→Value→Prop
 mono:∀{Z Z':Fz} {v:Value},Fz.le Z Z'→p Z v→p Z' v
 one:Bool
 hone:one=true→∀Z v,p Z v→v.oneCell'=true
def rv (x:Value):Rp:=⟨λ_ y=>y=x,λ_ h=>h,x.oneCell',λh _ _ e=>by rw[e];exact h⟩
abbrev rI (k:IntKind)(n:Int):Rp:=rv (.int k n)
abbrev rB (b:Bool):Rp:=rv (.bool b)
abbrev rS (s:List UInt8):Rp:=rv (.string (B s))
def Aw (Z:Fz):List Rp→List Value→Prop
 | [],[]=>True
 | r::rs,v::vs=>r.p Z v∧Aw Z rs vs
 | _,_=>False
theorem Aw.mono {Z Z':Fz}(h:Fz.le Z Z'):∀{rs:List Rp} {vs:List Value},Aw Z rs vs→Aw Z' rs vs
 | [],[],_=>trivial
 | r::rs,v::vs,⟨h1,h2⟩=>⟨r.mono h h1,Aw.mono h h2⟩
theorem Aw.length {Z:Fz}:∀{rs:List Rp} {vs:List Value},Aw Z rs vs→vs.length=rs.length
 | [],[],_=>rfl
 | r::rs,v::vs,⟨_,h2⟩=>by simp[Aw.length h2]
theorem Aw.at {Z:Fz}:∀{rs:List Rp} {vs:List Value},Aw Z rs vs→∀{i:Nat} {r:Rp},rs[i]? =some r→∃v,vs[i]? =some v∧r.p Z v
 | [],[],_,i,r,h=>by simp at h
 | r::rs,v::vs,⟨h1,h2⟩,0,r',h=>by simp at h;subst h;exact⟨v,rfl,h1⟩
 | r::rs,v::vs,⟨h1,h2⟩,i+1,r',h=>by simpa using Aw.at h2 (by simpa using h)
theorem Aw.of {Z:Fz}:∀{rs:List Rp} {vs:List Value},vs.length=rs.length→(∀(i:Nat) r,rs[i]? =some r→∃v,vs[i]? =some v∧r.p Z v)→Aw Z rs vs
 | [],[],_,_=>trivial
 | r::rs,v::vs,hl,h=>by
  refine⟨?_,Aw.of (by simpa using hl) λi r' hi=>by simpa using h (i+1) r' (by simpa using hi)⟩;obtain⟨u,hu,hp⟩:=h 0 r rfl;simp at hu;subst hu;exact hp
 | [],_::_,hl,_=>by simp at hl
 | _::_,[],hl,_=>by simp at hl
theorem Aw.append {Z:Fz}:∀{rs:List Rp} {vs:List Value} {rs':List Rp} {vs':List Value},Aw Z rs vs→Aw Z rs' vs'→Aw Z (rs++rs') (vs++vs')
 | [],[],_,_,_,h=>h
 | r::rs,v::vs,_,_,⟨h1,h2⟩,h=>⟨h1,Aw.append h2 h⟩
theorem Aw.take {Z:Fz}:∀{rs:List Rp} {vs:List Value} (k:Nat),Aw Z rs vs→Aw Z (rs.take k) (vs.take k)
 | _,_,0,_=>by simp[Aw]
 | [],[],k+1,_=>by simp[Aw]
 | r::rs,v::vs,k+1,⟨h1,h2⟩=>⟨h1,Aw.take k h2⟩
theorem Aw.drop {Z:Fz}:∀{rs:List Rp} {vs:List Value} (k:Nat),Aw Z rs vs→Aw Z (rs.drop k) (vs.drop k)
 | _,_,0,h=>by simpa using h
 | [],[],k+1,_=>by simp[Aw]
 | r::rs,v::vs,k+1,⟨h1,h2⟩=>by simpa using Aw.drop k h2
theorem Aw.set {Z:Fz}:∀{rs:List Rp} {vs:List Value} (k:Nat) {r:Rp} {v:Value},Aw Z rs vs→r.p Z v→Aw Z (rs.set k r) (vs.set k v)
 | [],[],k,_,_,h,_=>by simp[Aw]
 | r::rs,v::vs,0,_,_,⟨h1,h2⟩,h=>⟨h,h2⟩
 | r::rs,v::vs,k+1,_,_,⟨h1,h2⟩,h=>⟨h1,Aw.set k h2 h⟩
theorem Aw.one {Z:Fz}:∀{rs:List Rp} {vs:List Value},rs.all (·.one)=true→Aw Z rs vs→∀v∈vs,v.oneCell'=true
 | [],[],_,_,_,h=>by simp at h
 | r::rs,v::vs,ho,⟨h1,h2⟩,u,h=>by
  simp only[List.all_cons,K0] at ho;rcases List.mem_cons.1 h with rfl | h
  ·exact r.hone ho.1 Z _ h1
  ·exact Aw.one ho.2 h2 u h
theorem Aw.eq_rv {Z:Fz}:∀{us vs:List Value},Aw Z (us.map Q.rv) vs→vs=us
 | [],[],_=>rfl
 | u::us,v::vs,⟨h1,h2⟩=>by rw[show v=u from h1,Aw.eq_rv h2]
def Jj (rs:List Rp):Rp:=⟨λZ v=>∃us:List Value,v = .agg us.toArray∧Aw Z rs us,λh ⟨us,e,hu⟩=>⟨us,e,hu.mono h⟩,false,λh=>by cases h⟩
def Ir (rs:List Rp):Rp:=⟨λZ v=>∃us:List Value,v = .tuple us.toArray∧Aw Z rs us,λh ⟨us,e,hu⟩=>⟨us,e,hu.mono h⟩,false,λh=>by cases h⟩
def GF (sz:Nat)(xs:List (List Rp))(Z:Fz)(v:Value):Prop:=
 ∃A cap,v = .slice A xs.length cap∧xs.length≤cap∧cap≤maxLen∧(A=none→cap=0)∧
  ∀i c,xs[i]? =some c→c.length=sz∧∃a:Addr,A=some a∧a.spot=none∧∀j r,c[j]? =some r→∃u,Cz Z a.block (a.off+(i*sz+j))=some u∧r.p Z u
theorem GF.mono {sz:Nat}{xs:List (List Rp)}{Z Z':Fz}{v:Value}(h:Fz.le Z Z'):GF sz xs Z v→GF sz xs Z' v:=λ⟨A,cap,e,h1,h2,h3,h4⟩=>
 ⟨A,cap,e,h1,h2,h3,λi c hi=>by
  obtain⟨hl,a,ha,hs,hc⟩:=h4 i c hi;exact⟨hl,a,ha,hs,λj r hj=>by
   obtain⟨u,hu,hr⟩:=hc j r hj;exact⟨u,D3 h hu,r.mono h hr⟩⟩⟩
def Bk (sz:Nat)(xs:List (List Rp)):Rp:=⟨GF sz xs,GF.mono,true,λ_ Z v ⟨A,cap,e,_⟩=>by rw[e];rfl⟩
theorem GF.nil (sz:Nat)(Z:Fz):GF sz [] Z (.slice none 0 0):=⟨none,0,rfl,KF _,by simp[maxLen],λ_=>rfl,λi c h=>by simp at h⟩
def GG (r r':Rp):Prop:=∀Z v,r.p Z v→r'.p Z v
theorem GG.refl (r:Rp):GG r r:=λ_ _ h=>h
theorem GG.nil (sz:Nat):GG (rv (.slice none 0 0)) (Bk sz []):=λZ v h=>by rw[show v=_ from h];exact GF.nil sz Z
abbrev Fr:=List (Nat×Rp)
def look:Fr→Nat→Option Rp
 | [],_=>none
 | p::l,i=>bif Nat.beq p.1 i then some p.2 else look l i
theorem AH (j:Nat)(v:Rp)(l:Fr)(i:Nat):look ((j,v)::l) i=if j=i then some v else look l i:=by
 by_cases h:j=i
 ·subst h;simp[look]
 ·have:Nat.beq j i=false:=by
   cases hb:Nat.beq j i
   ·rfl
   ·exact absurd (Nat.eq_of_beq_eq_true hb) h
  simp[look,this,h]
structure AU (n:Nat) (l:Fr) (a:Act) (Z:Fz):Prop where
 size:a.tmps.size=n
 defers:a.defers=[]
 tm:∀i r,look l i=some r→∃v,a.tmps[i]? =some v∧r.p Z v
def ev:Fr→Operand→Option Rp
 | l,.tmp t=>look l t
 | _,.const v=>some (rv v)
 | _,.global g=>some (rv (.pointer (some ⟨g,0,none⟩)))
 | _,.func f=>some (rv (.func (.func f) #[] #[]))
section
variable {n : Nat} {l l' : Fr} {a : Act} {Z Z' : Fz}
theorem AU.ev (h:AU n l a Z){x:Operand}{r:Rp}(hx:Q.ev l x=some r):r.p Z (a.eval x):=by
 cases x with
 | tmp t=>obtain⟨v,hv,hp⟩:=h.tm t r hx;simpa[Act.eval,Array.getD_eq_getD_getElem?,hv] using hp
 | const u=>simp only[Q.ev,Option.some.injEq] at hx;subst hx;rfl
 | global g=>simp only[Q.ev,Option.some.injEq] at hx;subst hx;rfl
 | func f=>simp only[Q.ev,Option.some.injEq] at hx;subst hx;rfl
theorem AU.eval (h:AU n l a Z){x:Operand}{v:Value}(hx:Q.ev l x=some (rv v)):a.eval x=v:=h.ev hx
theorem AU.put (h:AU n l a Z){d:Nat}(hd:Nat.blt d n=true){r:Rp}{v:Value}(hv:r.p Z v):AU n ((d,r)::l) (a.put (some d) v) Z:=by
 have hd':d<n:=by simpa using hd
 refine⟨by simp[Act.put,h.size],by simp[Act.put,h.defers],λi u hi=>?_⟩;rw[AH] at hi;simp only[Act.put,Array.getElem?_setIfInBounds]
 split at hi
 ·rename_i e;subst e;simp at hi;subst hi;exact⟨v,by simp[h.size,hd'],hv⟩
 ·rename_i e;rw[if_neg e];exact h.tm i u hi
theorem AU.put_none (h:AU n l a Z)(v:Value):AU n l (a.put none v) Z:=h
theorem AU.mono (h:AU n l a Z)(hz:Fz.le Z Z'):AU n l a Z':=⟨h.size,h.defers,λi r hi=>let ⟨v,hv,hp⟩:=h.tm i r hi;⟨v,hv,r.mono hz hp⟩⟩
def A9:Fr→Fr→Prop
 | [],_=>True
 | p::r,l=>(∃q,look l p.1=some q∧GG q p.2)∧A9 r l
theorem A9.look:∀{l' l:Fr},A9 l' l→∀i v,Q.look l' i=some v→∃q,Q.look l i=some q∧GG q v
 | [],_,_,i,v,h=>by simp[Q.look] at h
 | p::r,l,⟨h1,h2⟩,i,v,h=>by
  obtain⟨j,u⟩:=p;rw[AH] at h
  split at h
  ·rename_i e;subst e;simp at h;subst h;exact h1
  ·exact A9.look h2 i v h
theorem A9.nil:A9 [] l:=trivial
theorem A9.c {i:Nat}{r:Rp}{t:Fr}(h:Q.look l i=some r)(ht:A9 t l):A9 ((i,r)::t) l:=⟨⟨r,h,GG.refl r⟩,ht⟩
theorem A9.w {i:Nat}{r q:Rp}{t:Fr}(h:Q.look l i=some q)(hr:GG q r)(ht:A9 t l):A9 ((i,r)::t) l:=⟨⟨q,h,hr⟩,ht⟩
theorem A9.c5 {i1 i2 i3 i4 i5:Nat}{r1 r2 r3 r4 r5:Rp}{t:Fr}(h1:Q.look l i1=some r1)(h2:Q.look l i2=some r2)(h3:Q.look l i3=some r3)(h4:Q.look l i4=some r4)(h5:Q.look l i5=some r5)(ht:A9 t l):A9 ((i1,r1)::(i2,r2)::(i3,r3)::(i4,r4)::(i5,r5)::t) l:=
 A9.c h1 (A9.c h2 (A9.c h3 (A9.c h4 (A9.c h5 ht))))
theorem AU.sub (h:AU n l a Z)(hs:A9 l' l):AU n l' a Z:=⟨h.size,h.defers,λi v hi=>by
 obtain⟨q,hq,hle⟩:=hs.look i v hi;obtain⟨u,hu,hp⟩:=h.tm i q hq;exact⟨u,hu,hle Z u hp⟩⟩
end
inductive Ent where
 | obj (b:Nat) (o:Obj)
 | blk (b:Nat) (cs:List Rp) (e:TypeId)
 | row (v:Value) (e:TypeId) (sz:Nat) (xs:List (List Rp))
 | map (b:Nat) (m:List (List UInt8×Rp))
 | fact (v:Value) (r:Rp)
 | bld (T e:TypeId) (b:Nat) (v:Value) (l:List UInt8)
 | mit (b it:Nat) (m rest:List (List UInt8×Rp)) (cur:Option (List UInt8×Rp))
def Ent.foot:Ent→List Nat
 | .obj b _=>[b]
 | .blk b _ _=>[b]
 | .row v _ _ _=>v.ownBlock.toList
 | .map b _=>[b]
 | .fact _ _=>[]
 | .bld _ _ b v _=>b::v.ownBlock.toList
 | .mit b it _ _ _=>[b,it]
def DV (Z:Fz):List (List UInt8×Rp)→List MapEntry→Prop
 | [],[]=>True
 | p::f,e::es=>(e.key = .string (B p.1)∧p.2.p Z e.val)∧DV Z f es
 | _,_=>False
theorem DV.mono {Z Z':Fz}(h:Fz.le Z Z'):∀{f:List (List UInt8×Rp)} {es:List MapEntry},DV Z f es→DV Z' f es
 | [],[],_=>trivial
 | p::f,e::es,⟨⟨h1,h2⟩,h3⟩=>⟨⟨h1,p.2.mono h h2⟩,DV.mono h h3⟩
def CH (Z:Fz)(m:List (List UInt8×Rp))(es:List MapEntry)(ck:Nat):Prop:=
 (m.map (·.1)).Nodup∧(es.map (·.born)).Nodup∧(∀e∈es,e.born<ck)∧∃f:List (List UInt8×Rp),f.Perm m∧DV Z f es
theorem CH.mono {Z Z':Fz}(h:Fz.le Z Z'){m:List (List UInt8×Rp)}{es:List MapEntry}{ck:Nat}:CH Z m es ck→CH Z' m es ck:=λ⟨h1,h2,h3,f,h4,h5⟩=>⟨h1,h2,h3,f,h4,h5.mono h⟩
def JX (Z:Fz)(rest:List (List UInt8×Rp))(es:List MapEntry)(seen:Array Nat):Prop:=∃f,f.Perm rest∧DV Z f (es.filter λe=>!seen.contains e.born)
def JR (Z:Fz)(es:List MapEntry)(ck:Nat)(seen:Array Nat)(c0:Nat):Option (List UInt8×Rp)→Prop
 | none=>True
 | some kr=>c0=ck∧∃s0 e,seen=Array.push s0 e.born∧e∈es∧e.key = .string (B kr.1)∧kr.2.p Z e.val
theorem JR.mono {Z Z':Fz}(h:Fz.le Z Z'){es:List MapEntry}{ck:Nat}{seen:Array Nat}{c0:Nat}:∀{cur:Option (List UInt8×Rp)},JR Z es ck seen c0 cur→JR Z' es ck seen c0 cur
 | none,_=>trivial
 | some kr,⟨h1,s0,e,h2,h3,h4,h5⟩=>⟨h1,s0,e,h2,h3,h4,kr.2.mono h h5⟩
def Ent.holds (Z:Fz)(w:World):Ent→Prop
 | .obj b o=>w.heap[b]? =some o
 | .blk b cs e=>∃us:List Value,w.heap[b]? =some (.cells us.toArray e (0,0))∧Aw Z cs us
 | .row v e sz xs=>(∀c∈xs,c.length=sz)∧∃us:List Value,w.ownsRow 0 e sz v xs.length us∧Aw Z xs.flatten us
 | .map b m=>∃es ck,w.heap[b]? =some (.map es ck)∧CH Z m es.toList ck
 | .fact v r=>r.p Z v
 | .bld T e b v l=>∃p,(p = .pointer none∨p = .pointer (some ⟨b,0,none⟩))∧w.heap[b]? =some (.cells #[p,v] T (0,0))∧w.ownsRow 0 e 1 v l.length (l.map λc=>Value.int .u8 c.toNat)∧v.ownBlock≠some b
 | .mit b it m rest cur=>∃es ck seen since c0,w.heap[b]? =some (.map es ck)∧w.heap[it]? =some (.mapIter (some b) since seen c0)∧CH Z m es.toList ck∧(∀e∈es.toList,e.born<since)∧since≤c0∧c0≤ck∧b≠it∧JX Z rest es.toList seen∧JR Z es.toList ck seen c0 cur
theorem Ent.lt {Z:Fz}{w:World}{e:Ent}(h:e.holds Z w){k:Nat}(hk:k∈e.foot):k<w.heap.size:=by
 cases e with
 | obj b o=>simp[Ent.foot] at hk;subst hk;exact(Array.getElem?_eq_some_iff.1 h).1
 | blk b cs e=>simp[Ent.foot] at hk;subst hk;obtain⟨us,h,_⟩:=h;exact(Array.getElem?_eq_some_iff.1 h).1
 | row v e sz xs=>simp[Ent.foot,Option.mem_toList] at hk;obtain⟨_,us,h,_⟩:=h;exact(World.ownsRow.lt h k hk).2
 | map b m=>simp[Ent.foot] at hk;subst hk;obtain⟨es,ck,h,_⟩:=h;exact(Array.getElem?_eq_some_iff.1 h).1
 | fact v r=>simp[Ent.foot] at hk
 | bld T e b v l=>
  obtain⟨p,_,h1,h2,_⟩:=h;simp only[Ent.foot,List.mem_cons,Option.mem_toList] at hk;rcases hk with rfl | hk
  ·exact(Array.getElem?_eq_some_iff.1 h1).1
  ·exact(World.ownsRow.lt h2 k hk).2
 | mit b it m rest cur=>
  obtain⟨es,ck,seen,since,c0,h1,h2,_⟩:=h;simp only[Ent.foot,List.mem_cons,List.not_mem_nil,or_false] at hk;rcases hk with rfl | rfl
  ·exact(Array.getElem?_eq_some_iff.1 h1).1
  ·exact(Array.getElem?_eq_some_iff.1 h2).1
theorem CT {w w':World}{e:TypeId}{sz n:Nat}{v:Value}{us:List Value}(h:w.ownsRow 0 e sz v n us)(hk:∀k∈v.ownBlock.toList,w'.heap[k]? =w.heap[k]?):w'.ownsRow 0 e sz v n us:=by
 refine⟨h.1,?_⟩;rcases h.2 with hn | ⟨g,cap,cur,rfl,hb,hgg,rest⟩
 ·exact .inl hn
 ·exact .inr ⟨g,cap,cur,rfl,hb,(hk g (by simp[Value.ownBlock])).trans hgg,rest⟩
theorem Ent.keep {Z Z':Fz}{w w':World}{e:Ent}(h:e.holds Z w)(hz:Fz.le Z Z')(hk:∀k∈e.foot,w'.heap[k]? =w.heap[k]?):e.holds Z' w':=by
 cases e with
 | obj b o=>exact(hk b (by simp[Ent.foot])).trans h
 | blk b cs e=>obtain⟨us,h1,h2⟩:=h;exact⟨us,(hk b (by simp[Ent.foot])).trans h1,h2.mono hz⟩
 | row v e sz xs=>obtain⟨h0,us,h1,h2⟩:=h;exact⟨h0,us,CT h1 hk,h2.mono hz⟩
 | map b m=>obtain⟨es,ck,h1,h2⟩:=h;exact⟨es,ck,(hk b (by simp[Ent.foot])).trans h1,h2.mono hz⟩
 | fact v r=>exact r.mono hz h
 | bld T e b v l=>obtain⟨p,h0,h1,h2,h3⟩:=h;exact⟨p,h0,(hk b (by simp[Ent.foot])).trans h1,CT h2 (λk hk'=>hk k (by simp only[Ent.foot,List.mem_cons];exact .inr hk')),h3⟩
 | mit b it m rest cur=>
  obtain⟨es,ck,seen,since,c0,h1,h2,h3,h4,h5,h6,h7,⟨f,h8,h9⟩,ha⟩:=h;exact⟨es,ck,seen,since,c0,(hk b (by simp[Ent.foot])).trans h1,(hk it (by simp[Ent.foot])).trans h2,h3.mono hz,h4,h5,h6,h7,⟨f,h8,h9.mono hz⟩,ha.mono hz⟩
structure Cx where
 w0:World
 Z0:Fz
 M:List Nat
 E:Fz→Prop
structure St (c:Cx) (H:List Ent) (Z:Fz) (w:World):Prop where
 os:w.os=c.w0.os
 tape:w.tape=c.w0.tape
 output:w.output=c.w0.output
 size:c.w0.heap.size≤w.heap.size
 old:∀k,k<c.w0.heap.size→k ∉ c.M→w.heap[k]? =c.w0.heap[k]?
 has:∀e∈H,e.holds Z w
 own:∀e∈H,∀k∈e.foot,c.w0.heap.size≤k∨k∈c.M
 dis:H.Pairwise (λe e'=>∀k∈e.foot,k ∉ e'.foot)
 frz:Ii Z w
 le:Fz.le c.Z0 Z
 new:∀b o,Z b=some o→c.Z0 b=some o∨c.w0.heap.size≤b∨b∈c.M
 zdis:∀e∈H,∀k∈e.foot,Z k=none
 env:c.E Z
 emono:∀{Z Z':Fz},Fz.le Z Z'→c.E Z→c.E Z'
section
variable {c : Cx} {w w' : World} {Z Z' : Fz} {H H' Hr Hin Hout : List Ent}
theorem Ii.lt (h:Ii Z w){b:Nat}{o:Obj}(e:Z b=some o):b<w.heap.size:=(Array.getElem?_eq_some_iff.1 (h b o e)).1
theorem St.enter (h:St c (Hin++Hr) Z w):St ⟨w,Z,Hin.flatMap Ent.foot,c.E⟩ Hin Z w:=
 ⟨rfl,rfl,rfl,KF _,λ_ _ _=>rfl,λe he=>h.has e (List.mem_append_left _ he),λe he k hk=>.inr (List.mem_flatMap.2 ⟨e,he,hk⟩),(List.pairwise_append.1 h.dis).1,
  h.frz,Fz.le.refl _,λ_ _ e=>.inl e,λe he=>h.zdis e (List.mem_append_left _ he),h.env,h.emono⟩
theorem St.sub (h:St c H Z w)(hs:H'.Sublist H):St c H' Z w:=
 { h with has:=λe he=>h.has e (hs.subset he),own:=λe he=>h.own e (hs.subset he),dis:=h.dis.sublist hs,zdis:=λe he=>h.zdis e (hs.subset he) }
theorem St.perm (h:St c H Z w)(hp:H.Perm H'):St c H' Z w:=
 { h with has:=λe he=>h.has e (hp.mem_iff.2 he),own:=λe he=>h.own e (hp.mem_iff.2 he),dis:=(hp.pairwise_iff (λhxy k hk hk'=>hxy k hk' hk)).1 h.dis,zdis:=λe he=>h.zdis e (hp.mem_iff.2 he) }
theorem AI:∀{H:List Ent} {i:Nat} {e:Ent},H[i]? =some e→H.Perm (e::H.eraseIdx i)
 | x::r,0,e,h=>by simp at h;subst h;simp
 | x::r,i+1,e,h=>by
  simp at h;exact((AI h).cons x).trans (List.Perm.swap e x _)
theorem St.front (h:St c H Z w){i:Nat}{e:Ent}(hi:H[i]? =some e):St c (e::H.eraseIdx i) Z w:=h.perm (AI hi)
theorem St.ent (h:St c H Z w){i:Nat}{en:Ent}(hi:H[i]? =some en):en.holds Z w:=h.has en (KG hi)
theorem St.drawn (h:St c H Z w)(k:Nat):St c H Z { w with drawn:=k }:=
 { h with has:=λe he=>Ent.keep (h.has e he) (Fz.le.refl _) λ_ _=>rfl,frz:=h.frz }
theorem St.mem_lt (h:St c H Z w){e:Ent}(he:e∈H){k:Nat}(hk:k∈e.foot):k<w.heap.size:=Ent.lt (h.has e he) hk
theorem St.call (h:St c (Hin++Hr) Z w){E:Fz→Prop}(h':St ⟨w,Z,Hin.flatMap Ent.foot,E⟩ Hout Z' w'):St c (Hout++Hr) Z' w':=by
 have hd:=List.pairwise_append.1 h.dis;have hM:∀k∈Hin.flatMap Ent.foot,∃e∈Hin,k∈e.foot:=λk hk=>List.mem_flatMap.1 hk;have hM2:∀k,k<c.w0.heap.size→k ∉ c.M→k ∉ Hin.flatMap Ent.foot:=λk hk hkM hkM2=>by
  obtain⟨e,he,hke⟩:=hM k hkM2;rcases h.own e (List.mem_append_left _ he) k hke with h1 | h1
  ·omega
  ·exact hkM h1
 have hr:∀e∈Hr,∀k∈e.foot,k<w.heap.size∧k ∉ Hin.flatMap Ent.foot:=λe he k hk=>by
  refine⟨h.mem_lt (List.mem_append_right _ he) hk,λhkM2=>?_⟩;obtain⟨e',he',hke'⟩:=hM k hkM2;exact hd.2.2 e' he' e he k hke' hk
 refine⟨h'.os.trans h.os,h'.tape.trans h.tape,h'.output.trans h.output,Nat.le_trans h.size h'.size,λk hk hkM=>?_,λe he=>?_,λe he k hk=>?_,?_,h'.frz,h.le.trans h'.le,λb o hb=>?_,λe he k hk=>?_,h.emono h'.le h.env,h.emono⟩
 ·exact(h'.old k (Nat.lt_of_lt_of_le hk h.size) (hM2 k hk hkM)).trans (h.old k hk hkM)
 ·rcases List.mem_append.1 he with he | he
  ·exact h'.has e he
  ·exact Ent.keep (h.has e (List.mem_append_right _ he)) h'.le λk hk=>h'.old k (hr e he k hk).1 (hr e he k hk).2
 ·rcases List.mem_append.1 he with he | he
  ·rcases h'.own e he k hk with h1 | h1
   ·exact .inl (Nat.le_trans h.size h1)
   ·obtain⟨e',he',hke'⟩:=hM k h1;exact h.own e' (List.mem_append_left _ he') k hke'
  ·exact h.own e (List.mem_append_right _ he) k hk
 ·refine List.pairwise_append.2 ⟨h'.dis,hd.2.1,λe he e' he' k hk hk'=>?_⟩;rcases h'.own e he k hk with h1 | h1
  ·have h2:=(hr e' he' k hk').1;simp only at h1;omega
  ·exact(hr e' he' k hk').2 h1
 ·rcases h'.new b o hb with h1 | h1 | h1
  ·exact h.new b o h1
  ·exact .inr (.inl (Nat.le_trans h.size h1))
  ·obtain⟨e',he',hke'⟩:=hM b h1;exact .inr (h.own e' (List.mem_append_left _ he') b hke')
 ·rcases List.mem_append.1 he with he | he
  ·exact h'.zdis e he k hk
  ·have h2:=hr e he k hk
   cases hz:Z' k with
   | none=>rfl
   | some o=>
    rcases h'.new k o hz with h1 | h1 | h1
    ·have:=h.zdis e (List.mem_append_right _ he) k hk;simp only at h1;rw[this] at h1;cases h1
    ·simp only at h1;omega
    ·exact absurd h1 h2.2
theorem St.call0 (h:St c H Z w){E:Fz→Prop}(h':St ⟨w,Z,[],E⟩ Hout Z' w'):St c (Hout++H) Z' w':=St.call (Hin:=[]) (by simpa using h) h'
theorem St.callF {e:Ent}(h:St c H Z w){i:Nat}(hi:H[i]? =some e){E:Fz→Prop}(h':St ⟨w,Z,e.foot,E⟩ Hout Z' w'):St c (Hout++H.eraseIdx i) Z' w':=
 St.call (Hin:=[e]) (Hr:=H.eraseIdx i) (h.front hi) (by simpa using h')
theorem St.one {M:List Nat}{E:Fz→Prop}{e':Ent}(hz:Ii Z w)(he0:E Z)(hm:∀{Z Z':Fz},Fz.le Z Z'→E Z→E Z')(os:w'.os=w.os)(tape:w'.tape=w.tape)(output:w'.output=w.output)(size:w.heap.size≤w'.heap.size)
  (hb:∀k,k<w.heap.size→k ∉ M→w'.heap[k]? =w.heap[k]?) (hM:∀k∈M,Z k=none) (he:e'.holds Z w') (hf:∀k∈e'.foot,k∈M∨w.heap.size≤k):St ⟨w,Z,M,E⟩ [e'] Z w':=by
 refine⟨os,tape,output,size,hb,by simpa using he,by simpa using λk hk=>(hf k hk).symm,by simp,λb o hbo=>?_,Fz.le.refl _,λ_ _ e=>.inl e,?_,he0,hm⟩
 ·rw[hb b (hz.lt hbo) (λh=>by rw[hM b h] at hbo;cases hbo)];exact hz b o hbo
 ·simp only[K4,forall_eq];intro k hk;rcases hf k hk with h | h
  ·exact hM k h
  ·cases hz':Z k with
   | none=>rfl
   | some o=>have:=hz.lt hz';omega
theorem St.set (h:St c H Z w){i:Nat}{e e':Ent}(hi:H[i]? =some e)(os:w'.os=w.os)(tape:w'.tape=w.tape)(output:w'.output=w.output)(size:w.heap.size≤w'.heap.size)
  (hb:∀k,k<w.heap.size→k ∉ e.foot→w'.heap[k]? =w.heap[k]?) (he:e'.holds Z w') (hf:∀k∈e'.foot,k∈e.foot∨w.heap.size≤k):St c (H.set i e') Z w':=by
 have hmem:=KG hi;have h3:=h.callF hi (St.one (e':=e') h.frz h.env h.emono os tape output size hb (h.zdis e hmem) he hf);have hil:i<H.length:=(List.getElem?_eq_some_iff.1 hi).1;have hq:(H.set i e')[i]? =some e':=by simp[hil]
 have:=AI hq;rw[List.eraseIdx_set_eq] at this;exact h3.perm this.symm
theorem St.add (h:St c H Z w){e':Ent}(os:w'.os=w.os)(tape:w'.tape=w.tape)(output:w'.output=w.output)(size:w.heap.size≤w'.heap.size)
  (hb:∀k,k<w.heap.size→w'.heap[k]? =w.heap[k]?) (he:e'.holds Z w') (hf:∀k∈e'.foot,w.heap.size≤k):St c (e'::H) Z w':=
 h.call0 (St.one (e':=e') (M:=[]) h.frz h.env h.emono os tape output size (λk hk _=>hb k hk) (by simp) he (λk hk=>.inr (hf k hk)))
theorem St.alloc (h:St c H Z w)(o:Obj){e:Ent}(he:e.holds Z (w.alloc o))(hf:e.foot=[w.heap.size]):St c (e::H) Z (w.alloc o):=
 h.add rfl rfl rfl (by simp) (λk hk=>Below.heap_alloc w o k hk) he (by simp[hf])
theorem CY {α:Type}{sz:Nat}:∀{vs:List (List α)} (hs:∀c∈vs,c.length=sz) {i:Nat} {c:List α} (hi:vs[i]? =some c) {j:Nat} {u:α} (hj:c[j]? =some u),vs.flatten[i*sz+j]? =some u
 | [],hs,i,c,hi,j,u,hj=>by simp at hi
 | x::r,hs,0,c,hi,j,u,hj=>by
  simp at hi;subst hi;simp only[List.flatten_cons,Nat.zero_mul,Nat.zero_add];rw[List.getElem?_append_left (by have:=(List.getElem?_eq_some_iff.1 hj).1;exact this)];exact hj
 | x::r,hs,i+1,c,hi,j,u,hj=>by
  have hx:x.length=sz:=hs x (by simp);simp only[List.flatten_cons];rw[List.getElem?_append_right (by rw[hx,Nat.succ_mul];omega)];have e:(i+1)*sz+j-x.length=i*sz+j:=by rw[hx,Nat.succ_mul];omega
  rw[e];exact CY (vs:=r) (λc hc=>hs c (by simp[hc])) (by simpa using hi) hj
theorem C8 {α:Type}{sz:Nat}:∀{vs:List (List α)} (hs:∀c∈vs,c.length=sz),vs.flatten.length=vs.length*sz
 | [],_=>by simp
 | x::r,hs=>by
  have:=C8 (vs:=r) (λc hc=>hs c (by simp[hc]));have hx:=hs x (by simp);simp only[List.flatten_cons,List.length_append,List.length_cons] at this ⊢;rw[this,hx,Nat.succ_mul];omega
theorem St.freeze (h:St c H Z w){i:Nat}{v:Value}{e:TypeId}{sz:Nat}{xs:List (List Rp)}(hi:H[i]? =some (.row v e sz xs)):∃Z',Fz.le Z Z'∧St c (H.eraseIdx i) Z' w∧GF sz xs Z' v:=by
 obtain⟨h0,us,⟨h1,h2⟩,h3⟩:=h.ent hi;have hlen:=h3.length;rcases h2 with⟨rfl,hn⟩ | ⟨g,cap,cur,rfl,_,hg,hc,hm,hsz,htk⟩
 ·have:xs=[]:=KD hn;subst this;exact⟨Z,Fz.le.refl _,h.sub (List.eraseIdx_sublist _ _),GF.nil _ _⟩
 ·have hmem:=KG hi;have hgz:Z g=none:=h.zdis _ hmem g (by simp[Ent.foot,Value.ownBlock])
  let Z':Fz:=λb=>if b=g then some (.cells cur e (0,0)) else Z b
  have hle:Fz.le Z Z':=λb o hb=>by
   have:b≠g:=λe=>by subst e;rw[hgz] at hb;cases hb
   simpa[Z',this] using hb
  have hfr:=h.front hi;have hd:=List.pairwise_cons.1 hfr.dis;refine⟨Z',hle,?_,?_⟩
  ·have hs:=hfr.sub (List.sublist_cons_self _ _);refine { hs with has:=λen he=>Ent.keep (hs.has en he) hle λ_ _=>rfl,frz:=λb o hb=>?_,le:=hs.le.trans hle,new:=λb o hb=>?_,zdis:=λen he k hk=>?_,env:=hs.emono hle hs.env }
   ·by_cases hbg:b=g
    ·subst hbg;simp[Z'] at hb;rw[← hb];exact hg
    ·simp[Z',hbg] at hb;exact h.frz b o hb
   ·by_cases hbg:b=g
    ·subst hbg;exact .inr (h.own _ hmem b (by simp[Ent.foot,Value.ownBlock]))
    ·simp[Z',hbg] at hb;exact h.new b o hb
   ·have hkg:k≠g:=λe=>hd.1 en he g (by simp[Ent.foot,Value.ownBlock]) (e▸hk);simp only[Z',hkg,K3];exact hs.zdis en he k hk
  ·refine⟨some ⟨g,0,none⟩,cap,rfl,hc,hm,(λh=>by cases h),λj cl hj=>⟨h0 cl (KG hj),⟨g,0,none⟩,rfl,rfl,λq r hq=>?_⟩⟩;have hfl:xs.flatten[j*sz+q]? =some r:=CY h0 hj hq;obtain⟨u,hu,hp⟩:=h3.at hfl;refine⟨u,?_,r.mono hle hp⟩;rw[← htk,List.getElem?_take] at hu
   split at hu
   ·simpa[Cz,Z'] using hu
   ·cases hu
end
section
variable (P : Program) (n : Nat) (c : Cx)
def WL (ops:Array Oper)(Q:Exit→Act→World→Prop)(rest:List Oper)(l:Fr)(H:List Ent):Prop:=∀a w Z,AU n l a Z→St c H Z w→wpList P ops Q rest a w
def WC (x:Code)(Q:Exit→Act→World→Prop)(l:Fr)(H:List Ent):Prop:=∀a w Z,AU n l a Z→St c H Z w→x.wp P Q a w
def WK (K:Act→World→Prop)(l:Fr)(H:List Ent):Prop:=∀a w Z,AU n l a Z→St c H Z w→K a w
def Cv {S:Type}(inv:S→Prop)(fr:S→Fr)(hp:S→List Ent):Act→World→Prop:=λa w=>∃s Z,inv s∧AU n (fr s) a Z∧St c (hp s) Z w
def A3 (l:Fr)(H:List Ent)(o:Oper)(r:Rp):Prop:=∀a w Z,AU n l a Z→St c H Z w→∃v,r.p Z v∧(execOp a.eval o).run P w = .ok (.value v) w
end
def Id (c:Cx)(Φ:Rp→List Ent→Prop):Ending→World→Prop:=λe w'=>∃r v H Z,e = .returned v∧Φ r H∧r.p Z v∧St c H Z w'
def Fn (P:Program)(E:Fz→Prop)(f:FuncId)(args:List Rp)(Hin:List Ent)(Φ:Rp→List Ent→Prop):Prop:=
 ∀w Z (vs:List Value),Aw Z args vs→St ⟨w,Z,Hin.flatMap Ent.foot,E⟩ Hin Z w→Calls P f vs.toArray w (Id ⟨w,Z,Hin.flatMap Ent.foot,E⟩ Φ)
abbrev J8 (P:Program)(E:Fz→Prop)(f:FuncId)(args:List Rp)(r:Rp):Prop:=Fn P E f args [] (λr' H=>r'=r∧H=[])
def ID:List Rp→List Rp→Prop
 | [],[]=>True
 | a::as1,b::bs=>GG a b∧ID as1 bs
 | _,_=>False
theorem ID.all {Z:Fz}:∀{rs rs':List Rp} {vs:List Value},ID rs rs'→Aw Z rs vs→Aw Z rs' vs
 | [],[],[],_,_=>trivial
 | a::as1,b::bs,v::vs,⟨h1,h2⟩,⟨h3,h4⟩=>⟨h1 Z v h3,h2.all h4⟩
theorem Fn.args {P:Program}{E:Fz→Prop}{f:FuncId}{rs rs':List Rp}{Hin:List Ent}{Φ:Rp→List Ent→Prop}(h:Fn P E f rs' Hin Φ)(hl:ID rs rs'):Fn P E f rs Hin Φ:=λw Z vs hv hs=>h w Z vs (hl.all hv) hs
section
variable {P : Program} {n : Nat} {c : Cx} {ops : Array Oper} {Q : Exit → Act → World → Prop} {rest : List Oper} {l l' : Fr} {H H' : List Ent} {x y : Code} {K : Act → World → Prop}
theorem WC.sub (hl:A9 l' l)(hH:H'.Sublist H)(h:WC P n c x Q l' H'):WC P n c x Q l H:=λa w Z ha hw=>h a w Z (ha.sub hl) (hw.sub hH)
theorem WK.sub (hl:A9 l' l)(hH:H'.Sublist H)(h:WK n c K l' H'):WK n c K l H:=λa w Z ha hw=>h a w Z (ha.sub hl) (hw.sub hH)
theorem WL.sub (hl:A9 l' l)(hH:H'.Sublist H)(h:WL P n c ops Q rest l' H'):WL P n c ops Q rest l H:=λa w Z ha hw=>h a w Z (ha.sub hl) (hw.sub hH)
theorem WL.front {i:Nat}{e:Ent}(hi:H[i]? =some e)(h:WL P n c ops Q rest l (e::H.eraseIdx i)):WL P n c ops Q rest l H:=λa w Z ha hw=>h a w Z ha (hw.front hi)
theorem St.freezeF {Z:Fz}{w:World}(h:St c H Z w){i:Nat}{v:Value}{e:TypeId}{sz:Nat}{xs:List (List Rp)}(hi:H[i]? =some (.row v e sz xs)):∃Z',Fz.le Z Z'∧St c (.fact v (Bk sz xs)::H.eraseIdx i) Z' w:=by
 obtain⟨Z',hz,hs,hr⟩:=h.freeze hi;exact⟨Z',hz,hs.add rfl rfl rfl (KF _) (λ_ _=>rfl) (e':=.fact v (Bk sz xs)) hr (by simp[Ent.foot])⟩
theorem WK.freeze {i:Nat}{v:Value}{e:TypeId}{sz:Nat}{xs:List (List Rp)}(hi:H[i]? =some (.row v e sz xs))(h:WK n c K l (.fact v (Bk sz xs)::H.eraseIdx i)):WK n c K l H:=λa w Z ha hw=>by
 obtain⟨Z',hz,hs⟩:=St.freezeF hw hi;exact h a w Z' (ha.mono hz) hs
theorem WC.freeze {i:Nat}{v:Value}{e:TypeId}{sz:Nat}{xs:List (List Rp)}(hi:H[i]? =some (.row v e sz xs))(h:WC P n c x Q l (.fact v (Bk sz xs)::H.eraseIdx i)):WC P n c x Q l H:=λa w Z ha hw=>by
 obtain⟨Z',hz,hs⟩:=St.freezeF hw hi;exact h a w Z' (ha.mono hz) hs
theorem WL.freeze {i:Nat}{v:Value}{e:TypeId}{sz:Nat}{xs:List (List Rp)}(hi:H[i]? =some (.row v e sz xs))(h:WL P n c ops Q rest l (.fact v (Bk sz xs)::H.eraseIdx i)):WL P n c ops Q rest l H:=λa w Z ha hw=>by
 obtain⟨Z',hz,hs⟩:=St.freezeF hw hi;exact h a w Z' (ha.mono hz) hs
def Up (H:List Ent)(q r:Rp):Prop:=∀(c:Cx) Z w v,St c H Z w→q.p Z v→r.p Z v
theorem Up.refl (r:Rp):Up H r r:=λ_ _ _ _ _ h=>h
theorem Up.le {q r:Rp}(h:GG q r):Up H q r:=λ_ Z _ v _ hp=>h Z v hp
theorem Up.fact {i:Nat}{v:Value}{r:Rp}(hi:H[i]? =some (.fact v r)):Up H (rv v) r:=λc Z w u hw hp=>by rw[show u=v from hp];exact hw.ent hi
def Dr (H:List Ent):List Rp→List Rp→Prop
 | [],[]=>True
 | q::qs,r::rs=>Up H q r∧Dr H qs rs
 | _,_=>False
theorem Dr.refl:∀rs:List Rp,Dr H rs rs
 | []=>trivial
 | r::rs=>⟨Up.refl r,Dr.refl rs⟩
theorem Dr.all {c:Cx}{Z:Fz}{w:World}(hw:St c H Z w):∀{qs rs:List Rp} {vs:List Value},Dr H qs rs→Aw Z qs vs→Aw Z rs vs
 | [],[],[],_,_=>trivial
 | q::qs,r::rs,v::vs,⟨h1,h2⟩,⟨h3,h4⟩=>⟨h1 c Z w v hw h3,h2.all hw h4⟩
theorem Up.agg {qs rs:List Rp}(h:Dr H qs rs):Up H (Jj qs) (Jj rs):=λc Z w v hw ⟨us,e,hu⟩=>⟨us,e,h.all hw hu⟩
theorem AU.up {a:Act}{Z:Fz}{w:World}(ha:AU n l a Z)(hw:St c H Z w){d:Nat}{q r:Rp}(hd:look l d=some q)(hr:Up H q r):AU n ((d,r)::l) a Z:=
 ⟨ha.size,ha.defers,λi s hi=>by
  rw[AH] at hi
  split at hi
  ·rename_i e;subst e;simp at hi;subst hi
   obtain⟨u,hu,hp⟩:=ha.tm d _ hd;exact⟨u,hu,hr c Z w u hw hp⟩
  ·exact ha.tm i s hi⟩
theorem WK.up {d:Nat}{q r:Rp}(hd:look l d=some q)(hr:Up H q r)(h:WK n c K ((d,r)::l) H):WK n c K l H:=λa w Z ha hw=>h a w Z (ha.up hw hd hr) hw
theorem WC.up {d:Nat}{q r:Rp}(hd:look l d=some q)(hr:Up H q r)(h:WC P n c x Q ((d,r)::l) H):WC P n c x Q l H:=λa w Z ha hw=>h a w Z (ha.up hw hd hr) hw
theorem WL.up {d:Nat}{q r:Rp}(hd:look l d=some q)(hr:Up H q r)(h:WL P n c ops Q rest ((d,r)::l) H):WL P n c ops Q rest l H:=λa w Z ha hw=>h a w Z (ha.up hw hd hr) hw
theorem Ai (h:WC P n c x (Exit.then (λa w=>y.wp P Q a w) Q) l H):WC P n c (x.seq y) Q l H:=λa w Z ha hw=>wp_seq (h a w Z ha hw)
theorem Cj {S:Type}(inv:S→Prop)(fr:S→Fr)(hp:S→List Ent)(h:WC P n c x (Exit.then (Cv n c inv fr hp) Q) l H)(h2:∀s,inv s→WC P n c y Q (fr s) (hp s)) :
  WC P n c (x.seq y) Q l H:=λa w Z ha hw=>wp_seq (wp_mono (h a w Z ha hw) λe a w q=>by
   cases e with
   | normal=>obtain⟨s,Z,hi,hs,ht⟩:=q;exact h2 s hi a w Z hs ht
   | _=>exact q)
theorem A8 {S:Type}{inv:S→Prop}{fr:S→Fr}{hp:S→List Ent}(s:S)(hi:inv s)(hl:A9 (fr s) l)(hH:(hp s).Sublist H):WK n c (Cv n c inv fr hp) l H:=
 λ_ _ Z ha hw=>⟨s,Z,hi,ha.sub hl,hw.sub hH⟩
theorem Ad (h:WK n c K l H):WK n c (Exit.then K Q .normal) l H:=h
theorem Av {id:Nat}(h:WK n c (Q (.exit id)) l H):WK n c (Exit.then K Q (.exit id)) l H:=h
theorem An (h:WK n c (Q .ret) l H):WK n c (Exit.then K Q .ret) l H:=h
theorem AC {id:Nat}(h:WK n c (Q .normal) l H):WK n c (Exit.inBlock id Q .normal) l H:=h
theorem A7 {id:Nat}(h:WK n c (Q .ret) l H):WK n c (Exit.inBlock id Q .ret) l H:=h
theorem Af (h:WC P n c y Q l H):WK n c (λa w=>y.wp P Q a w) l H:=h
theorem Ax (h:WK n c (Q .normal) l H):WC P n c .skip Q l H:=λa w Z ha hw=>wp_skip (h a w Z ha hw)
theorem Bf {id:Nat}(h:WK n c (Q (.exit id)) l H):WC P n c (.exit id) Q l H:=λa w Z ha hw=>wp_exit (h a w Z ha hw)
theorem Aq (h:WK n c (Q .ret) l H):WC P n c .ret Q l H:=λa w Z ha hw=>wp_ret (h a w Z ha hw)
theorem A5 {id:Nat}(h:WC P n c x (Exit.inBlock id Q) l H):WC P n c (.block id x) Q l H:=λa w Z ha hw=>wp_block (h a w Z ha hw)
theorem AJ {id:Nat}(h:WK n c (Q .normal) l H):WK n c (Exit.inBlock id Q (.exit id)) l H:=λa w Z ha hw=>by
 show if id=id then _ else _
 rw[if_pos rfl];exact h a w Z ha hw
theorem A0 {o:Operand}{b:Bool}(ho:ev l o=some (rB b))(h1:b=true→WC P n c x Q l H)(h2:b=false→WC P n c y Q l H):WC P n c (.cond o x y) Q l H:=
 λa w Z ha hw=>wp_cond_split (ha.eval ho) (λe=>h1 e a w Z ha hw) (λe=>h2 e a w Z ha hw)
theorem Ca {o:Operand}{b:Bool}(ho:ev l o=some (rB b))(hb:b=true)(h:WC P n c x Q l H):WC P n c (.cond o x y) Q l H:=
 λa w Z ha hw=>by subst hb;exact wp_cond_true (ha.eval ho) (h a w Z ha hw)
theorem BB {o:Operand}{b:Bool}(ho:ev l o=some (rB b))(hb:b=false)(h:WC P n c y Q l H):WC P n c (.cond o x y) Q l H:=
 λa w Z ha hw=>by subst hb;exact wp_cond_false (ha.eval ho) (h a w Z ha hw)
theorem Ck {S:Type}(inv:S→Prop)(fr:S→Fr)(hp:S→List Ent)(μ:S→Nat)(s0:S)(h0:inv s0)(hl:A9 (fr s0) l)(hH:(hp s0).Sublist H)
  (round:∀s,inv s→WC P n c x (Exit.then (Cv n c (λs'=>inv s'∧μ s'<μ s) fr hp) Q) (fr s) (hp s)):WC P n c (.loop x) Q l H:=λa w Z ha hw=>by
 refine wp_loop_ghost (λk a w=>∃s Z,μ s=k∧inv s∧AU n (fr s) a Z∧St c (hp s) Z w) (μ s0) ⟨s0,Z,rfl,h0,ha.sub hl,hw.sub hH⟩ ?_;rintro k a w ⟨s,Z,rfl,hi,ha,hw⟩;refine wp_mono (round s hi a w Z ha hw) λe a' w' q=>?_
 cases e with
 | normal=>
  obtain⟨s',Z',⟨hi',hlt⟩,ha',hw'⟩:=q;exact⟨μ s',hlt,s',Z',rfl,hi',ha',hw'⟩
 | _=>exact q
theorem Ae {id:Nat}{ops:List Oper}(h:WL P n c ops.toArray Q ops l H):WC P n c (.region id ops.toArray false) Q l H:=λa w Z ha hw=>wp_region_lit (h a w Z ha hw)
theorem Ag (h:WK n c (Q .normal) l H):WL P n c ops Q [] l H:=λa w Z ha hw=>wpList_nil (h a w Z ha hw)
theorem sN {α:Type}:([]:List α).Sublist []:=List.Sublist.slnil
theorem sC {α:Type}{a:α}{l1 l2:List α}(h:l1.Sublist l2):(a::l1).Sublist (a::l2):=List.Sublist.cons_cons a h
theorem sS {α:Type}{a:α}{l1 l2:List α}(h:l1.Sublist l2):l1.Sublist (a::l2):=List.Sublist.cons a h
theorem BU (h:WC P n c y Q l H):WK n c (Exit.then (λa w=>y.wp P Q a w) Q .normal) l H:=Ad (Af h)
theorem AZ (h:WC P n c y Q l H):WL P n c ops (Exit.then (λa w=>y.wp P Q a w) Q) [] l H:=Ag (BU h)
theorem AD {id:Nat}{ops:List Oper}(h:WL P n c ops.toArray (Exit.then (λa w=>y.wp P Q a w) Q) ops l H):WC P n c ((Code.region id ops.toArray false).seq y) Q l H:=Ai (Ae h)
theorem GH {id:Nat}{os:List Oper}(h:WL P n c os.toArray (Exit.then (λa w=>y.wp P Q a w) Q) os l H):WL P n c ops (Exit.then (λa w=>((Code.region id os.toArray false).seq y).wp P Q a w) Q) [] l H:=AZ (AD h)
theorem AS {a:Act}{Z:Fz}{j d:Nat}{b:Bool}(ha:AU n l a Z)(hj:Bl ops j=some d)(hv:look l d=some (rB b)):yielded ops a.tmps j=some b:=by
 unfold Bl at hj;obtain⟨v,h1,h2⟩:=ha.tm d _ hv;rw[show v = .bool b from h2] at h1;simp[yielded,hj,h1]
theorem BS {a:Act}{Z:Fz}{j d:Nat}(ha:AU n l a Z)(hj:Bl ops j=some d)(hv:look l d=some (rv undef)):yielded ops a.tmps j=none:=by
 unfold Bl at hj;obtain⟨v,h1,h2⟩:=ha.tm d _ hv;rw[show v=undef from h2] at h1;simp[yielded,hj,h1,undef]
theorem Aj {d:Option Nat}{op:Op}{ty:TypeId}{pos:String}{af:Array Edge}{j dj:Nat}{want b:Bool}(hj:Bl ops j=some dj)(hv:look l dj=some (rB b))(hb:b=want)
  (h:WL P n c ops Q ({ dst:=d,op:=op,type:=ty,pos:=pos,after:=af,guard:=none }::rest) l H) :
  WL P n c ops Q ({ dst:=d,op:=op,type:=ty,pos:=pos,after:=af,guard:=some (j,want) }::rest) l H:=λa w Z ha hw=>by
 have h1:=h a w Z ha hw;have hy:=AS ha hj hv;subst hb;simp only[wpList,Region.wanted,hy,beq_self_eq_true,K8] at h1 ⊢;exact h1
theorem Ah {d:Nat}{op:Op}{ty:TypeId}{pos:String}{af:Array Edge}{j dj:Nat}{want b:Bool}(hj:Bl ops j=some dj)(hv:look l dj=some (rB b))(hb:b = !want)(hn:Nat.blt d n=true)
  (h:WL P n c ops Q rest ((d,rv undef)::l) H) :
  WL P n c ops Q ({ dst:=some d,op:=op,type:=ty,pos:=pos,after:=af,guard:=some (j,want) }::rest) l H:=λa w Z ha hw=>by
 have hy:=AS ha hj hv;subst hb;refine wpList_skip ?_ (h _ w Z (ha.put hn rfl) hw);simp[Region.wanted,hy]
theorem At {d:Nat}{op:Op}{ty:TypeId}{pos:String}{af:Array Edge}{j dj:Nat}{want:Bool}(hj:Bl ops j=some dj)(hv:look l dj=some (rv undef))(hn:Nat.blt d n=true)
  (h:WL P n c ops Q rest ((d,rv undef)::l) H) :
  WL P n c ops Q ({ dst:=some d,op:=op,type:=ty,pos:=pos,after:=af,guard:=some (j,want) }::rest) l H:=λa w Z ha hw=>by
 have hy:=BS ha hj hv;refine wpList_skip ?_ (h _ w Z (ha.put hn rfl) hw);simp[Region.wanted,hy]
theorem Aa {d:Nat}{op:Op}{ty:TypeId}{pos:String}{af:Array Edge}{r:Rp}(hr:A3 P n c l H { dst:=some d,op:=op,type:=ty,pos:=pos,after:=af,guard:=none } r)
  (hn:Nat.blt d n=true) (h:WL P n c ops Q rest ((d,r)::l) H):WL P n c ops Q ({ dst:=some d,op:=op,type:=ty,pos:=pos,after:=af,guard:=none }::rest) l H:=λa w Z ha hw=>
 wpList_plain rfl λK hK=>by
  obtain⟨v,hv,he⟩:=hr a w Z ha hw;unfold Oper.wp;rw[he];exact hK _ _ (h _ w Z (ha.put hn hv) hw)
theorem GI {d:Nat}{op:Op}{ty:TypeId}{pos:String}{af:Array Edge}
  (hr:∀a w Z,AU n l a Z→St c H Z w→∃v w' r H' Z',(execOp a.eval { dst:=some d,op:=op,type:=ty,pos:=pos,after:=af,guard:=none }).run P w = .ok (.value v) w'∧Fz.le Z Z'∧r.p Z' v∧St c H' Z' w'∧WL P n c ops Q rest ((d,r)::l) H')
  (hn:Nat.blt d n=true):WL P n c ops Q ({ dst:=some d,op:=op,type:=ty,pos:=pos,after:=af,guard:=none }::rest) l H:=λa w Z ha hw=>
 wpList_plain rfl λK hK=>by
  obtain⟨v,w',r,H',Z',h1,hz,hv,h2,h3⟩:=hr a w Z ha hw;unfold Oper.wp;rw[h1];exact hK _ _ (h3 _ w' Z' ((ha.mono hz).put hn hv) h2)
theorem IY {op:Op}{ty:TypeId}{pos:String}{af:Array Edge}
  (hr:∀a w Z,AU n l a Z→St c H Z w→∃w' H',(execOp a.eval { dst:=none,op:=op,type:=ty,pos:=pos,after:=af,guard:=none }).run P w = .ok .skip w'∧St c H' Z w'∧WL P n c ops Q rest l H') :
  WL P n c ops Q ({ dst:=none,op:=op,type:=ty,pos:=pos,after:=af,guard:=none }::rest) l H:=λa w Z ha hw=>
 wpList_plain rfl λK hK=>by
  obtain⟨w',H',h1,h2,h3⟩:=hr a w Z ha hw;unfold Oper.wp;rw[h1];exact hK _ _ (h3 _ w' Z (ha.put_none _) h2)
theorem CR {d:Nat}{op:Op}{ty:TypeId}{pos:String}{af:Array Edge}{f:FuncId}{args:Act→Array Value}
  (hr:∀a w Z,AU n l a Z→St c H Z w→(execOp a.eval { dst:=some d,op:=op,type:=ty,pos:=pos,after:=af,guard:=none }).run P w = .ok (.enter f (args a)) w∧
   Calls P f (args a) w (λe w'=>∃v r H' Z',e = .returned v∧Fz.le Z Z'∧r.p Z' v∧St c H' Z' w'∧WL P n c ops Q rest ((d,r)::l) H'))
  (hn:Nat.blt d n=true):WL P n c ops Q ({ dst:=some d,op:=op,type:=ty,pos:=pos,after:=af,guard:=none }::rest) l H:=λa w Z ha hw=>
 wpList_plain rfl λK hK=>by
  obtain⟨h0,hc⟩:=hr a w Z ha hw;unfold Oper.wp;rw[h0];refine hc.mono ?_;rintro e w' ⟨v,r,H',Z',rfl,hz,hv,h2,h3⟩;exact hK _ _ (h3 _ w' Z' ((ha.mono hz).put hn hv) h2)
def EB (l:Fr):List Operand→Option (List Rp)
 | []=>some []
 | x::r=>match ev l x,EB l r with
  | some v,some vs=>some (v::vs)
  | _,_=>none
theorem E5 {a:Act}{Z:Fz}(ha:AU n l a Z):∀{xs:List Operand} {rs:List Rp},EB l xs=some rs→Aw Z rs (xs.map a.eval)
 | [],rs,h=>by simp[EB] at h;subst h;trivial
 | x::r,rs,h=>by
  simp only[EB] at h
  split at h
  ·rename_i v vs' h1 h2
   simp at h;subst h;exact⟨ha.ev h1,E5 ha h2⟩
  ·cases h
theorem BI {f:FuncId}{args:List Operand}{ats:Array TypeId}{o:Oper}{a:Act}(ho:o.op = .call { callee:=.value (.func f),args:=args.toArray,argTypes:=ats })
  (hcall:∀(as1:Array Value) (w:World),(callFunc f as1).run P w = .ok (.enter f as1) w) (w:World):(execOp a.eval o).run P w = .ok (.enter f (args.map a.eval).toArray) w:=by
 simp[execOp,ho,resolve,Act.eval,Deferred.ofValue,invoke,hcall]
def CQ:List Rp→List Rp→Prop
 | [],[]=>True
 | r::rs,q::qs=>GG r q∧CQ rs qs
 | _,_=>False
theorem CQ.refl:∀rs:List Rp,CQ rs rs
 | []=>trivial
 | r::rs=>⟨GG.refl r,CQ.refl rs⟩
theorem CQ.all {Z:Fz}:∀{rs qs:List Rp} {vs:List Value},CQ rs qs→Aw Z rs vs→Aw Z qs vs
 | [],[],[],_,_=>trivial
 | r::rs,q::qs,v::vs,⟨h1,h2⟩,⟨h3,h4⟩=>⟨h1 Z v h3,h2.all h4⟩
theorem Fn.sub {E:Fz→Prop}{f:FuncId}{args args':List Rp}{Hin:List Ent}{Φ Φ':Rp→List Ent→Prop}(h:Fn P E f args' Hin Φ)(ha:CQ args args')(hΦ:∀r H,Φ r H→Φ' r H):Fn P E f args Hin Φ':=λw Z vs hv hs=>
 (h w Z vs (ha.all hv) hs).mono λe w' ⟨r,v,H,Z',he,hp,hr,ht⟩=>⟨r,v,H,Z',he,hΦ r H hp,hr,ht⟩
theorem Ar {d:Nat}{ty:TypeId}{pos:String}{af:Array Edge}{f:FuncId}{args:List Operand}{ats:Array TypeId}{rs:List Rp}{Hin Hr:List Ent}{Φ:Rp→List Ent→Prop}(hcall:∀(as1:Array Value) (w:World),(callFunc f as1).run P w = .ok (.enter f as1) w)(hv:EB l args=some rs)
  (hp:H.Perm (Hin++Hr)) (hc:Fn P c.E f rs Hin Φ) (hn:Nat.blt d n=true) (h:∀r Ho,Φ r Ho→WL P n c ops Q rest ((d,r)::l) (Ho++Hr)) :
  WL P n c ops Q ({ dst:=some d,op:=.call { callee:=.value (.func f),args:=args.toArray,argTypes:=ats },type:=ty,pos:=pos,after:=af,guard:=none }::rest) l H:=
 CR (args:=λa=>(args.map a.eval).toArray) (λa w Z ha hw=>⟨BI rfl hcall w,by
  have hw2:=hw.perm hp;refine(hc w Z _ (E5 ha hv) hw2.enter).mono ?_;rintro e w' ⟨r,v,Ho,Z',he,hΦ,hr,hs⟩;exact⟨v,r,Ho++Hr,Z',he,hs.le,hr,hw2.call hs,h r Ho hΦ⟩⟩) hn
theorem Eu {d:Nat}{ty:TypeId}{pos:String}{af:Array Edge}{f:FuncId}{args:List Operand}{ats:Array TypeId}{rs:List Rp}{r r':Rp}(hcall:∀(as1:Array Value) (w:World),(callFunc f as1).run P w = .ok (.enter f as1) w)(hv:EB l args=some rs)
  (hc:J8 P c.E f rs r') (hr:r'=r) (hn:Nat.blt d n=true) (h:WL P n c ops Q rest ((d,r)::l) H) :
  WL P n c ops Q ({ dst:=some d,op:=.call { callee:=.value (.func f),args:=args.toArray,argTypes:=ats },type:=ty,pos:=pos,after:=af,guard:=none }::rest) l H:=
 Ar (Hin:=[]) (Hr:=H) hcall hv (List.Perm.refl _) hc hn (by rintro _ _ ⟨rfl,rfl⟩;subst hr;exact h)
theorem BM:∀{Z:Fz} (rs:List Rp) (vs:List Value) (k:Nat),Aw Z rs vs→∀i r,look ((rs.zipIdx k).map λp=>(p.2,p.1)) i=some r→k≤i∧∃v,vs[i-k]? =some v∧r.p Z v
 | _,[],[],k,_,i,r,h=>by simp[look] at h
 | Z,q::rs,v::vs,k,⟨h1,h2⟩,i,r,h=>by
  simp only[List.zipIdx_cons,List.map_cons] at h;rw[AH] at h
  split at h
  ·rename_i e;subst e;simp at h;subst h;exact⟨KF _,v,by simp,h1⟩
  ·rename_i e
   obtain⟨h3,u,h4,h5⟩:=BM rs vs (k+1) h2 i r h;refine⟨by omega,u,?_,h5⟩;rw[show i-k=(i-(k+1))+1 from by omega];simpa using h4
def Dq (rs:List Rp):Fr:=(rs.zipIdx 0).map λp=>(p.2,p.1)
theorem enter {E:Fz→Prop}{f:FuncId}{fn:Func}{x:Code}{args:List Rp}{Hin:List Ent}{Φ:Rp→List Ent→Prop}(hf:P.funcs[f]? =some fn)(hb:fn.body=some x)(hn:fn.ntmps=n)(hle:Nat.ble args.length n=true)
  (h:∀w Z,WC P n ⟨w,Z,Hin.flatMap Ent.foot,E⟩ x (bodyPost P fn (Id ⟨w,Z,Hin.flatMap Ent.foot,E⟩ Φ)) (Dq args) Hin):Fn P E f args Hin Φ:=λw Z vs hv hs=>by
 have hle':args.length≤n:=by simpa using hle
 have hl:=hv.length;refine calls_of_wp hf hb (h w Z _ w Z ⟨?_,rfl,λi r hi=>?_⟩ hs)
 ·simp[hn];omega
 ·obtain⟨_,v,h1,h2⟩:=BM args vs 0 hv i r hi;simp only[Nat.sub_zero] at h1;have hlt:i<vs.length:=(List.getElem?_eq_some_iff.1 h1).1;refine⟨v,?_,h2⟩;rw[Array.getElem?_append_left (by simpa using hlt)];simpa using h1
def Ie (P:Program)(n:Nat)(c:Cx)(l:Fr)(H:List Ent)(fn:Func)(r:Rp):Prop:=∀a w Z,AU n l a Z→St c H Z w→∃v,r.p Z v∧(results fn a.tmps).run P w = .ok v w
theorem Ap {fn:Func}{Φ:Rp→List Ent→Prop}{r:Rp}(hr:Ie P n c l H fn r){H2:List Ent}(hp:H2.Sublist H)(h:Φ r H2):WK n c (bodyPost P fn (Id c Φ) .ret) l H:=
 λa w Z ha hw=>by
  obtain⟨v,hv,he⟩:=hr a w Z ha hw;exact⟨ha.defers,v,he,r,v,H2,Z,rfl,h,hv,hw.sub hp⟩
theorem Ij {H2:List Ent}(hp:H.Perm H2)(h:WK n c K l H2):WK n c K l H:=λa w Z ha hw=>h a w Z ha (hw.perm hp)
def Jh (P:Program)(a:Act):ResultVar→Sem Value
 | .tmp t=>pure (a.tmps.getD t undef)
 | .cell b t=>do loadVar t (← asAddr (a.tmps.getD b undef))
def RV (P:Program)(n:Nat)(c:Cx)(l:Fr)(H:List Ent)(x:ResultVar)(r:Rp):Prop:=∀a w Z,AU n l a Z→St c H Z w→∃v,r.p Z v∧(Jh P a x).run P w = .ok v w
theorem Di {i:Nat}{r:Rp}(h:look l i=some r):RV P n c l H (.tmp i) r:=λa w Z ha _=>by
 obtain⟨v,h1,h2⟩:=ha.tm i r h;exact⟨v,h2,by simp[Jh,Array.getD_eq_getD_getElem?,h1]⟩
theorem Cn (fn:Func)(a:Act):results fn a.tmps=(do
  let vs ← fn.results.mapM (Jh P a)
  pure (if h:vs.size=1 then vs[0] else .tuple vs)):=by
 unfold results
 congr 1
theorem B3 {fn:Func}{x:ResultVar}{r:Rp}(hr:fn.results = #[x])(h:RV P n c l H x r):Ie P n c l H fn r:=λa w Z ha hw=>by
 obtain⟨v,h1,h2⟩:=h a w Z ha hw;exact⟨v,h1,by simp[Cn (P:=P),hr,h2]⟩
theorem H3 {fn:Func}{x y:ResultVar}{r s:Rp}(hr:fn.results = #[x,y])(h:RV P n c l H x r)(h':RV P n c l H y s):Ie P n c l H fn (Ir [r,s]):=λa w Z ha hw=>by
 obtain⟨v,h1,h2⟩:=h a w Z ha hw;obtain⟨u,h3,h4⟩:=h' a w Z ha hw;exact⟨.tuple #[v,u],⟨[v,u],rfl,h1,h3,trivial⟩,by simp[Cn (P:=P),hr,h2,h4]⟩
theorem IH {fn:Func}{x y z:ResultVar}{r s t:Rp}(hr:fn.results = #[x,y,z])(h:RV P n c l H x r)(h':RV P n c l H y s)(h'':RV P n c l H z t):Ie P n c l H fn (Ir [r,s,t]):=λa w Z ha hw=>by
 obtain⟨v,h1,h2⟩:=h a w Z ha hw;obtain⟨u,h3,h4⟩:=h' a w Z ha hw;obtain⟨q,h5,h6⟩:=h'' a w Z ha hw;exact⟨.tuple #[v,u,q],⟨[v,u,q],rfl,h1,h3,h5,trivial⟩,by simp[Cn (P:=P),hr,h2,h4,h6]⟩
theorem JU {fn:Func}{x y z k:ResultVar}{r s t q:Rp}(hr:fn.results = #[x,y,z,k])(h:RV P n c l H x r)(h':RV P n c l H y s)(h2:RV P n c l H z t)(h3:RV P n c l H k q):Ie P n c l H fn (Ir [r,s,t,q]):=λa w Z ha hw=>by
 obtain⟨v,e1,e2⟩:=h a w Z ha hw;obtain⟨u,e3,e4⟩:=h' a w Z ha hw;obtain⟨p,e5,e6⟩:=h2 a w Z ha hw;obtain⟨m,e7,e8⟩:=h3 a w Z ha hw;exact⟨.tuple #[v,u,p,m],⟨[v,u,p,m],rfl,e1,e3,e5,e7,trivial⟩,by simp[Cn (P:=P),hr,e2,e4,e6,e8]⟩
theorem B6 {l':Fr}{H':List Ent}(hl:l=l')(hH:H=H')(h:WC P n c x Q l' H'):WC P n c x Q l H:=by subst hl;subst hH;exact h
theorem DW {l':Fr}{H':List Ent}(hl:l=l')(hH:H=H')(h:WK n c K l' H'):WK n c K l H:=by subst hl;subst hH;exact h
def J7 (n:Nat)(c:Cx)(l:Fr)(H:List Ent):Act→World→Prop:=λa w=>∃Z,AU n l a Z∧St c H Z w
theorem Az (l1:Fr)(H1:List Ent)(h:WC P n c x (Exit.then (J7 n c l1 H1) Q) l H)(h2:WC P n c y Q l1 H1):WC P n c (x.seq y) Q l H:=λa w Z ha hw=>
 wp_seq (wp_mono (h a w Z ha hw) λe a w q=>by
  cases e with
  | normal=>obtain⟨Z,h3,h4⟩:=q;exact h2 a w Z h3 h4
  | _=>exact q)
theorem As {l1:Fr}{H1:List Ent}(hl:A9 l1 l)(hH:H1.Sublist H):WK n c (J7 n c l1 H1) l H:=λ_ _ Z ha hw=>⟨Z,ha.sub hl,hw.sub hH⟩
def I7 (id:Nat)(K:Act→World→Prop)(Q:Exit→Act→World→Prop):Exit→Act→World→Prop
 | .exit i,a,w=>if i=id then K a w else Q (.exit i) a w
 | e,a,w=>Q e a w
theorem Bu {id:Nat}(h:WK n c K l H):WK n c (I7 id K Q (.exit id)) l H:=λa w Z ha hw=>by
 show if id=id then _ else _
 rw[if_pos rfl];exact h a w Z ha hw
theorem CI {id:Nat}(h:WK n c (Q .ret) l H):WK n c (I7 id K Q .ret) l H:=h
theorem BZ {S V:Type}(id:Nat)(inv:S→Prop)(fr:S→Fr)(hp:S→List Ent)(μ:S→Nat)(s0:S)(h0:inv s0)(hl:A9 (fr s0) l)(hH:(hp s0).Sublist H)(iv:V→Prop)(fv:V→Fr)(hv:V→List Ent)
  (round:∀s,inv s→WC P n c x (Exit.then (Cv n c (λs'=>inv s'∧μ s'<μ s) fr hp) (I7 id (Cv n c iv fv hv) Q)) (fr s) (hp s)) (hexit:∀v,iv v→WK n c (Q (.exit id)) (fv v) (hv v)):WC P n c (.loop x) Q l H:=λa w Z ha hw=>
 wp_mono (Ck (Q:=I7 id (Cv n c iv fv hv) Q) inv fr hp μ s0 h0 hl hH round a w Z ha hw) λe a w q=>by
  cases e with
  | exit i=>
   by_cases hi:i=id
   ·subst hi;have q':if i=i then Cv n c iv fv hv a w else Q (.exit i) a w:=q
    rw[if_pos rfl] at q';obtain⟨v,Z,h1,h2,h3⟩:=q';exact hexit v h1 a w Z h2 h3
   ·have q':if i=id then Cv n c iv fv hv a w else Q (.exit i) a w:=q
    rw[if_neg hi] at q';exact q'
  | _=>exact q
end
theorem J8.of_old {P:Program}{E:Fz→Prop}{f:FuncId}{vs:List Value}{v:Value}(h:∀w Z,Ii Z w→E Z→Calls P f vs.toArray w (AQ w v)):J8 P E f (vs.map rv) (rv v):=λw Z us hu hs=>by
 rw[Aw.eq_rv hu];refine(h w Z hs.frz hs.env).mono λe w' ⟨he,ht⟩=>⟨rv v,v,[],Z,he,⟨rfl,rfl⟩,rfl,⟨ht.os,ht.tape,ht.output,ht.size,ht.old,by simp,by simp,by simp,λb o hb=>?_,Fz.le.refl _,λ_ _ e=>.inl e,by simp,hs.env,hs.emono⟩⟩
 rw[ht.old b (hs.frz.lt hb) (by simp)];exact hs.frz b o hb
end Go.Proofs.YthjcjnbngagagaaDoor.Q
namespace Go.Proofs.YthjcjnbngagagaaDoor
open Go
set_option linter.unusedVariables false
abbrev Ay:=List UInt8
def JD (s:Ay):Bool:=decide (s.length≤9223372036854775807)
def Hl (l:List UInt8):List Int:=l.map λc=>(c.toNat:Int)
def D2 (k:IntKind)(x:Int):Bool:=decide (k.min≤x)&&decide (x≤k.max)
def DM (i n:Int):Bool:=decide (0≤i)&&decide (i<n)
def Ih (i n:Int):Bool:=decide (0≤i)&&decide (i≤n)
def I4 (b n:Nat):Bool:=decide (n*b≤140737488355328)
def imp (a b:Bool):Bool:=!a||b
def Dd {α:Type}(p:Bool)(x:Option α):Option α:=bif p then x else none
def DU {α:Type}(p:Bool)(x y:Option α):Option α:=bif p then x else y
def JW {α β:Type}(a:α)(k:α→Option β):Option β:=k a
def Gb {α β:Type}(a:Option α)(k:α→Option β):Option β:=match a with
 | some x=>k x
 | none=>none
theorem I3 {x:Int}(h:D2 .i64 x=true) : -9223372036854775808≤x∧x≤9223372036854775807:=by simpa[D2,IntKind.min,IntKind.max,IntKind.signed,IntKind.bits] using h
theorem HL {x:Int}(h : -9223372036854775808≤x)(h':x≤9223372036854775807):D2 .i64 x=true:=by simpa[D2,IntKind.min,IntKind.max,IntKind.signed,IntKind.bits] using And.intro h h'
theorem Bp {i n:Int}(h:DM i n=true):0≤i∧i<n:=by simpa[DM] using h
theorem HK {i n:Int}(h:0≤i)(h':i<n):DM i n=true:=by simp[DM,h,h']
theorem BQ {i n:Int}(h:Ih i n=true):0≤i∧i≤n:=by simpa[Ih] using h
theorem JV {i n:Int}(h:0≤i)(h':i≤n):Ih i n=true:=by simp[Ih,h,h']
section
variable {α β : Type} {p q : Bool} {x y : Option α} {r : α} {s : β}
theorem Bd (h:Dd p x=some r):p=true∧x=some r:=by
 cases p
 ·cases h
 ·exact⟨rfl,h⟩
theorem B8 (hp:p=true)(h:DU p x y=some r):x=some r:=by subst hp;exact h
theorem B9 (hp:p=false)(h:DU p x y=some r):y=some r:=by subst hp;exact h
theorem JL {a:β}{k:β→Option α}(h:JW a k=some r):∃b,b=a∧k b=some r:=⟨a,rfl,h⟩
theorem BO {a:Option β}{k:β→Option α}(h:Gb a k=some r):∃b,a=some b∧k b=some r:=by
 cases a with
 | none=>cases h
 | some b=>exact⟨b,rfl,h⟩
theorem Bn {a b:α}(h:some a=some b):a=b:=by cases h;rfl
theorem HM (h:imp p q=true)(hp:p=true):q=true:=by subst hp;simpa[imp] using h
theorem HN (h:imp (!p) q=true)(hp:p=false):q=true:=by subst hp;simpa[imp] using h
theorem Cu (h:p=true):Dd p x=x:=by subst h;rfl
theorem B5 (h:p=true):DU p x y=x:=by subst h;rfl
theorem Br (h:p=false):DU p x y=y:=by subst h;rfl
theorem B7 {a:Option β}{k:β→Option α}{b:β}(h:a=some b):Gb a k=k b:=by subst h;rfl
theorem BR {e:Int}(h : -9223372036854775808≤e)(h':e≤9223372036854775807):Dd (D2 .i64 e) x=x:=Cu (HL h h')
theorem Ct {i n:Int}(h:0≤i)(h':i<n):Dd (DM i n) x=x:=Cu (HK h h')
theorem GA {i n:Int}(h:0≤i)(h':i≤n):Dd (Ih i n) x=x:=Cu (JV h h')
end
inductive Out (R V:Type) where
 | ret (r:R)
 | go (v:V)
 deriving DecidableEq
inductive Stp (S O:Type) where
 | next (s:S)
 | out (o:O)
 deriving DecidableEq
def DF {S O:Type}(body:S→Option (Stp S O)):Nat→S→Option O
 | 0,_=>none
 | n+1,s=>match body s with
  | none=>none
  | some (.next s')=>DF body n s'
  | some (.out o)=>some o
def DQ {R V:Type}(K:V→Option R):Out R V→Option R
 | .ret r=>some r
 | .go v=>K v
def GD {S O:Type}(body:S→Option (Stp S O))(m:Nat)(o:O):Stp S O→Prop
 | .next s'=>DF body m s'=some o
 | .out o'=>o'=o
section
variable {S R V : Type} {body : S → Option (Stp S (Out R V))} {n m : Nat} {s s' : S} {o : Out R V} {t : Stp S (Out R V)} {K : V → Option R} {r q : R} {v : V}
theorem Ef {O:Type}{body:S→Option (Stp S O)}{o:O}(h:DF body n s=some o):∃m,n=m+1∧∃t,body s=some t∧GD body m o t:=by
 cases n with
 | zero=>cases h
 | succ m=>
  refine⟨m,rfl,?_⟩;rw[DF] at h
  cases hb:body s with
  | none=>rw[hb] at h;cases h
  | some t=>
   rw[hb] at h;refine⟨t,rfl,?_⟩
   cases t with
   | next s'=>exact h
   | out o'=>exact Bn h
theorem Cb (h:some (Stp.next s')=some t)(ht:GD body m o t):DF body m s'=some o:=by cases h;exact ht
theorem Dg (h:some (Stp.out (Out.go v))=some t)(ht:GD body m o t)(hK:DQ K o=some r):K v=some r:=by
 cases h
 have e:Out.go v=o:=ht;subst e;exact hK
theorem Ew (h:some (Stp.out (Out.ret q))=some t)(ht:GD body m o t)(hK:DQ K o=some r):some q=some r:=by
 cases h
 have e:Out.ret q=o:=ht;subst e;exact hK
theorem C6 {O:Type}{body:S→Option (Stp S O)}(I:S→Prop)(μ:S→Nat)(Qo:O→Prop)(step:∀s,I s→(∃s',body s=some (.next s')∧I s'∧μ s'<μ s)∨∃o,body s=some (.out o)∧Qo o) :
  ∀(n:Nat) (s:S),I s→μ s<n→∃o,DF body n s=some o∧Qo o
 | 0,s,_,h=>by omega
 | n+1,s,hi,h=>by
  rcases step s hi with⟨s',e,hi',hlt⟩ | ⟨o,e,ho⟩
  ·obtain⟨o,h1,h2⟩:=C6 I μ Qo step n s' hi' (by omega);exact⟨o,by rw[DF,e];exact h1,h2⟩
  ·exact⟨o,by rw[DF,e],ho⟩
end
def AN {α:Type}[Inhabited α](xs:List α)(i:Int):α:=(xs[i.toNat]?).getD default
abbrev Bc (a b:List UInt8):Bool:=Op.bytesLess a b
end Go.Proofs.YthjcjnbngagagaaDoor
namespace Go.Proofs.YthjcjnbngagagaaDoor.Q
open Go Go.RowKit
set_option linter.unusedVariables false
set_option linter.unusedSimpArgs false
theorem Gt:∀{k:IntKind} {x:Int},D2 k x=true→k.wrap x=x
 | .i8,x,h=>IntWalk.i8_in x (by simpa[D2,IntKind.min,IntKind.max,IntKind.signed,IntKind.bits] using h)
 | .i16,x,h=>IntWalk.i16_in x (by simpa[D2,IntKind.min,IntKind.max,IntKind.signed,IntKind.bits] using h)
 | .i32,x,h=>IntWalk.i32_in x (by simpa[D2,IntKind.min,IntKind.max,IntKind.signed,IntKind.bits] using h)
 | .i64,x,h=>IntWalk.i64_in x (by simpa[D2,IntKind.min,IntKind.max,IntKind.signed,IntKind.bits] using h)
 | .u8,x,h=>IntWalk.u8_in x (by simpa[D2,IntKind.min,IntKind.max,IntKind.signed,IntKind.bits] using h)
 | .u16,x,h=>IntWalk.u16_in x (by simpa[D2,IntKind.min,IntKind.max,IntKind.signed,IntKind.bits] using h)
 | .u32,x,h=>IntWalk.u32_in x (by simpa[D2,IntKind.min,IntKind.max,IntKind.signed,IntKind.bits] using h)
 | .u64,x,h=>IntWalk.u64_in x (by simpa[D2,IntKind.min,IntKind.max,IntKind.signed,IntKind.bits] using h)
theorem BW {P:Program}{Z:Fz}{v:Value}{f:Sem Next}{w:World}(h:f.run P w = .ok (.value v) w):∃u,(rv v).p Z u∧f.run P w = .ok (.value u) w:=⟨v,rfl,h⟩
section
variable {P : Program} {n : Nat} {c : Cx} {l : Fr} {H : List Ent} {d : Option Nat} {x y z3 : Operand} {ty t t' : TypeId} {pos : String} {af : Array Edge} {g : Option (Nat × Bool)} {v u : Value} {r : Rp}
theorem Ac (h:ev l x=some r):A3 P n c l H { dst:=d,op:=.move x,type:=ty,pos:=pos,after:=af,guard:=g } r:=λa w Z ha _=>⟨a.eval x,ha.ev h,by simp[execOp]⟩
theorem Ab (h:ev l x=some r):A3 P n c l H { dst:=d,op:=.assign x,type:=ty,pos:=pos,after:=af,guard:=g } r:=λa w Z ha _=>⟨a.eval x,ha.ev h,by simp[execOp]⟩
theorem Al {b:Bool}(hc:ev l z3=some (rB b))(hb:b=true)(h:ev l x=some r):A3 P n c l H { dst:=d,op:=.pick z3 x y,type:=ty,pos:=pos,after:=af,guard:=g } r:=λa w Z ha _=>⟨a.eval x,ha.ev h,by
 subst hb;simp[execOp,ha.eval hc,asBool]⟩
theorem Am {b:Bool}(hc:ev l z3=some (rB b))(hb:b=false)(h:ev l y=some r):A3 P n c l H { dst:=d,op:=.pick z3 x y,type:=ty,pos:=pos,after:=af,guard:=g } r:=λa w Z ha _=>⟨a.eval y,ha.ev h,by
 subst hb;simp[execOp,ha.eval hc,asBool]⟩
theorem Ao {rs:List Rp}{i:Nat}(h:ev l x=some (Ir rs))(hi:rs[i]? =some r):A3 P n c l H { dst:=d,op:=.extract x i,type:=ty,pos:=pos,after:=af,guard:=g } r:=λa w Z ha _=>by
 obtain⟨us,hu,hus⟩:=ha.ev h;obtain⟨v,hv,hp⟩:=hus.at hi;exact⟨v,hp,by simp[execOp,hu,Instr.extract,hv]⟩
theorem Bb {b:Bool}(h:ev l x=some (rB b)):A3 P n c l H { dst:=d,op:=.unOp .not t x,type:=ty,pos:=pos,after:=af,guard:=g } (rB (!b)):=λa w Z ha _=>BW<|by
 simp[execOp,ha.eval h,Op.unary]
section
variable {k : IntKind} {p q : Int} (hx : ev l x = some (rI k p)) (hy : ev l y = some (rI k q))
include hx hy
theorem C3 (hz:D2 k (p+q)=true):A3 P n c l H { dst:=d,op:=.binOp .add t x y t',type:=ty,pos:=pos,after:=af,guard:=g } (rv (.int k (p+q))):=λa w Z ha _=>BW<|by
 simp[execOp,ha.eval hx,ha.eval hy,A4,binOp,Op.intArith,Gt hz]
theorem ER (hz:D2 k (p-q)=true):A3 P n c l H { dst:=d,op:=.binOp .sub t x y t',type:=ty,pos:=pos,after:=af,guard:=g } (rv (.int k (p-q))):=λa w Z ha _=>BW<|by
 simp[execOp,ha.eval hx,ha.eval hy,A4,binOp,Op.intArith,Gt hz]
theorem Dl:A3 P n c l H { dst:=d,op:=.binOp .lss t x y t',type:=ty,pos:=pos,after:=af,guard:=g } (rv (.bool (decide (p<q)))):=λa w Z ha _=>BW<|by
 simp[execOp,ha.eval hx,ha.eval hy,A4,binOp,Op.intCmp]
theorem DR:A3 P n c l H { dst:=d,op:=.binOp .leq t x y t',type:=ty,pos:=pos,after:=af,guard:=g } (rv (.bool (decide (p≤q)))):=λa w Z ha _=>BW<|by
 simp[execOp,ha.eval hx,ha.eval hy,A4,binOp,Op.intCmp]
theorem GS:A3 P n c l H { dst:=d,op:=.binOp .gtr t x y t',type:=ty,pos:=pos,after:=af,guard:=g } (rv (.bool (decide (q<p)))):=λa w Z ha _=>BW<|by
 simp[execOp,ha.eval hx,ha.eval hy,A4,binOp,Op.intCmp]
theorem Dw:A3 P n c l H { dst:=d,op:=.binOp .geq t x y t',type:=ty,pos:=pos,after:=af,guard:=g } (rv (.bool (decide (q≤p)))):=λa w Z ha _=>BW<|by
 simp[execOp,ha.eval hx,ha.eval hy,A4,binOp,Op.intCmp]
theorem Cg:A3 P n c l H { dst:=d,op:=.binOp .eql t x y t',type:=ty,pos:=pos,after:=af,guard:=g } (rv (.bool (decide (p=q)))):=λa w Z ha _=>BW<|by
 have e:(p ==q)=decide (p=q):=by rw[KH];simp
 simp[execOp,ha.eval hx,ha.eval hy,A4,binOp,Op.intCmp,e]
theorem Dv:A3 P n c l H { dst:=d,op:=.binOp .neq t x y t',type:=ty,pos:=pos,after:=af,guard:=g } (rv (.bool (!decide (p=q)))):=λa w Z ha _=>BW<|by
 have e:(p !=q) = !decide (p=q):=by rw[KH];simp
 simp[execOp,ha.eval hx,ha.eval hy,A4,binOp,Op.intCmp,e]
end
section
variable {p q : List UInt8} (hx : ev l x = some (rS p)) (hy : ev l y = some (rS q))
include hx hy
theorem CM (hz:D2 .i64 ((p.length:Int)+(q.length:Int))=true):A3 P n c l H { dst:=d,op:=.binOp .add t x y t',type:=ty,pos:=pos,after:=af,guard:=g } (rv (.string (B (p++q)))):=λa w Z ha _=>BW<|by
 have : ¬ ((((B p).size+(B q).size:Nat):Int) > IntKind.i64.max):=by rw[AW,AW];have:=(I3 hz).2;simp[IntKind.max,IntKind.signed,IntKind.bits];omega
 simp only[execOp,ha.eval hx,ha.eval hy,Sem.run_bind,AR,binOp,Op.stringOp,this,K3,Ga];simp
theorem IN:A3 P n c l H { dst:=d,op:=.binOp .lss t x y t',type:=ty,pos:=pos,after:=af,guard:=g } (rv (.bool (Op.bytesLess p q))):=λa w Z ha _=>BW<|by
 simp[execOp,ha.eval hx,ha.eval hy,AR,binOp,Op.stringOp,B4]
theorem CU:A3 P n c l H { dst:=d,op:=.binOp .eql t x y t',type:=ty,pos:=pos,after:=af,guard:=g } (rv (.bool (decide (p=q)))):=λa w Z ha _=>BW<|by
 have e:(p ==q)=decide (p=q):=by rw[KH];simp
 simp[execOp,ha.eval hx,ha.eval hy,AR,binOp,Op.stringOp,B4,e]
theorem Ce:A3 P n c l H { dst:=d,op:=.binOp .neq t x y t',type:=ty,pos:=pos,after:=af,guard:=g } (rv (.bool (!decide (p=q)))):=λa w Z ha _=>BW<|by
 have e:(p ==q)=decide (p=q):=by rw[KH];simp
 simp[execOp,ha.eval hx,ha.eval hy,AR,binOp,Op.stringOp,B4,e]
end
theorem IQ {p q:Bool}(ht:P.underlying t=some .bool)(hx:ev l x=some (rB p))(hy:ev l y=some (rB q)):A3 P n c l H { dst:=d,op:=.binOp .eql t x y t',type:=ty,pos:=pos,after:=af,guard:=g } (rv (.bool (p ==q))):=λa w Z ha _=>BW<|by
 have h1:∀dd:Nat,(Op.equalIn (dd+1) t (.bool p) (.bool q)).run P w = .ok (p ==q) w:=λdd=>by simp[Op.equalIn,run_underlying ht]
 have h2:(Op.equal t (.bool p) (.bool q)).run P w = .ok (p ==q) w:=h1 9999;simp only[execOp,ha.eval hx,ha.eval hy,Sem.run_bind,Da,Result.andThen_ok,binOp,h2,Sem.run_pure]
theorem AE {p:List UInt8}(ht:P.underlying t=some .string)(h:ev l x=some (rS p)):A3 P n c l H { dst:=d,op:=.call { callee:=.builtin .len,args:=#[x],argTypes:=#[t] },type:=ty,pos:=pos,after:=af,guard:=g } (rv (.int .i64 p.length)):=λa w Z ha _=>BW<|by
 simp[execOp,resolve,invoke,builtin,ha.eval h,Builtin.len_,run_underlying ht,goInt,AW]
theorem BD {p:List UInt8}{k:IntKind}{i:Int}(ht:P.underlying t=some .string)(h:ev l x=some (rS p))(hi:ev l y=some (rI k i))(hg:DM i (p.length:Int)=true) :
  A3 P n c l H { dst:=d,op:=.index t x y,type:=ty,pos:=pos,after:=af,guard:=g } (rI .u8 (Cy p i)):=λa w Z ha _=>BW<|by
 have h0:=(Bp hg).1;have hl:i.toNat<p.length:=by have:=(Bp hg).2;omega
 have hc:p[i.toNat]? =some p[i.toNat]:=Kx hl;have e:Cy p i=p[i.toNat].toNat:=by simp[Cy,hc]
 simp[execOp,ha.eval h,ha.eval hi,Instr.index,asIntOf,run_underlying ht,h0,IV,hc,e]
theorem BK {p:List UInt8}{k:IntKind}{i:Int}(ht:P.underlying t=some .string)(h:ev l x=some (rS p))(hi:ev l y=some (rI k i))(hg:Ih i (p.length:Int)=true) :
  A3 P n c l H { dst:=d,op:=.slice t x (some y) none none,type:=ty,pos:=pos,after:=af,guard:=g } (rv (.string (B (p.drop i.toNat)))):=λa w Z ha _=>BW<|by
 have h0:=(BQ hg).1;have h1:=(BQ hg).2;have e:List.take ((B p).size-i.toNat) (List.drop i.toNat p)=List.drop i.toNat p:=by rw[List.take_of_length_le];simp[AW]
 simp[execOp,ha.eval h,ha.eval hi,Instr.sliceAt,Instr.slice,run_underlying ht,Instr.sliceBounds,AO (m:=(B p).size) _ _ h0 (by rw[AW];exact h1),CB,e]
theorem Bz {p:List UInt8}{k:IntKind}{i:Int}(ht:P.underlying t=some .string)(h:ev l x=some (rS p))(hi:ev l y=some (rI k i))(hg:Ih i (p.length:Int)=true) :
  A3 P n c l H { dst:=d,op:=.slice t x none (some y) none,type:=ty,pos:=pos,after:=af,guard:=g } (rv (.string (B (p.take i.toNat)))):=λa w Z ha _=>BW<|by
 have h0:=(BQ hg).1;have h1:=(BQ hg).2;simp[execOp,ha.eval h,ha.eval hi,Instr.sliceAt,Instr.slice,run_underlying ht,Instr.sliceBounds,AO (m:=(B p).size) _ _ h0 (by rw[AW];exact h1),CB]
theorem Iv {sz:Nat}{xs:List (List Rp)}{e:TypeId}(ht:P.underlying t=some (.slice e))(h:ev l x=some (Bk sz xs)):A3 P n c l H { dst:=d,op:=.call { callee:=.builtin .len,args:=#[x],argTypes:=#[t] },type:=ty,pos:=pos,after:=af,guard:=g } (rI .i64 xs.length):=λa w Z ha _=>by
 obtain⟨A,cap,e1,_⟩:=ha.ev h;exact BW<|by simp[execOp,resolve,invoke,builtin,e1,Builtin.len_,run_underlying ht,goInt]
end
end Go.Proofs.YthjcjnbngagagaaDoor.Q
namespace Go.Proofs.YthjcjnbngagagaaDoor
open Go Go.RowKit
set_option linter.unusedVariables false
def EY (sz:Nat)(w:World)(v:Value)(vs:List (List Value)):Prop:=
 ∃A cap,v = .slice A vs.length cap∧vs.length≤cap∧(cap≤maxLen∧(A=none→cap=0))∧∀i c,vs[i]? =some c→c.length=sz∧∃a:Addr,A=some a∧a.spot=none∧a.block<w.heap.size∧∀j u,c[j]? =some u→w.cell? ⟨a.block,a.off+(i*sz+j),none⟩=some u
def IU (M:List Nat)(v:Value):Prop:=∀a n c,v = .slice (some a) n c→a.block ∉ M
theorem IU.nil (v:Value):IU [] v:=λ_ _ _ _=>by simp
theorem EY.nil (sz:Nat)(w:World):EY sz w (.slice none 0 0) []:=⟨none,0,rfl,KF _,⟨by simp[maxLen],λ_=>rfl⟩,λi c h=>by simp at h⟩
theorem EY.st {sz:Nat}{w0 w:World}{M:List Nat}{H:List Ent}{v:Value}{vs:List (List Value)}(h:EY sz w0 v vs)(ho:IU M v)(hw:St w0 M H w):EY sz w v vs:=by
 obtain⟨A,cap,rfl,hc,hm,hi⟩:=h;refine⟨A,cap,rfl,hc,hm,λi c hic=>?_⟩;obtain⟨hl,a,rfl,hs,hb,hcell⟩:=hi i c hic;refine⟨hl,a,rfl,hs,Nat.lt_of_lt_of_le hb hw.size,λj u hj=>?_⟩;have h1:w.cell? ⟨a.block,a.off+(i*sz+j),none⟩=w0.cell? ⟨a.block,a.off+(i*sz+j),none⟩:=World.cell?_of_block (hw.old a.block hb (ho a _ _ rfl));rw[h1];exact hcell j u hj
theorem EY.st0 {sz:Nat}{w0 w:World}{H:List Ent}{v:Value}{vs:List (List Value)}(h:EY sz w0 v vs)(hw:St w0 [] H w):EY sz w v vs:=h.st (IU.nil _) hw
def Hf (vs:List (List Value)):List Value:=vs.flatten
theorem G7 {sz:Nat}:∀{vs:List (List Value)} (hs:∀c∈vs,c.length=sz) {i:Nat} {c:List Value} (hi:vs[i]? =some c) {j:Nat} {u:Value} (hj:c[j]? =some u),(Hf vs)[i*sz+j]? =some u
 | [],hs,i,c,hi,j,u,hj=>by simp at hi
 | x::r,hs,0,c,hi,j,u,hj=>by
  simp at hi;subst hi;simp only[Hf,List.flatten_cons,Nat.zero_mul,Nat.zero_add];rw[List.getElem?_append_left (by have:=(List.getElem?_eq_some_iff.1 hj).1;exact this)];exact hj
 | x::r,hs,i+1,c,hi,j,u,hj=>by
  have hx:x.length=sz:=hs x (by simp);simp only[Hf,List.flatten_cons];rw[List.getElem?_append_right (by rw[hx,Nat.succ_mul];omega)];have e:(i+1)*sz+j-x.length=i*sz+j:=by rw[hx,Nat.succ_mul];omega
  rw[e];exact G7 (vs:=r) (λc hc=>hs c (by simp[hc])) (by simpa using hi) hj
theorem EY.of_row {sz:Nat}{w:World}{v:Value}{e:TypeId}{vs:List (List Value)}(h:(Ent.row v e sz vs.length (Hf vs)).holds w)(hs:∀c∈vs,c.length=sz):EY sz w v vs:=by
 obtain⟨hl,h2⟩:=h;rcases h2 with⟨rfl,hn⟩ | ⟨g,cap,cur,rfl,_,hg,hc,hm,hsz,htake⟩
 ·have:vs=[]:=KD hn;subst this;exact EY.nil _ _
 ·refine⟨some ⟨g,0,none⟩,cap,rfl,hc,⟨hm,λh=>by cases h⟩,λi c hi=>⟨hs c (KG hi),⟨g,0,none⟩,rfl,rfl,(Array.getElem?_eq_some_iff.1 hg).1,λj u hj=>?_⟩⟩;have h3:=G7 hs hi hj;rw[← htake,List.getElem?_take] at h3
  split at h3
  ·show w.cell? ⟨g,0+(i*sz+j),none⟩=_;rw[cell_of_row w g _ cur e (0,0) hg,Nat.zero_add];simpa using h3
  ·cases h3
def DN (sz:Nat)(v:Value)(i:Nat)(off:Nat):Value:=match v with
 | .slice (some a) _ _=>.pointer (some ⟨a.block,a.off+(i*sz+off),none⟩)
 | _=>undef
section
variable {P : Program} {n : Nat} {w0 : World} {M : List Nat} {ops : Array Oper} {Q : Exit → Act → World → Prop} {rest : List Oper} {l : Fr} {H H' : List Ent} {d : Option Nat} {x y c : Operand} {ty t t' e : TypeId} {pos : String} {af : Array Edge} {g : Option (Nat × Bool)} {v u : Value} {sz : Nat} {vs : List (List Value)}
theorem Iw (ht:P.underlying t=some (.slice e))(h:ev l x=some v)(hr:EY sz w0 v vs):A3 P n w0 M l H { dst:=d,op:=.call { callee:=.builtin .len,args:=#[x],argTypes:=#[t] },type:=ty,pos:=pos,after:=af,guard:=g } (.int .i64 vs.length):=by
 obtain⟨A,cap,rfl,_⟩:=hr;exact DC ht h
theorem Jm {k:IntKind}{i:Int}(ht:P.underlying t=some (.slice e))(hz:∀w,(sizeOf e).run P w = .ok sz w)(h:ev l x=some v)(hi:ev l y=some (.int k i))(hr:EY sz w0 v vs)(h0:0≤i)(h1:i<vs.length) :
  A3 P n w0 M l H { dst:=d,op:=.indexAddr t x y,type:=ty,pos:=pos,after:=af,guard:=g } (DN sz v i.toNat 0):=by
 obtain⟨A,cap,rfl,_,_,hc⟩:=hr;obtain⟨_,a,rfl,hs,_,_⟩:=hc i.toNat vs[i.toNat] (Kx (by omega));intro a' w ha hw;obtain⟨b,off,spot⟩:=a;simp only at hs;subst hs;have hlt:i<(vs.length:Int):=h1;simp[execOp,ha.eval h,ha.eval hi,Instr.indexAt,asIntOf,run_underlying ht,h0,hlt,hz,EX,DN]
theorem Jl {off j:Nat}{c:List Value}(hag:∀w,(isAgg t).run P w = .ok false w)(hx:ev l x=some (DN sz v j off))(hr:EY sz w0 v vs)(ho:IU M v)(hj:vs[j]? =some c)(hc:c[off]? =some u) :
  A3 P n w0 M l H { dst:=d,op:=.load t x,type:=ty,pos:=pos,after:=af,guard:=g } u:=λa w ha hw=>by
 obtain⟨A,cap,rfl,_,_,hi⟩:=hr.st ho hw;obtain⟨_,b,rfl,_,_,hcell⟩:=hi j c hj;have h1:=hcell off u hc;simp[execOp,ha.eval hx,DN,Instr.loadAt,Instr.sureAddr,loadVar,hag,h1]
theorem Gu {d i:Nat}{en:Ent}{f:FuncId}{args:List Operand}{ats:Array TypeId}{vs:List Value}{Φ:Value→List Ent→Prop}(hcall:∀(as1:Array Value) (w:World),(callFunc f as1).run P w = .ok (.enter f as1) w)(hv:EB l args=some vs)
  (hi:H[i]? =some en) (hc:∀w,St w0 M H w→en.holds w→Calls P f vs.toArray w (Id w en.foot Φ)) (hn:Nat.blt d n=true) (h:∀u Ho,Φ u Ho→WL P n w0 M ops Q rest ((d,u)::l) (Ho++H.eraseIdx i)) :
  WL P n w0 M ops Q ({ dst:=some d,op:=.call { callee:=.value (.func f),args:=args.toArray,argTypes:=ats },type:=ty,pos:=pos,after:=af,guard:=none }::rest) l H:=
 CR (λa w ha hw=>BI (vs:=vs) rfl hcall (by simp[CZ ha hv]) w) (λw hw=>(hc w hw (hw.ent hi)).mono λe w' ⟨v,Ho,he,hs,hf⟩=>
  ⟨v,Ho++H.eraseIdx i,he,(St.call (Hin:=[en]) (Hr:=H.eraseIdx i) (hw.front hi) hs (λk hk=>⟨en,by simp,hk⟩)),h v Ho hf⟩) hn
theorem AK {d len:Nat}{parts:Array (Nat×Operand)}{cs:List Value}(ht:P.underlying t=some (.slice e))(hz:∀w,(sizeOf e).run P w = .ok sz w)
  (hrun:∀a w,AU n l a→(Instr.buildSlice t len (parts.map λ(i,x)=>(i,a.eval x))).run P w = .ok (.slice (some ⟨w.heap.size,0,none⟩) len len) (w.alloc (.cells cs.toArray e))) (hl:cs.length=len*sz) (hm:len≤maxLen) (hn:Nat.blt d n=true)
  (h:∀b,WL P n w0 M ops Q rest ((d,.slice (some ⟨b,0,none⟩) len len)::l) (.row (.slice (some ⟨b,0,none⟩) len len) e sz len cs::H)) :
  WL P n w0 M ops Q ({ dst:=some d,op:=.buildSlice t len parts,type:=ty,pos:=pos,after:=af,guard:=none }::rest) l H:=
 GI (λa w ha hw=>by
  have hw2:=hw.alloc (.cells cs.toArray e);refine⟨_,w.alloc (.cells cs.toArray e),.row (.slice (some ⟨w.heap.size,0,none⟩) len len) e sz len cs::H,by simp[execOp,hrun a w ha],?_,h w.heap.size⟩;refine⟨hw2.os,hw2.tape,hw2.output,hw2.size,hw2.old,?_,?_,?_⟩
  ·intro en he;rcases List.mem_cons.1 he with rfl | he
   ·refine⟨hl,.inr ⟨w.heap.size,len,cs.toArray,rfl,KI _,heap_alloc_new w _,KF _,hm,by simpa using hl,?_⟩⟩;rw[← hl];simp
   ·exact hw2.has en (by simp[he])
  ·intro en he k hk;rcases List.mem_cons.1 he with rfl | he
   ·exact hw2.own (.blk w.heap.size (.cells cs.toArray e)) (by simp) k (by simpa[Ent.foot,Value.ownBlock] using hk)
   ·exact hw2.own en (by simp[he]) k hk
  ·have hd:=List.pairwise_cons.1 hw2.dis;refine List.pairwise_cons.2 ⟨λen he k hk=>hd.1 en he k (by simpa[Ent.foot,Value.ownBlock] using hk),hd.2⟩) hn
end
def DO (s:List UInt8):List Value:=[.string (B s)]
abbrev Bt (w:World)(v:Value)(ss:List (List UInt8)):Prop:=EY 1 w v (ss.map DO)
def CK (ss:List (List UInt8))(i:Int):List UInt8:=(ss[i.toNat]?).getD []
theorem Jc {ss:List (List UInt8)}{i:Int}(h0:0≤i)(h1:i<ss.length):(ss.map DO)[i.toNat]? =some (DO (CK ss i)):=by
 have:i.toNat<ss.length:=by omega
 simp[CK,this]
set_option linter.unusedSimpArgs false
section
variable {P : Program} {n : Nat} {w0 : World} {M : List Nat} {ops : Array Oper} {Q : Exit → Act → World → Prop} {rest : List Oper} {l : Fr} {H H' : List Ent} {x y : Operand} {ty t t' e : TypeId} {pos : String} {af : Array Edge} {g : Option (Nat × Bool)} {v u : Value} {i sz m : Nat} {xs : List Value}
theorem BC {w:World}(h:(Ent.row v e sz m xs).holds w):xs.length=m*sz∧((v = .slice none 0 0∧m=0)∨∃b cap cur,v = .slice (some ⟨b,0,none⟩) m cap∧w.heap[b]? =some (.cells cur e (0,0))∧m≤cap∧cap≤maxLen∧cur.size=cap*sz∧cur.toList.take (m*sz)=xs):=by
 obtain⟨h1,h2⟩:=h;refine⟨h1,?_⟩;rcases h2 with h2 | ⟨b,cap,cur,e1,_,e2,e3,e4,e5,e6⟩
 ·exact .inl h2
 ·exact .inr ⟨b,cap,cur,e1,e2,e3,e4,e5,e6⟩
theorem EJ {w:World}{b c j:Nat}(h:(Ent.row (.slice (some ⟨b,0,none⟩) m c) e sz m xs).holds w)(hj:xs[j]? =some u):w.cell? ⟨b,j,none⟩=some u:=by
 obtain⟨h1,h2⟩:=BC h;rcases h2 with⟨h2,_⟩ | ⟨b',cap,cur,e1,e2,_,_,_,e6⟩
 ·cases h2
 ·simp only[Value.slice.injEq,Option.some.injEq,Addr.mk.injEq,and_true,true_and] at e1;obtain⟨rfl,rfl⟩:=e1;rw[cell_of_row w b j cur e (0,0) e2];rw[← e6,List.getElem?_take] at hj
  split at hj
  ·simpa using hj
  ·cases hj
theorem G0 {d:Option Nat}(ht:P.underlying t=some (.slice e))(h:ev l x=some v)(hi:H[i]? =some (.row v e sz m xs)):A3 P n w0 M l H { dst:=d,op:=.call { callee:=.builtin .len,args:=#[x],argTypes:=#[t] },type:=ty,pos:=pos,after:=af,guard:=g } (.int .i64 m):=λa w ha hw=>by
 obtain⟨_,h2⟩:=BC (hw.ent hi);rcases h2 with⟨rfl,rfl⟩ | ⟨b,cap,cur,rfl,_⟩
 ·exact DC (n:=n) (w0:=w0) (M:=M) (H:=H) ht h a w ha hw
 ·exact DC (n:=n) (w0:=w0) (M:=M) (H:=H) ht h a w ha hw
theorem DD {d:Option Nat}{k:IntKind}{j:Int}(ht:P.underlying t=some (.slice e))(hz:∀w,(sizeOf e).run P w = .ok sz w)(h:ev l x=some v)(hy:ev l y=some (.int k j))(hi:H[i]? =some (.row v e sz m xs))(h0:0≤j)(h1:j<m) :
  A3 P n w0 M l H { dst:=d,op:=.indexAddr t x y,type:=ty,pos:=pos,after:=af,guard:=g } (DN sz v j.toNat 0):=λa w ha hw=>by
 obtain⟨_,h2⟩:=BC (hw.ent hi);rcases h2 with⟨rfl,rfl⟩ | ⟨b,cap,cur,rfl,_⟩
 ·omega
 ·simp[execOp,ha.eval h,ha.eval hy,Instr.indexAt,asIntOf,run_underlying ht,h0,h1,hz,EX,DN]
theorem E2 {d:Option Nat}{j off:Nat}(hag:∀w,(isAgg t).run P w = .ok false w)(hx:ev l x=some (DN sz v j off))(hi:H[i]? =some (.row v e sz m xs))(hc:xs[j*sz+off]? =some u) :
  A3 P n w0 M l H { dst:=d,op:=.load t x,type:=ty,pos:=pos,after:=af,guard:=g } u:=λa w ha hw=>by
 have hr:=hw.ent hi;obtain⟨h1,h2⟩:=BC hr;rcases h2 with⟨rfl,rfl⟩ | ⟨b,cap,cur,rfl,_⟩
 ·have:xs=[]:=KD (by simpa using h1);subst this;simp at hc
 ·have hcell:=EJ hr hc;simp[execOp,ha.eval hx,DN,Instr.loadAt,Instr.sureAddr,loadVar,hag,hcell]
theorem Hu {j off:Nat}(hsz:∀w,(sizeOf t).run P w = .ok 1 w)(hx:ev l x=some (DN sz v j off))(hy:ev l y=some u)(hv:u.oneCell'=true)(hi:H[i]? =some (.row v e sz m xs))(hlt:j*sz+off<xs.length)
  (hH:H.set i (.row v e sz m (xs.set (j*sz+off) u))=H') (h:WL P n w0 M ops Q rest l H'):WL P n w0 M ops Q ({ dst:=none,op:=.store t x y,type:=ty,pos:=pos,after:=af,guard:=none }::rest) l H:=
 IY λa w ha hw=>by
  have hr:=hw.ent hi;obtain⟨h1,h2⟩:=BC hr;rcases h2 with⟨rfl,rfl⟩ | ⟨b,cap,cur,rfl,hb,hc,hm,hcs,htk⟩
  ·have:xs=[]:=KD (by simpa using h1);subst this;simp at hlt
  ·have hlc:j*sz+off<cur.size:=by
    have:xs.length≤cur.toList.length:=by rw[← htk];simp;omega
    simp at this;omega
   have h3:=run_storeCells_at P b (j*sz+off) e [u] 0 cur w hb (by simp;omega) (by simpa using hv);have hcv:u.cells = #[u]:=by cases u<;>first | rfl | simp[Value.oneCell'] at hv
   have h4:(cur.toList.take (j*sz+off)++[u]++cur.toList.drop (j*sz+off+1)).toArray=cur.setIfInBounds (j*sz+off) u:=by
    apply Array.ext';simp[Array.toList_setIfInBounds,List.set_eq_take_append_cons_drop,hlc]
   simp only[Nat.add_zero,List.length_cons,List.length_nil,Nat.zero_add] at h3;rw[h4] at h3;refine⟨w.setRow b (cur.setIfInBounds (j*sz+off) u),H',?_,?_,h⟩
   ·simp[execOp,ha.eval hx,ha.eval hy,DN,Instr.storeAt,Instr.sureAddr,storeVar,hsz,hcv,h3]
   ·subst hH;refine hw.set hi rfl rfl rfl (by simp[World.setRow]) (λk _ hk=>?_) ?_ (by simp[Ent.foot,Value.ownBlock])
    ·simp only[Ent.foot,Value.ownBlock,Option.mem_toList,Option.mem_def,Option.some.injEq] at hk;simp only[World.setRow,Array.getElem?_modify];rw[if_neg hk]
    ·refine⟨by simpa using h1,.inr ⟨b,cap,cur.setIfInBounds (j*sz+off) u,rfl,KI _,setRow_heap w b cur _ e (0,0) hb,hc,hm,by simpa using hcs,?_⟩⟩;rw[← htk,Array.toList_setIfInBounds,List.take_set]
def J5 (sz:Nat)(w:World)(v:Value)(m:Nat)(ys:List Value):Prop:=
 ys.length=m*sz∧((v = .slice none 0 0∧m=0)∨∃ (a:Addr) (c:Nat),v = .slice (some a) m c∧∀j u,ys[j]? =some u→w.cell? (a.add j)=some u)
theorem J5.of_row {w:World}(h:(Ent.row v e sz m xs).holds w):J5 sz w v m xs:=by
 obtain⟨h1,h2⟩:=BC h;refine⟨h1,?_⟩;rcases h2 with⟨rfl,rfl⟩ | ⟨b,cap,cur,rfl,_⟩
 ·exact .inl ⟨rfl,rfl⟩
 ·refine .inr ⟨_,_,rfl,λj u hj=>?_⟩;rw[EX,Nat.zero_add];exact EJ h hj
theorem CE {w:World}{z:Value}{inf:TypeInfo}{bytes:Nat}{ys:List Value}{k:Nat}(ty:TypeId)(ht:P.underlying t=some (.slice e))(hinf:P.info? e=some inf)(hz:inf.zero=some z)(hsize:inf.size=sz)(hby:inf.bytes=bytes)(hzs:z.cells.size=sz)(hsz:0<sz)
  (hown:w.ownsRow 0 e sz v m xs) (hr:J5 sz w u k ys) (h1:∀y∈ys,y.oneCell'=true) (hb:(m+k)*bytes≤140737488355328) (ha:m+k≤maxLen) :
  ∃v' w',(Builtin.append_ #[t,t] ty #[v,u]).run P w = .ok v' w'∧w'.ownsRow 0 e sz v' (m+k) (xs++ys)∧w.grownBy w' v.ownBlock∧(v'.ownBlock=v.ownBlock∨∀b,v'.ownBlock=some b→w.heap.size≤b):=by
 obtain⟨hl,hr⟩:=hr;rcases hr with⟨rfl,rfl⟩ | ⟨a,c,rfl,hnews⟩
 ·have:ys=[]:=KD (by simpa using hl);subst this;exact⟨v,w,run_append_owned_none (w:=w) (base:=0) t ty e inf sz ht hinf v m xs hown,by simpa using hown,⟨rfl,rfl,rfl,KF _,λ_ _ _=>rfl⟩,.inl rfl⟩
 ·rcases hown.2 with⟨rfl,rfl⟩ | ⟨b,cap,cur,rfl,_,hg,hnc,hcm,hcs,htake⟩
  ·have hx:xs=[]:=KD (by simpa using hown.1);subst hx;obtain⟨v',w',e1,e2,e3,_⟩:=run_append_own (P:=P) w w.heap.size t ty e inf z sz bytes ht hinf hz hsize hby hzs hsz (.slice none 0 0) 0 [] (World.ownsRow_nil w _ e sz) a k c ys hl hnews h1 ha hb (KF _);refine⟨v',w',e1,?_,e3,.inr λb hb=>(e2.lt b hb).1⟩;refine⟨e2.1,?_⟩;rcases e2.2 with h | ⟨g,cap,cur,h,_,rest⟩
   ·exact .inl h
   ·exact .inr ⟨g,cap,cur,h,KI _,rest⟩
  ·by_cases hroom:m+k≤cap
   ·obtain⟨w',e1,e2,e3⟩:=run_append_fits (P:=P) w 0 t ty e inf sz ht hinf hsize b m cap xs hown a k c ys hl hnews h1 hroom;exact⟨_,w',e1,e2,e3,.inl rfl⟩
   ·subst hsize hby;have holds:∀j u,xs[j]? =some u→w.cell? ((⟨b,0,none⟩:Addr).add j)=some u:=hown.cells (g:=b) rfl;have hs:m+k≤9223372036854775807:=by simp only[maxLen] at ha;omega
    have e1:=run_append_grow (P:=P) w t ty e inf z ht hinf hz ⟨b,0,none⟩ m cap xs hown.1 holds a k c ys hl hnews (by omega) (by omega) (growslice_fits (by omega) hb);have hge:=grownCap_ge w (m+k) cap e;have hcm:=grownCap_le_maxLen w (m+k) cap e ha;have hlen:(xs++ys).length=(m+k)*inf.size:=by rw[List.length_append,hown.1,hl,Nat.add_mul]
    refine⟨_,_,e1,⟨hlen,.inr ⟨w.heap.size,_,_,rfl,KI _,heap_alloc_new w.drew _,hge,hcm,?_,?_⟩⟩,⟨rfl,rfl,rfl,by simp,λq hq _=>Below.heap_alloc w.drew _ q hq⟩,.inr λb hb=>?_⟩
    ·simp only[Array.size_append,List.size_toArray,size_zeroCells,hzs,hown.1,hl,← Nat.add_mul]
     congr 1
     omega
    ·simp only[Array.toList_append,List.append_assoc];rw[← List.append_assoc,← hlen];exact List.take_left
    ·simp[Value.ownBlock] at hb;omega
theorem C0 {d:Nat}{z:Value}{inf:TypeInfo}{bytes:Nat}{ys:List Value}{k:Nat}(ht:P.underlying t=some (.slice e))(hinf:P.info? e=some inf)(hz:inf.zero=some z)(hsize:inf.size=sz)(hby:inf.bytes=bytes)(hzs:z.cells.size=sz)(hsz:0<sz)
  (hx:ev l x=some v) (hy:ev l y=some u) (hi:H[i]? =some (.row v e sz m xs)) (hr:∀w,St w0 M H w→J5 sz w u k ys) (h1:ys.all (·.oneCell')=true) (hb:(m+k)*bytes≤140737488355328) (hc:m+k≤maxLen) (hn:Nat.blt d n=true)
  (h:∀v',WL P n w0 M ops Q rest ((d,v')::l) (.row v' e sz (m+k) (xs++ys)::H.eraseIdx i)) :
  WL P n w0 M ops Q ({ dst:=some d,op:=.call { callee:=.builtin .append,args:=#[x,y],argTypes:=#[t,t] },type:=ty,pos:=pos,after:=af,guard:=none }::rest) l H:=λa w ha hw=>by
 have hent:=hw.ent hi;have hbase:(0:Nat)≤w.heap.size:=KI _;have hin:St w0 M ([.row v e sz m xs]++H.eraseIdx i) w:=hw.front hi;have fin:∀v' w',w'.ownsRow 0 e sz v' (m+k) (xs++ys)→(v'.ownBlock=v.ownBlock∨∀b,v'.ownBlock=some b→w.heap.size≤b)→w.grownBy w' v.ownBlock→wpList P ops Q rest (a.put (some d) v') w':=λv' w' ho hbk hg=>by
  refine h v' _ w' (ha.put hn v') ?_;refine St.call (Hin:=[.row v e sz m xs]) (Hout:=[.row v' e sz (m+k) (xs++ys)]) (M2:=(Ent.row v e sz m xs).foot) hin ⟨hg.os,hg.tape,hg.output,hg.size,λq hq hne=>hg.block q hq (λe1=>hne ?_),?_,?_,by simp⟩ (λq hq=>⟨_,by simp,hq⟩)
  ·simp[Ent.foot,← e1]
  ·intro en he;simp only[K4] at he;subst he;exact ho
  ·intro en he q hq;simp only[K4] at he;subst he;simp only[Ent.foot,Option.mem_toList] at hq ⊢;rcases hbk with hbk | hbk
   ·exact .inr (hbk▸hq)
   ·exact .inl (hbk q hq)
 obtain⟨v',w',e1,e2,e3,e4⟩:=CE (P:=P) ty ht hinf hz hsize hby hzs hsz hent (hr w hw) (λy hy=>List.all_eq_true.1 h1 y hy) hb hc;refine wpList_plain rfl λK hK=>?_;unfold Oper.wp;simp[execOp,resolve,invoke,builtin,ha.eval hx,ha.eval hy,e1,Result.andThen];exact hK _ _ (fin v' w' e2 e4 e3)
end
end Go.Proofs.YthjcjnbngagagaaDoor
namespace Go.Proofs.YthjcjnbngagagaaDoor.Q
open Go Go.RowKit
set_option linter.unusedVariables false
set_option linter.unusedSimpArgs false
def Kh (cs:List Rp)(Z:Fz)(v:Value):Prop:=∃b o,v = .pointer (some ⟨b,o,none⟩)∧∀j r,cs[j]? =some r→∃u,Cz Z b (o+j)=some u∧r.p Z u
def JB (cs:List Rp):Rp:=⟨Kh cs,λh ⟨b,o,e,hc⟩=>⟨b,o,e,λj r hj=>let ⟨u,hu,hr⟩:=hc j r hj;⟨u,D3 h hu,r.mono h hr⟩⟩,true,λ_ Z v ⟨b,o,e,_⟩=>by rw[e];rfl⟩
def J6 (H:List Ent)(r:Rp):Prop:=∀(c:Cx) Z w v,St c H Z w→r.p Z v→v.oneCell'=true
theorem IL {H:List Ent}{r:Rp}(h:r.one=true):J6 H r:=λ_ Z _ v _ hp=>r.hone h Z v hp
def Dn (H:List Ent):List Rp→Prop
 | []=>True
 | r::rs=>J6 H r∧Dn H rs
theorem Dn.c {H:List Ent}:∀{rs:List Rp},rs.all (·.one)=true→Dn H rs
 | [],_=>trivial
 | r::rs,h=>by simp only[List.all_cons,K0] at h;exact⟨IL h.1,Dn.c h.2⟩
theorem Dn.at {H:List Ent}{c:Cx}{Z:Fz}{w:World}(hw:St c H Z w):∀{rs:List Rp} {vs:List Value},Dn H rs→Aw Z rs vs→∀v∈vs,v.oneCell'=true
 | [],[],_,_,_,h=>by simp at h
 | r::rs,v::vs,⟨h1,h2⟩,⟨h3,h4⟩,u,h=>by
  rcases List.mem_cons.1 h with rfl | h
  ·exact h1 c Z w _ hw h3
  ·exact h2.at hw h4 u h
section
variable {P : Program} {n : Nat} {c : Cx} {ops : Array Oper} {Q : Exit → Act → World → Prop} {rest : List Oper} {l : Fr} {H H' : List Ent} {d : Nat} {d' : Option Nat} {x y : Operand} {ty t t' e : TypeId} {pos : String} {af : Array Edge} {g : Option (Nat × Bool)} {v u : Value} {r : Rp} {sz : Nat}
theorem Aw.rvs (Z:Fz):∀us:List Value,Aw Z (us.map rv) us
 | []=>trivial
 | u::us=>⟨rfl,Aw.rvs Z us⟩
theorem Eo {v:Value}(h:v.oneCell'=true):v.cells = #[v]:=by cases v<;>first | rfl | simp[Value.oneCell'] at h
theorem Cf {cs:List Rp}(hag:∀w,(isAgg t).run P w = .ok false w)(hx:ev l x=some (JB cs))(hc:cs[0]? =some r) :
  A3 P n c l H { dst:=d',op:=.load t x,type:=ty,pos:=pos,after:=af,guard:=g } r:=λa w Z ha hw=>by
 obtain⟨b,o,e1,hcs⟩:=ha.ev hx;obtain⟨u,hu,hp⟩:=hcs 0 r hc;have hcell:=D4 hw.frz hu;rw[Nat.add_zero] at hcell;exact⟨u,hp,by simp[execOp,e1,Instr.loadAt,Instr.sureAddr,loadVar,hag,hcell]⟩
theorem Eq {Z:Fz}:∀{cs:List Rp} {f:Nat→Option Value},(∀j r,cs[j]? =some r→∃u,f j=some u∧r.p Z u)→∃us:List Value,Aw Z cs us∧∀(j:Nat) u,us[j]? =some u→f j=some u
 | [],f,_=>⟨[],trivial,by simp⟩
 | r::rs,f,h=>by
  obtain⟨u,hu,hp⟩:=h 0 r rfl;obtain⟨us,h1,h2⟩:=Eq (cs:=rs) (f:=λj=>f (j+1)) (λj r' hj=>h (j+1) r' (by simpa using hj));refine⟨u::us,⟨hp,h1⟩,λj u' hj=>?_⟩
  cases j with
  | zero=>simp at hj;subst hj;exact hu
  | succ j=>exact h2 j u' (by simpa using hj)
theorem Dm {α:Type}[Inhabited α]{ys:List α}{enc:α→List Rp}{k:IntKind}{i:Int}(ht:P.underlying t=some (.slice e))(hz:∀w,(sizeOf e).run P w = .ok sz w)(h:ev l x=some (Bk sz (ys.map enc)))(hi:ev l y=some (rI k i))(hg:DM i (ys.length:Int)=true) :
  A3 P n c l H { dst:=d',op:=.indexAddr t x y,type:=ty,pos:=pos,after:=af,guard:=g } (JB (enc (AN ys i))):=λa w Z ha hw=>by
 obtain⟨A,cap,e1,_,_,_,hc⟩:=ha.ev h;have h0:=(Bp hg).1;have h1:i.toNat<ys.length:=by have:=(Bp hg).2;omega
 have hlt:i<(ys.length:Int):=(Bp hg).2;obtain⟨hl,ad,rfl,hs,hcs⟩:=hc i.toNat (enc ys[i.toNat]) (by simp[h1]);obtain⟨b,off,spot⟩:=ad;simp only at hs;subst hs;have eat:AN ys i=ys[i.toNat]:=by simp[AN,h1]
 refine⟨.pointer (some ⟨b,off+i.toNat*sz,none⟩),⟨b,off+i.toNat*sz,rfl,λj r hj=>?_⟩,?_⟩
 ·obtain⟨u,hu,hr⟩:=hcs j r (by rw[← eat];exact hj);exact⟨u,by rw[Nat.add_assoc];exact hu,hr⟩
 ·simp only[K9] at e1;simp[execOp,e1,ha.eval hi,Instr.indexAt,asIntOf,run_underlying ht,h0,hlt,hz,EX]
theorem G0 {i:Nat}{xs:List (List Rp)}(ht:P.underlying t=some (.slice e))(h:ev l x=some (rv v)){e':TypeId}(hi:H[i]? =some (.row v e' sz xs)):A3 P n c l H { dst:=d',op:=.call { callee:=.builtin .len,args:=#[x],argTypes:=#[t] },type:=ty,pos:=pos,after:=af,guard:=g } (rI .i64 xs.length):=λa w Z ha hw=>BW<|by
 obtain⟨_,us,⟨_,h2⟩,_⟩:=hw.ent hi;rcases h2 with⟨rfl,hz⟩ | ⟨b,cap,cur,rfl,_⟩
 ·simp[execOp,resolve,invoke,builtin,ha.eval h,Builtin.len_,run_underlying ht,goInt,hz]
 ·simp[execOp,resolve,invoke,builtin,ha.eval h,Builtin.len_,run_underlying ht,goInt]
theorem DD {i:Nat}{k:IntKind}{j:Int}{xs:List (List Rp)}(ht:P.underlying t=some (.slice e))(hz:∀w,(sizeOf e).run P w = .ok sz w)(h:ev l x=some (rv v))(hy:ev l y=some (rI k j)){e':TypeId}(hi:H[i]? =some (.row v e' sz xs))(hg:DM j (xs.length:Int)=true) :
  A3 P n c l H { dst:=d',op:=.indexAddr t x y,type:=ty,pos:=pos,after:=af,guard:=g } (rv (DN sz v j.toNat 0)):=λa w Z ha hw=>BW<|by
 obtain⟨_,us,⟨_,h2⟩,_⟩:=hw.ent hi;have h0:=(Bp hg).1;have h1:=(Bp hg).2;rcases h2 with⟨rfl,hz⟩ | ⟨b,cap,cur,rfl,_⟩
 ·omega
 ·simp[execOp,ha.eval h,ha.eval hy,Instr.indexAt,asIntOf,run_underlying ht,h0,h1,hz,EX,DN]
theorem E2 {α:Type}[Inhabited α]{ys:List α}{enc:α→List Rp}{i off:Nat}{j:Int}(hag:∀w,(isAgg t).run P w = .ok false w)(hx:ev l x=some (rv (DN sz v j.toNat off)))(hi:H[i]? =some (.row v e sz (ys.map enc)))(hg:DM j (ys.length:Int)=true)(hc:(enc (AN ys j))[off]? =some r) :
  A3 P n c l H { dst:=d',op:=.load t x,type:=ty,pos:=pos,after:=af,guard:=g } r:=λa w Z ha hw=>by
 obtain⟨hs,us,⟨h1,h2⟩,h3⟩:=hw.ent hi;have h0:=(Bp hg).1;have hlt:j.toNat<ys.length:=by have:=(Bp hg).2;omega
 have eat:AN ys j=ys[j.toNat]:=by simp[AN,hlt]
 have hfl:=CY hs (i:=j.toNat) (c:=enc ys[j.toNat]) (by simp[hlt]) (j:=off) (u:=r) (by rw[← eat];exact hc);obtain⟨u,hu,hp⟩:=h3.at hfl;rcases h2 with⟨rfl,hz⟩ | ⟨b,cap,cur,rfl,_,hg',hcap,hm,hsz,htk⟩
 ·simp at hz;subst hz;simp at hlt
 ·have hcell:w.cell? ⟨b,j.toNat*sz+off,none⟩=some u:=by
   rw[cell_of_row w b _ cur e (0,0) hg'];rw[← htk,List.getElem?_take] at hu
   split at hu
   ·simpa using hu
   ·cases hu
  exact⟨u,hp,by simp[execOp,ha.eval hx,DN,Instr.loadAt,Instr.sureAddr,loadVar,hag,hcell]⟩
theorem D1 {α:Type}{ys:List α}{enc:α→List Rp}{j:Int}(h:DM j (ys.length:Int)=true):DM j ((ys.map enc).length:Int)=true:=by rw[K9];exact h
theorem C2 {α:Type}{ys:List α}{enc:α→List Rp}(ht:P.underlying t=some (.slice e))(h:ev l x=some (Bk sz (ys.map enc))):A3 P n c l H { dst:=d',op:=.call { callee:=.builtin .len,args:=#[x],argTypes:=#[t] },type:=ty,pos:=pos,after:=af,guard:=g } (rI .i64 ys.length):=by
 have:=Iv (P:=P) (n:=n) (c:=c) (H:=H) (d:=d') (ty:=ty) (pos:=pos) (af:=af) (g:=g) ht h
 rwa [K9] at this
theorem BL {α:Type}{ys:List α}{enc:α→List Rp}{i:Nat}(ht:P.underlying t=some (.slice e))(h:ev l x=some (rv v)){e':TypeId}(hi:H[i]? =some (.row v e' sz (ys.map enc))):A3 P n c l H { dst:=d',op:=.call { callee:=.builtin .len,args:=#[x],argTypes:=#[t] },type:=ty,pos:=pos,after:=af,guard:=g } (rI .i64 ys.length):=by
 have:=G0 (P:=P) (n:=n) (c:=c) (d':=d') (ty:=ty) (pos:=pos) (af:=af) (g:=g) ht h hi
 rwa [K9] at this
theorem Hu {α:Type}[Inhabited α]{ys:List α}{enc:α→List Rp}{i off:Nat}{j:Int}{y':α}(hsz:∀w,(sizeOf t).run P w = .ok 1 w)(hx:ev l x=some (rv (DN sz v j.toNat off)))(hy:ev l y=some r)(hv:J6 H r)(hi:H[i]? =some (.row v e sz (ys.map enc)))(hg:DM j (ys.length:Int)=true)
  (hy':(enc (AN ys j)).set off r=enc y') (hlt:Nat.blt off sz=true) (hH:H.set i (.row v e sz ((ys.set j.toNat y').map enc))=H') (h:WL P n c ops Q rest l H') :
  WL P n c ops Q ({ dst:=none,op:=.store t x y,type:=ty,pos:=pos,after:=af,guard:=none }::rest) l H:=
 IY λa w Z ha hw=>by
  obtain⟨hs,us,⟨h1,h2⟩,h3⟩:=hw.ent hi;have h0:=(Bp hg).1;have hlj:j.toNat<ys.length:=by have:=(Bp hg).2;omega
  have hlt':off<sz:=by simpa using hlt
  have eat:AN ys j=ys[j.toNat]:=by simp[AN,hlj]
  have hr:=ha.ev hy;have hone:=hv c Z w _ hw hr;rcases h2 with⟨rfl,hz⟩ | ⟨b,cap,cur,rfl,_,hg',hcap,hm,hcs,htk⟩
  ·simp at hz;subst hz;simp at hlj
  ·simp only[K9] at h1 hcap htk;have hin:j.toNat*sz+off<ys.length*sz:=by
    have:(j.toNat+1)*sz≤ys.length*sz:=Nat.mul_le_mul_right _ hlj;rw[Nat.succ_mul] at this;omega
   have hlc:j.toNat*sz+off<cur.size:=by
    have:ys.length*sz≤cap*sz:=Nat.mul_le_mul_right _ hcap;omega
   have h4:=run_storeCells_at P b (j.toNat*sz+off) e [a.eval y] 0 cur w hg' (by simp;omega) (by simpa using hone);have hcv:=Eo hone;have h5:(cur.toList.take (j.toNat*sz+off)++[a.eval y]++cur.toList.drop (j.toNat*sz+off+1)).toArray=cur.setIfInBounds (j.toNat*sz+off) (a.eval y):=by
    apply Array.ext';simp[Array.toList_setIfInBounds,List.set_eq_take_append_cons_drop,hlc]
   simp only[Nat.add_zero,List.length_cons,List.length_nil,Nat.zero_add] at h4;rw[h5] at h4;have hset:((ys.set j.toNat y').map enc).flatten=(ys.map enc).flatten.set (j.toNat*sz+off) r:=by
    clear h3 h1 hcs htk hin hlc h4 h5 hi hH;have key:∀(xs:List (List Rp)) (k:Nat) (cl:List Rp),(∀c∈xs,c.length=sz)→xs[k]? =some cl→(xs.set k (cl.set off r)).flatten=xs.flatten.set (k*sz+off) r:=by
     intro xs
     induction xs with
     | nil=>intro k cl _ hk;simp at hk
     | cons z zs ih=>
      intro k cl hsz hk;have hzl:z.length=sz:=hsz z (by simp)
      cases k with
      | zero=>
       simp at hk;subst hk;simp only[List.set_cons_zero,List.flatten_cons,Nat.zero_mul,Nat.zero_add];rw[List.set_append_left _ _ (by omega)]
      | succ k=>
       simp only[List.set_cons_succ,List.flatten_cons];rw[ih k cl (λc hc=>hsz c (by simp[hc])) (by simpa using hk)];rw[List.set_append_right _ _ (by rw[hzl,Nat.succ_mul];omega)]
       congr 2
       rw[hzl,Nat.succ_mul];omega
    have:=key (ys.map enc) j.toNat (enc ys[j.toNat]) hs (by simp[hlj]);rw[← this,List.map_set,← hy',eat]
   refine⟨w.setRow b (cur.setIfInBounds (j.toNat*sz+off) (a.eval y)),H',?_,?_,h⟩
   ·simp[execOp,ha.eval hx,DN,Instr.storeAt,Instr.sureAddr,storeVar,hsz,hcv,h4]
   ·subst hH;refine hw.set hi rfl rfl rfl (by simp[World.setRow]) (λk _ hk=>?_) ⟨?_,us.set (j.toNat*sz+off) (a.eval y),⟨by simpa using h1,.inr ⟨b,cap,_,by simp,KI _,setRow_heap w b cur _ e (0,0) hg',by simpa using hcap,hm,by simpa using hcs,?_⟩⟩,?_⟩ (by simp[Ent.foot,Value.ownBlock])
    ·simp only[Ent.foot,Value.ownBlock,Option.mem_toList,Option.mem_def,Option.some.injEq] at hk;simp only[World.setRow,Array.getElem?_modify];rw[if_neg hk]
    ·intro cl hcl;rw[List.map_set] at hcl;rcases List.mem_or_eq_of_mem_set hcl with h' | rfl
     ·exact hs cl h'
     ·rw[← hy',List.length_set,eat];exact hs _ (List.mem_map_of_mem (List.getElem_mem hlj))
    ·simp only[K9,List.length_set];rw[Array.toList_setIfInBounds,List.take_set,htk]
    ·rw[hset];exact h3.set _ hr
end
theorem Jg {P:Program}{t e:TypeId}{sz len:Nat}{z:Value}{parts:Array (Nat×Value)}{cs:List Value}(ht:P.underlying t=some (.slice e))(hz:∀w,(sizeOf e).run P w = .ok sz w)(hzv:∀w,(zeroValue e).run P w = .ok z w)
  (hle:Nat.ble (len*sz) 16777216=true) (w:World) (hf:Instr.fill (λi=>some (i*sz,sz)) ((Array.range (len*sz)).map ((if len*sz=0 then #[] else z.cells)[· % (if len*sz=0 then #[] else z.cells).size]!)) parts.toList=some cs.toArray) :
  (Instr.buildSlice t len parts).run P w = .ok (.slice (some ⟨w.heap.size,0,none⟩) len len) (w.alloc (.cells cs.toArray e)):=by
 have hle' : ¬ 16777216<len*sz:=by simpa using hle
 unfold Instr.buildSlice
 by_cases h0:len*sz=0
 ·have er:Array.range 0 = #[]:=rfl;simp only[h0,K8,er] at hf;have hf:Instr.fill (λi=>some (i*sz,sz)) #[] parts.toList=some cs.toArray:=by simpa using hf
  simp[run_underlying ht,hz,hle',h0,er,hf,newRow,newObj,Sem.run,Sem.run_bind]
 ·simp only[h0,K3] at hf;simp[run_underlying ht,hz,hzv,hle',h0,hf,newRow,newObj,Sem.run,Sem.run_bind]
section
variable {P : Program} {n : Nat} {c : Cx} {ops : Array Oper} {Q : Exit → Act → World → Prop} {rest : List Oper} {l : Fr} {H H' : List Ent} {d : Nat} {d' : Option Nat} {x y z3 : Operand} {ty t t' e : TypeId} {pos : String} {af : Array Edge} {g : Option (Nat × Bool)} {v u : Value} {r : Rp} {sz : Nat}
def J9 (H:List Ent)(r:Rp)(cs:List Rp):Prop:=∀(c:Cx) Z w v,St c H Z w→r.p Z v→Aw Z cs v.cells.toList
theorem J9.one {q:Rp}(h:r.one=true)(hu:Up H r q):J9 H r [q]:=λc Z w v hw hp=>by
 rw[Eo (r.hone h Z v hp)];exact⟨hu c Z w v hw hp,trivial⟩
theorem J9.agg {cs cs':List Rp}(h:Dr H cs cs'):J9 H (Jj cs) cs':=λc Z w v hw ⟨us,e,hu⟩=>by subst e;exact h.all hw hu
def EA (H:List Ent):List Rp→List (List Rp)→Prop
 | [],[]=>True
 | r::rs,cs::css=>J9 H r cs∧EA H rs css
 | _,_=>False
theorem EA.all {c:Cx}{Z:Fz}{w:World}(hw:St c H Z w):∀{rs:List Rp} {css:List (List Rp)} {vs:List Value},EA H rs css→Aw Z rs vs→Aw Z css.flatten (vs.flatMap λv=>v.cells.toList)∧css.length=vs.length∧∀(i:Nat) cs v,css[i]? =some cs→vs[i]? =some v→v.cells.size=cs.length
 | [],[],[],_,_=>⟨trivial,rfl,by simp⟩
 | r::rs,cs::css,v::vs,⟨h1,h2⟩,⟨h3,h4⟩=>by
  obtain⟨a1,a2,a3⟩:=h2.all hw h4;have h5:=h1 c Z w v hw h3;refine⟨by simpa using h5.append a1,by simp[a2],λi cs' v' hi hv=>?_⟩
  cases i with
  | zero=>simp at hi hv;subst hi hv;have:=h5.length;simpa using this
  | succ i=>exact a3 i cs' v' (by simpa using hi) (by simpa using hv)
theorem AK {α:Type}{ys:List α}{enc:α→List Rp}{len:Nat}{parts:Array (Nat×Operand)}{xs:List Operand}{rs:List Rp}{css:List (List Rp)}{zz:Value}(ht:P.underlying t=some (.slice e))(hz:∀w,(sizeOf e).run P w = .ok sz w)(hzv:∀w,(zeroValue e).run P w = .ok zz w)
  (hparts:parts.toList=(xs.zipIdx 0).map λp=>(p.2,p.1)) (hlen:ys.length=len) (hv:EB l xs=some rs) (hc:EA H rs css) (hcs:css=ys.map enc) (henc:∀z,(enc z).length=sz) (hsz:Nat.blt 0 sz=true) (hle:Nat.ble (len*sz) 16777216=true) (hn:Nat.blt d n=true)
  (h:∀b,WL P n c ops Q rest ((d,rv (.slice (some ⟨b,0,none⟩) len len))::l) (.row (.slice (some ⟨b,0,none⟩) len len) e sz (ys.map enc)::H)) :
  WL P n c ops Q ({ dst:=some d,op:=.buildSlice t len parts,type:=ty,pos:=pos,after:=af,guard:=none }::rest) l H:=
 GI (λa w Z ha hw=>by
  have hall:=E5 ha hv;obtain⟨h1,h2,h3⟩:=hc.all hw hall;have hsz':0<sz:=by simpa using hsz
  have hle' : ¬ 16777216<len*sz:=by simpa using hle
  have hxl:(xs.map a.eval).length=len:=by rw[← h2,hcs,K9,hlen]
  have hcell:∀v∈xs.map a.eval,v.cells.size=sz:=λv hv'=>by
   obtain⟨i,hi⟩:=List.getElem?_of_mem hv';have hil:=(List.getElem?_eq_some_iff.1 hi).1;have hil2:i<css.length:=by omega
   rw[h3 i css[i] v (Kx hil2) hi];have:css[i]∈ys.map enc:=by rw[← hcs];exact List.getElem_mem hil2
   obtain⟨z,_,hz'⟩:=List.mem_map.1 this;rw[← hz'];exact henc z
  have hflen:((xs.map a.eval).flatMap λv=>v.cells.toList).length=len*sz:=by
   rw[h1.length,C8 (sz:=sz) (λc hc'=>by rw[hcs] at hc';obtain⟨z,_,hz'⟩:=List.mem_map.1 hc';rw[← hz'];exact henc z),hcs,K9,hlen]
  have hpe:(parts.map λ(i,x)=>(i,a.eval x)).toList=((xs.map a.eval).zipIdx 0).map λp=>(p.2,p.1):=by
   rw[Array.toList_map,hparts,List.zipIdx_map,List.map_map,List.map_map];rfl
  have hrun:(Instr.buildSlice t len (parts.map λ(i,x)=>(i,a.eval x))).run P w = .ok (.slice (some ⟨w.heap.size,0,none⟩) len len) (w.alloc (.cells ((xs.map a.eval).flatMap λv=>v.cells.toList).toArray e)):=by
   refine Jg ht hz hzv hle w ?_;rw[hpe]
   by_cases h0:len*sz=0
   ·have:len=0:=by
     rcases Nat.mul_eq_zero.1 h0 with h | h
     ·exact h
     ·omega
    subst this;have hx0:xs=[]:=by simpa using KD (by simpa using hxl)
    subst hx0;simp[Instr.fill]
   ·simp only[h0,K3];exact Great.fill_whole hsz' (xs.map a.eval) _ hcell (by rw[hxl];simp)
  refine⟨_,w.alloc (.cells ((xs.map a.eval).flatMap λv=>v.cells.toList).toArray e),_,_,Z,by simp[execOp,hrun],Fz.le.refl _,rfl,
   hw.alloc _ (e:=.row (.slice (some ⟨w.heap.size,0,none⟩) len len) e sz (ys.map enc)) ⟨?_,(xs.map a.eval).flatMap (λv=>v.cells.toList),⟨?_,.inr ⟨w.heap.size,len,_,?_,KI _,heap_alloc_new w _,?_,?_,?_,?_⟩⟩,?_⟩ (by simp[Ent.foot,Value.ownBlock]),h w.heap.size⟩
  ·intro cl hcl;obtain⟨z,_,hz'⟩:=List.mem_map.1 hcl;rw[← hz'];exact henc z
  ·rw[hflen,K9,hlen]
  ·rw[K9,hlen]
  ·rw[K9,hlen];exact KF _
  ·have:len≤len*sz:=Nat.le_mul_of_pos_right _ hsz';simp only[maxLen];omega
  ·simpa using hflen
  ·rw[K9,hlen,← hflen];exact List.take_length
  ·rw[← hcs];exact h1) hn
theorem GF.rds {α:Type}{ys:List α}{enc:α→List Rp}{Z:Fz}{w:World}(hf:Ii Z w)(h:GF sz (ys.map enc) Z v)(hsz:0<sz):∃us:List Value,Aw Z (ys.map enc).flatten us∧J5 sz w v ys.length us:=by
 obtain⟨A,cap,rfl,_,_,hA,hc⟩:=h;have hl:∀c∈ys.map enc,c.length=sz:=λc hm=>by
  obtain⟨i,hi⟩:=List.getElem?_of_mem hm;exact(hc i c hi).1
 cases A with
 | none=>
  have:ys=[]:=by
   cases ys with
   | nil=>rfl
   | cons y r=>obtain⟨_,a,h,_⟩:=hc 0 (enc y) (by simp);cases h
  subst this;rw[hA rfl];exact⟨[],trivial,by simp,.inl ⟨rfl,rfl⟩⟩
 | some a=>
  obtain⟨us,h1,h2⟩:=Eq (Z:=Z) (cs:=(ys.map enc).flatten) (f:=λj=>Cz Z a.block (a.off+j)) (λj r hj=>by
   have hjl:j<ys.length*sz:=by
    have:=C8 hl;rw[K9] at this;rw[← this];exact(List.getElem?_eq_some_iff.1 hj).1
   have hq:j/sz<(ys.map enc).length:=by rw[K9,Nat.div_lt_iff_lt_mul hsz];exact hjl
   have hr:j % sz<sz:=Nat.mod_lt _ hsz;obtain⟨hcl,a',e1,hsp,hcell⟩:=hc (j/sz) (ys.map enc)[j/sz] (Kx hq);simp only[Option.some.injEq] at e1;subst e1;have hdm:j/sz*sz+j % sz=j:=by rw[Nat.mul_comm];exact Nat.div_add_mod j sz
   have hlt:j % sz<((ys.map enc)[j/sz]).length:=by omega
   have h3:=CY hl (Kx hq) (Kx hlt);rw[hdm,hj] at h3;simp only[Option.some.injEq] at h3;obtain⟨u,hu,hp⟩:=hcell (j % sz) _ (Kx hlt);rw[hdm] at hu;exact⟨u,hu,by rw[h3];exact hp⟩)
  refine⟨us,h1,?_,.inr ⟨a,cap,by simp,λj u hj=>?_⟩⟩
  ·rw[h1.length,C8 hl,K9]
  ·have hjl:j<us.length:=(List.getElem?_eq_some_iff.1 hj).1;have h3:=D4 hf (h2 j u hj);have hsp:a.spot=none:=by
    cases ys with
    | nil=>have:=h1.length;simp at this;subst this;simp at hjl
    | cons y r=>obtain⟨_,a',e1,hs,_⟩:=hc 0 (enc y) (by simp);simp at e1;subst e1;exact hs
   obtain⟨b,off,spot⟩:=a;simp only at hsp;subst hsp;rw[EX];exact h3
def Ic (P:Program)(n:Nat)(c:Cx)(l:Fr)(H:List Ent)(y:Operand)(sz:Nat)(k:Nat)(cs:List Rp):Prop:=∀a w Z,AU n l a Z→St c H Z w→∃us,Aw Z cs us∧J5 sz w (a.eval y) k us
theorem Ic.z {α:Type}{ys:List α}{enc:α→List Rp}(h:ev l y=some (Bk sz (ys.map enc)))(hsz:Nat.blt 0 sz=true):Ic P n c l H y sz ys.length (ys.map enc).flatten:=λa w Z ha hw=>GF.rds hw.frz (ha.ev h) (by simpa using hsz)
theorem Ic.nil (h:ev l y=some (rv (.slice none 0 0))):Ic P n c l H y sz 0 []:=λa w Z ha hw=>⟨[],trivial,by simp,.inl ⟨ha.eval h,rfl⟩⟩
theorem Ic.w {α:Type}{ys:List α}{enc:α→List Rp}{i:Nat}(h:ev l y=some (rv v))(hi:H[i]? =some (.row v e sz (ys.map enc))):Ic P n c l H y sz ys.length (ys.map enc).flatten:=λa w Z ha hw=>by
 obtain⟨h0,us,h1,h2⟩:=hw.ent hi;refine⟨us,h2,?_⟩;rw[ha.eval h];have:=J5.of_row (w:=w) (v:=v) (e:=e) (sz:=sz) (m:=(ys.map enc).length) (xs:=us) h1;simpa using this
theorem C0 {α:Type}{xs ys:List α}{enc:α→List Rp}{i:Nat}{inf:TypeInfo}{z:Value}{bytes:Nat}(ht:P.underlying t=some (.slice e))(hinf:P.info? e=some inf)(hz:inf.zero=some z)(hsize:inf.size=sz)(hby:inf.bytes=bytes)(hzs:z.cells.size=sz)(hsz:Nat.blt 0 sz=true)(hbp:Nat.blt 0 bytes=true)
  (hx:ev l x=some (rv v)) (hi:H[i]? =some (.row v e sz (xs.map enc))) (hy:Ic P n c l H y sz ys.length (ys.map enc).flatten) (henc:∀z,(enc z).length=sz) (hone:∀z,(enc z).all (·.one)=true) (hg:I4 bytes (xs.length+ys.length)=true) (hn:Nat.blt d n=true)
  (h:∀v',WL P n c ops Q rest ((d,rv v')::l) (.row v' e sz ((xs++ys).map enc)::H.eraseIdx i)) :
  WL P n c ops Q ({ dst:=some d,op:=.call { callee:=.builtin .append,args:=#[x,y],argTypes:=#[t,t] },type:=ty,pos:=pos,after:=af,guard:=none }::rest) l H:=
 GI (λa w Z ha hw=>by
  obtain⟨h0,us,h1,h2⟩:=hw.ent hi;obtain⟨ws,h3,h4⟩:=hy a w Z ha hw;have hsz':0<sz:=by simpa using hsz
  have hbp':0<bytes:=by simpa using hbp
  have hb:(xs.length+ys.length)*bytes≤140737488355328:=by simpa[I4] using hg
  have hle:xs.length+ys.length≤(xs.length+ys.length)*bytes:=Nat.le_mul_of_pos_right _ hbp';have hws:∀y∈ws,y.oneCell'=true:=Aw.one (rs:=(ys.map enc).flatten) (by
   rw[List.all_eq_true];intro r hr;obtain⟨cl,hcl,hrc⟩:=List.mem_flatten.1 hr;obtain⟨z',_,rfl⟩:=List.mem_map.1 hcl;exact List.all_eq_true.1 (hone z') r hrc) h3
  have hxl:(xs.map enc).length=xs.length:=K9 ..;rw[hxl] at h1;obtain⟨v',w',e1,e2,e3,e4⟩:=CE (P:=P) ty ht hinf hz hsize hby hzs hsz' h1 h4 hws hb (by simp only[maxLen];omega);have hent:(Ent.row v' e sz ((xs++ys).map enc)).holds Z w':=⟨λcl hcl=>by obtain⟨z',_,rfl⟩:=List.mem_map.1 hcl;exact henc z',us++ws,by simpa using e2,by rw[List.map_append,List.flatten_append];exact h2.append h3⟩
  have hst:=hw.callF hi (St.one (e':=.row v' e sz ((xs++ys).map enc)) (M:=(Ent.row v e sz (xs.map enc)).foot) hw.frz hw.env hw.emono e3.os e3.tape e3.output e3.size (λk hk hne=>e3.block k hk (λe1=>hne (by simp[Ent.foot,← e1])))
   (hw.zdis _ (KG hi)) hent (λk hk=>by
    simp only[Ent.foot,Option.mem_toList] at hk ⊢;rcases e4 with e4 | e4
    ·exact .inl (e4▸hk)
    ·exact .inr (e4 k hk)))
  exact⟨v',w',rv v',_,Z,by simp[execOp,resolve,invoke,builtin,ha.eval hx,e1],Fz.le.refl _,rfl,hst,h v'⟩) hn
theorem Gj {α:Type}{ys:List α}{enc:α→List Rp}{k:IntKind}{i:Int}(ht:P.underlying t=some (.slice e))(hz:∀w,(sizeOf e).run P w = .ok sz w)(h:ev l x=some (Bk sz (ys.map enc)))(hi:ev l y=some (rI k i))(hg:Ih i (ys.length:Int)=true) :
  A3 P n c l H { dst:=d',op:=.slice t x (some y) none none,type:=ty,pos:=pos,after:=af,guard:=g } (Bk sz ((ys.drop i.toNat).map enc)):=λa w Z ha hw=>by
 obtain⟨A,cap,e1,hc1,hc2,hA,hc⟩:=ha.ev h;have h0:=(BQ hg).1;have h1:=(BQ hg).2;simp only[K9] at e1 hc1;refine⟨.slice (if cap=i.toNat then A else A.map (·.add (i.toNat*sz))) (ys.length-i.toNat) (cap-i.toNat),⟨if cap=i.toNat then A else A.map (·.add (i.toNat*sz)),cap-i.toNat,?_,?_,by omega,?_,λq cl hq=>?_⟩,by simp[execOp,e1,ha.eval hi,Instr.sliceAt,Instr.slice,run_underlying ht,Instr.sliceBounds,AO (m:=ys.length) _ _ h0 h1,hz]⟩
 ·congr 1
  simp
 ·simp;omega
 ·intro hn
  split at hn
  ·have:=hA hn;omega
  ·have:=hA (by simpa using hn);omega
 ·rw[List.getElem?_map,List.getElem?_drop] at hq
  cases hq':ys[i.toNat+q]? with
  | none=>rw[hq'] at hq;cases hq
  | some yy=>
   rw[hq'] at hq;simp only[Option.map_some,Option.some.injEq] at hq;subst hq;have hlt:=(List.getElem?_eq_some_iff.1 hq').1;obtain⟨hl,ad,rfl,hs,hcs⟩:=hc (i.toNat+q) (enc yy) (by simp[hq']);obtain⟨b,off,spot⟩:=ad;simp only at hs;subst hs;have hne : ¬ cap=i.toNat:=by omega
   refine⟨hl,⟨b,off+i.toNat*sz,none⟩,by simp[hne,EX],rfl,λq' r' hr'=>?_⟩;obtain⟨u,hu,hp⟩:=hcs q' r' hr';refine⟨u,?_,hp⟩;have:off+i.toNat*sz+(q*sz+q')=off+((i.toNat+q)*sz+q'):=by rw[Nat.add_mul];omega
   simp only;rw[this];exact hu
@[reducible] def Db (x:Int):List Rp:=[rI .u8 x]
@[reducible] def eS (x:Ay):List Rp:=[rS x]
theorem Cs (x:Ay):(eS x).length=1:=rfl
theorem E6 (x:Ay):(eS x).all (·.one)=true:=rfl
end
section
variable (P : Program) (n : Nat) (c : Cx) (ops : Array Oper) (Q : Exit → Act → World → Prop)
def C5 (l:Fr)(H:List Ent)(o:Oper)(r:Rp)(H':List Ent):Prop:=
 ∀a w Z (K:Act→World→Prop),AU n l a Z→St c H Z w→(∀v w' Z',Fz.le Z Z'→r.p Z' v→St c H' Z' w'→K (a.put o.dst v) w')→
  (Region.wanted o (yielded ops a.tmps)=true→o.wp P a w K Q)∧(Region.wanted o (yielded ops a.tmps)=false→K (a.put o.dst undef) w)
end
def J4 (l' l:Fr):Prop:=∀i v,look l' i=some v→∃q,look l i=some q∧GG q v
theorem AU.subL {n:Nat}{a:Act}{Z:Fz}{l l':Fr}(h:AU n l a Z)(hs:J4 l' l):AU n l' a Z:=⟨h.size,h.defers,λi v hi=>by
 obtain⟨q,hq,hle⟩:=hs i v hi;obtain⟨u,hu,hp⟩:=h.tm i q hq;exact⟨u,hu,hle Z u hp⟩⟩
structure Kp (ks:List Nat) (l l':Fr):Prop where
 one:J4 l' l
 two:∀i v,look l' i=some v→ks.contains i=true
theorem I2 {ks:List Nat}:Kp ks [] []:=⟨λi v h=>by simp[look] at h,λi v h=>by simp[look] at h⟩
theorem HG {ks:List Nat}{i:Nat}{r:Rp}{l l':Fr}(h:ks.contains i=true)(t:Kp ks l l'):Kp ks ((i,r)::l) ((i,r)::l'):=by
 refine⟨λj v hj=>?_,λj v hj=>?_⟩
 ·rw[AH] at hj ⊢
  split at hj
  ·rename_i e;rw[if_pos e];simp at hj;subst hj;exact⟨r,rfl,GG.refl r⟩
  ·rename_i e;rw[if_neg e];exact t.one j v hj
 ·rw[AH] at hj
  split at hj
  ·rename_i e;subst e;exact h
  ·exact t.two j v hj
theorem HH {ks:List Nat}{i:Nat}{r:Rp}{l l':Fr}(h:ks.contains i=false)(t:Kp ks l l'):Kp ks ((i,r)::l) l':=by
 refine⟨λj v hj=>?_,t.two⟩;rw[AH]
 by_cases e:i=j
 ·subst e;rw[t.two i v hj] at h;cases h
 ·rw[if_neg e];exact t.one j v hj
structure Sp where
 deps:List Nat
 r:Rp
 kd:Nat
def Bs (sp:List Sp)(i:Nat):Sp:=sp.getD i ⟨[],rv undef,0⟩
def Ci (ops:List Oper)(i:Nat):Option Nat:=(ops[i]?).bind (·.dst)
def AM (ops:List Oper)(sp:List Sp):List Nat→Fr→Fr
 | [],l=>l
 | j::r,l=>match Ci ops j with
  | some d=>(d,(Bs sp j).r)::AM ops sp r l
  | none=>AM ops sp r l
def DL (o:Oper):List Nat:=(o.after.toList.filter (Region.binds .any)).map (·.on)
def Gq:List Oper→List Nat→List Nat
 | [],acc=>acc
 | o::rest,acc=>Gq rest (acc++[(DL o).foldl (λs e=>s||| 2 ^ e||| acc.getD e 0) 0])
def CO (l:Fr):List Nat:=l.map (·.1)
def JQ (n:Nat)(ops:List Oper)(N:Nat)(keys:List Nat)(deps:List (List Nat))(kds:List Nat):Bool:=
 let cl:=Gq ops []
 (List.range ops.length).all (λi=>(DL (ops.getD i default)).all (·<i))&&
 (List.range N).all (λi=>match Ci ops i with
  | some d=>decide (d<n)&&!keys.contains d&&(List.range N).all (λj=>j ==i||Ci ops j !=some d)
  | none=>true)&&
 (List.range N).all (λi=>(deps.getD i []).all (λj=>(DL (ops.getD i default)).contains j))&&
 (List.range N).all (λi=>kds.getD i 0 ==0||(List.range N).all (λj=>kds.getD j 0 !=2||j ==i||(if j<i then(cl.getD i 0).testBit j else(cl.getD j 0).testBit i)))&&
 (List.range ops.length).all (λi=>i<N||(List.range N).all (λj=>(cl.getD i 0).testBit j))&&ops.length≤N+1&&kds.all (·≤2)
section
variable {P : Program} {n : Nat} {c : Cx} {opsA : Array Oper} {Q : Exit → Act → World → Prop}
theorem CA (ops:List Oper)(F:Nat→Prop):∀(rest:List Oper) (acc:List Nat),(∀(t:Nat) o,rest[t]? =some o→∀e∈DL o,F (acc.length+t)→F e)→
  (∀(j i:Nat),(acc.getD j 0).testBit i=true→F j→F i)→∀(j i:Nat),((Gq rest acc).getD j 0).testBit i=true→F j→F i
 | [],acc,_,h=>h
 | o::rest,acc,hr,h=>by
  unfold Gq;refine CA ops F rest _ (λt o' ht e he hF=>hr (t+1) o' (by simpa using ht) e he (by simpa[Nat.add_assoc,Nat.add_comm 1 t] using hF)) (λj i hb hF=>?_)
  by_cases hj:j<acc.length
  ·refine h j i ?_ hF;simpa[List.getElem?_append_left hj] using hb
  ·by_cases hj2:j=acc.length
   ·subst hj2;simp only[KB,List.getElem?_append_right (KF _),Nat.sub_self,List.getElem?_cons_zero,Option.getD_some] at hb;have key:∀(es:List Nat) (s0:Nat),(es.foldl (λs e=>s||| 2 ^ e||| acc.getD e 0) s0).testBit i=true→s0.testBit i=true∨∃e∈es,e=i∨(acc.getD e 0).testBit i=true:=by
     intro es
     induction es with
     | nil=>intro s0 h0;exact .inl h0
     | cons e es ih=>
      intro s0 h0;rcases ih _ h0 with h1 | ⟨e',he',h1⟩
      ·simp only[Nat.testBit_or,K6,Nat.testBit_two_pow,Kk] at h1;rcases h1 with(h1 | h1) | h1
       ·exact .inl h1
       ·exact .inr ⟨e,by simp,.inl h1⟩
       ·exact .inr ⟨e,by simp,.inr h1⟩
      ·exact .inr ⟨e',by simp[he'],h1⟩
    rcases key (DL o) 0 hb with h0 | ⟨e,he,h1 | h1⟩
    ·simp at h0
    ·subst h1;exact hr 0 o rfl e he (by simpa using hF)
    ·exact h e i h1 (hr 0 o rfl e he (by simpa using hF))
   ·have:(acc++[(DL o).foldl (λs e=>s||| 2 ^ e||| acc.getD e 0) 0]).getD j 0=0:=by
     rw[KB,List.getElem?_eq_none (by simp;omega)];rfl
    rw[this] at hb;simp at hb
def Er (P:Program)(n:Nat)(c:Cx)(opsA:Array Oper)(Q:Exit→Act→World→Prop)(ops:List Oper)(sp:List Sp)(l0:Fr):Nat→List Oper→List (List Ent)→Prop
 | i,o::rest,H::H'::Hs=>
  (match (Bs sp i).kd with
   | 0=>H'=H∧∀H,C5 P n c opsA Q (AM ops sp (Bs sp i).deps l0) H o (Bs sp i).r H
   | 1=>H'=H∧C5 P n c opsA Q (AM ops sp (Bs sp i).deps l0) H o (Bs sp i).r H
   | _=>C5 P n c opsA Q (AM ops sp (Bs sp i).deps l0) H o (Bs sp i).r H')∧Er P n c opsA Q ops sp l0 (i+1) rest (H'::Hs)
 | _,[],[_]=>True
 | _,_,_=>False
theorem Er.at {ops:List Oper}{sp:List Sp}{l0:Fr}:∀{k:Nat} {rest:List Oper} {Hs:List (List Ent)},Er P n c opsA Q ops sp l0 k rest Hs→Hs.length=rest.length+1∧∀(t:Nat) o,rest[t]? =some o→
  (match (Bs sp (k+t)).kd with
   | 0=>Hs.getD (t+1) []=Hs.getD t []∧∀H,C5 P n c opsA Q (AM ops sp (Bs sp (k+t)).deps l0) H o (Bs sp (k+t)).r H
   | 1=>Hs.getD (t+1) []=Hs.getD t []∧C5 P n c opsA Q (AM ops sp (Bs sp (k+t)).deps l0) (Hs.getD t []) o (Bs sp (k+t)).r (Hs.getD t [])
   | _=>C5 P n c opsA Q (AM ops sp (Bs sp (k+t)).deps l0) (Hs.getD t []) o (Bs sp (k+t)).r (Hs.getD (t+1) []))
 | k,o::rest,H::H'::Hs,⟨h1,h2⟩=>by
  obtain⟨hl,ih⟩:=Er.at h2;refine⟨by simp at hl ⊢;omega,λt o' ht=>?_⟩
  cases t with
  | zero=>simp at ht;subst ht;simpa using h1
  | succ t=>
   have:=ih t o' (by simpa using ht);rw[show k+(t+1)=k+1+t from by omega];simpa using this
 | _,[],[_],_=>⟨rfl,λt o h=>by simp at h⟩
theorem EU:∀{l:Fr} {i:Nat} {r:Rp},look l i=some r→i∈CO l
 | [],i,r,h=>by simp[look] at h
 | p::l,i,r,h=>by
  obtain⟨j,u⟩:=p;rw[AH] at h
  split at h
  ·rename_i e;subst e;simp[CO]
  ·simp only[CO,List.map_cons,List.mem_cons];exact .inr (EU h)
theorem E8 {ops:List Oper}{sp:List Sp}{l0:Fr}{a:Act}{Z:Fz}(h0:AU n l0 a Z):∀{ds:List Nat},(∀j∈ds,∀d,Ci ops j=some d→∃v,a.tmps[d]? =some v∧(Bs sp j).r.p Z v)→AU n (AM ops sp ds l0) a Z
 | [],_=>h0
 | j::ds,h=>by
  have ih:=E8 h0 (ds:=ds) (λj' hj'=>h j' (by simp[hj']));unfold AM
  cases hd:Ci ops j with
  | none=>exact ih
  | some d=>
   refine⟨ih.size,ih.defers,λi r hi=>?_⟩;rw[AH] at hi
   split at hi
   ·rename_i e;subst e;simp at hi;subst hi;exact h j (by simp) d hd
   ·exact ih.tm i r hi
theorem EE {id:Nat}{pre last:List Oper}(sp:List Sp)(Hs:List (List Ent)){l0 l:Fr}{H:List Ent}(hm:P.follows .mixedOrders=true)
  (hB:JQ n (pre++last) pre.length (CO l0) (sp.map (·.deps)) (sp.map (·.kd))=true) (hl0:J4 l0 l) (hsp:sp.length=pre.length) (hH:Hs.getD 0 []=H)
  (hob:Er P n c (pre++last).toArray Q (pre++last) sp l0 0 pre Hs)
  (h:WL P n c (pre++last).toArray Q last (AM (pre++last) sp (List.range pre.length) l0) (Hs.getD pre.length [])):WC P n c (.region id (pre++last).toArray true) Q l H:=by
 intro a w Z ha hw;generalize hops:pre++last=ops at *;obtain⟨hHl,hat⟩:=hob.at;simp only[JQ,K0,List.all_eq_true,List.mem_range,Kk] at hB;obtain⟨⟨⟨⟨⟨⟨b1,b2⟩,b3⟩,b4⟩,b5⟩,b6⟩,b7⟩:=hB;have hN:pre.length≤ops.length:=by rw[← hops];simp
 have hget:∀i,i<pre.length→ops[i]? =pre[i]?:=λi hi=>by rw[← hops,List.getElem?_append_left hi]
 have hkd:∀i,i<pre.length→(sp.map (·.kd)).getD i 0=(Bs sp i).kd:=λi hi=>by
  simp[Bs,KB,List.getElem?_map,Kx (show i<sp.length by omega)]
 have hdp:∀i,i<pre.length→(sp.map (·.deps)).getD i []=(Bs sp i).deps:=λi hi=>by
  simp[Bs,KB,List.getElem?_map,Kx (show i<sp.length by omega)]
 have hconst:∀(k b:Nat),b+k≤pre.length→(∀j,b≤j→j<b+k→(Bs sp j).kd≠2)→Hs.getD (b+k) []=Hs.getD b []:=by
  intro k
  induction k with
  | zero=>intro b _ _;rfl
  | succ k ih=>
   intro b hb hj;have hlt:b+k<pre.length:=by omega
   have h1:=hat (b+k) pre[b+k] (Kx hlt);rw[Nat.zero_add] at h1;have hk2:(Bs sp (b+k)).kd≤2:=by
    have:=b7 ((sp.map (·.kd)).getD (b+k) 0) (by
     rw[KB,Kx (by simp;omega)];exact List.getElem_mem _)
    rw[hkd _ hlt] at this;exact this
   have hne:=hj (b+k) (by omega) (by omega);have e1:Hs.getD (b+k+1) []=Hs.getD (b+k) []:=by
    match hq:(Bs sp (b+k)).kd,h1 with
    | 0,h1=>exact h1.1
    | 1,h1=>exact h1.1
    | 2,_=>exact absurd hq hne
    | q+3,_=>omega
   rw[show b+(k+1)=b+k+1 from by omega,e1];exact ih b (by omega) (λj h1 h2=>hj j h1 (by omega))
 refine wp_region_any hm ?_;have main:∀(fuel:Nat) (listed:Array Bool) (a:Act) (w:World) (Z:Fz) (m:Nat),listed.size=ops.length→listed.toList.count false=fuel→m≤pre.length→
   St c (Hs.getD m []) Z w→AU n l0 a Z→(∀j,j<pre.length→listed.getD j true=true→∀d,Ci ops j=some d→∃v,a.tmps[d]? =some v∧(Bs sp j).r.p Z v)→
   (∀j,j<pre.length→(Bs sp j).kd=2→(listed.getD j true=true↔j<m))→(∀j o,ops[j]? =some o→listed.getD j true=true→∀e∈DL o,listed.getD e true=true)→
   (∀j,pre.length≤j→j<ops.length→listed.getD j true=false)→wpAny P .any ops.toArray Q fuel listed a w:=by
  have rdy:∀(listed:Array Bool),listed.size=ops.length→Region.ready .any ops.toArray listed=[]→∀j,j<ops.length→listed.getD j true=true:=by
   intro listed hsz hr j
   induction j using Nat.strongRecOn with
   | ind j ih=>
    intro hj
    cases hb:listed.getD j true with
    | true=>rfl
    | false=>
     have:j∈Region.ready .any ops.toArray listed:=mem_ready.2 ⟨hb,ops[j],by simp[hj],λe he hbn=>by
      have h1:=b1 j hj;rw[KB,Kx hj] at h1;have hlt:e.on<j:=h1 e.on (by
       simp only[DL,Option.getD_some,List.mem_map,List.mem_filter];exact⟨e,⟨by simpa using he,hbn⟩,rfl⟩)
      have:=ih e.on hlt (by omega);rw[Array.getD_eq_getD_getElem?] at this ⊢;rw[Array.getElem?_eq_getElem (by omega)] at this ⊢;simpa using this⟩
     rw[hr] at this;cases this
  have fin:∀(listed:Array Bool) (a:Act) (w:World) (Z:Fz) (m:Nat),listed.size=ops.length→m≤pre.length→St c (Hs.getD m []) Z w→AU n l0 a Z→(∀j,j<pre.length→listed.getD j true=true)→
    (∀j,j<pre.length→listed.getD j true=true→∀d,Ci ops j=some d→∃v,a.tmps[d]? =some v∧(Bs sp j).r.p Z v)→
    (∀j,j<pre.length→(Bs sp j).kd=2→(listed.getD j true=true↔j<m))→wpList P ops.toArray Q last a w:=by
   intro listed a w Z m hsz hmN hst hag hall hv hloud;refine h a w Z (E8 hag (λj hj d hd=>hv j (by simpa using hj) (hall j (by simpa using hj)) d hd)) ?_;have:=hconst (pre.length-m) m (by omega) (λj h1 h2 h3=>by
    have:=(hloud j (by omega) h3).1 (hall j (by omega));omega)
   rw[show m+(pre.length-m)=pre.length from by omega] at this;rw[this];exact hst
  intro fuel
  induction fuel with
  | zero=>
   intro listed a w Z m hsz hcnt hmN hst hag hv hloud hcl hlast;have hall:∀j,j<ops.length→listed.getD j true=true:=λj hj=>by
    cases hb:listed.getD j true with
    | true=>rfl
    | false=>
     have:false∈listed.toList:=by
      rw[Array.getD_eq_getD_getElem?,Array.getElem?_eq_getElem (by omega)] at hb;simp at hb;rw[← hb];simp
     have:=List.count_pos_iff.2 this;omega
   have hl0':last=[]:=by
    cases last with
    | nil=>rfl
    | cons o r=>
     have hlt:pre.length<ops.length:=by rw[← hops];simp
     have:=hall pre.length hlt;rw[hlast pre.length (KF _) hlt] at this;cases this
   subst hl0';refine⟨?_,fin listed a w Z m hsz hmN hst hag (λj hj=>hall j (by omega)) hv hloud⟩
   cases hr:Region.ready .any ops.toArray listed with
   | nil=>rfl
   | cons i r=>
    have hi:i∈Region.ready .any ops.toArray listed:=by rw[hr];simp
    obtain⟨h1,o,ho,_⟩:=mem_ready.1 hi;rw[hall i (by have:=(Array.getElem?_eq_some_iff.1 ho).1;simpa using this)] at h1;cases h1
  | succ fuel ih=>
   intro listed a w Z m hsz hcnt hmN hst hag hv hloud hcl hlast;have clo:∀(j i:Nat),((Gq ops []).getD j 0).testBit i=true→listed.getD j true=true→listed.getD i true=true:=
    CA ops (λi=>listed.getD i true=true) ops [] (λt o ht e he hF=>hcl t o ht (by simpa using hF) e he) (λj i hb=>by simp at hb)
   refine⟨λhr=>?_,λi hi=>?_⟩
   ·have hall:=rdy listed hsz hr;have:listed.toList.count false=0:=by
     rw[List.count_eq_zero];intro hmem;obtain⟨k,hk⟩:=List.getElem?_of_mem hmem;have hkl:=(List.getElem?_eq_some_iff.1 hk).1;have:=hall k (by simpa[hsz] using hkl);rw[Array.getD_eq_getD_getElem?] at this;simp at hk this;rw[hk] at this;simp at this
    omega
   ·obtain⟨hun,o,ho,haft⟩:=mem_ready.1 hi;have ho':ops[i]? =some o:=by simpa using ho
    have hil:i<ops.length:=(List.getElem?_eq_some_iff.1 ho').1;have hbl:∀e∈DL o,listed.getD e true=true:=λe he=>by
     simp only[DL,List.mem_map,List.mem_filter] at he;obtain⟨x,⟨hx1,hx2⟩,rfl⟩:=he;have h3:=haft x (by simpa using hx1) hx2;rw[Array.getD_eq_getD_getElem?] at h3 ⊢
     cases hq:listed[x.on]? with
     | none=>rw[hq] at h3;cases h3
     | some b=>rw[hq] at h3;simpa using h3
    have hset:∀j,(listed.setIfInBounds i true).getD j true=true↔(j=i∨listed.getD j true=true):=λj=>by
     by_cases hj:i=j
     ·subst hj;have:i<listed.size:=by omega
      simp[this]
     ·rw[getD_set_ne true hj];constructor
      ·exact .inr
      ·rintro(h1 | h1)
       ·exact absurd h1.symm hj
       ·exact h1
    have hsz':(listed.setIfInBounds i true).size=ops.length:=by simpa using hsz
    have hcnt':(listed.setIfInBounds i true).toList.count false=fuel:=by
     have hlt:i<listed.size:=by omega
     have hfi:listed.toList[i]? =some false:=by
      rw[Array.getD_eq_getD_getElem?,Array.getElem?_eq_getElem hlt] at hun;simp at hun;simp[hlt,hun]
     rw[Array.toList_setIfInBounds];have h1:=List.count_set (a:=true) (b:=false) (l:=listed.toList) (i:=i) (by simpa using hlt);have h2:listed.toList[i]'(by simpa using hlt)=false:=by
      have:=List.getElem?_eq_some_iff.1 hfi;exact this.2
     rw[h1,h2,hcnt];rfl
    have hcl':∀j o,ops[j]? =some o→(listed.setIfInBounds i true).getD j true=true→∀e∈DL o,(listed.setIfInBounds i true).getD e true=true:=λj o' hj hl e he=>by
     rw[hset] at hl ⊢;rcases hl with rfl | hl
     ·rw[ho'] at hj;simp at hj;subst hj;exact .inr (hbl e he)
     ·exact .inr (hcl j o' hj hl e he)
    unfold wpOp;have hoA:ops.toArray[i]? =some o:=ho;simp only[hoA]
    by_cases hiN:i<pre.length
    · -- one of those at the front
     have hpre:pre[i]? =some o:=by rw[← hget i hiN];exact ho'
     have h1:=hat i o hpre;rw[Nat.zero_add] at h1;have hag':AU n (AM ops sp (Bs sp i).deps l0) a Z:=E8 hag (λj hj d hd=>by
      have h3:=b3 i hiN;rw[hdp i hiN] at h3;have h4:=h3 j hj;rw[KB,ho',Option.getD_some,List.contains_iff_mem] at h4;have hlj:=hbl j h4;have hji:j<i:=by
       have:=b1 i hil;rw[KB,ho',Option.getD_some] at this;exact this j h4
      exact hv j (by omega) hlj d hd)
     have hdst:∀d,o.dst=some d→(d<n∧d ∉ CO l0)∧∀j,j<pre.length→j≠i→Ci ops j≠some d:=λd hd=>by
      have h3:=b2 i hiN;have:Ci ops i=some d:=by simp[Ci,ho',hd]
      rw[this] at h3;simp only[K0,KC,List.all_eq_true,List.mem_range,Kk] at h3;refine⟨⟨h3.1.1,λhmem=>by rw[← List.contains_iff_mem] at hmem;rw[hmem] at h3;cases h3.1.2⟩,λj hj hne he=>?_⟩;have:=h3.2 j hj;simp[hne,he] at this
     have after:∀(v:Value) (w':World) (Z':Fz) (m':Nat),m'≤pre.length→Fz.le Z Z'→(o.dst≠none→(Bs sp i).r.p Z' v)→St c (Hs.getD m' []) Z' w'→
       (∀j,j<pre.length→(Bs sp j).kd=2→((listed.setIfInBounds i true).getD j true=true↔j<m'))→wpAny P .any ops.toArray Q fuel (listed.setIfInBounds i true) (a.put o.dst v) w':=by
      intro v w' Z' m' hm' hz hp hst' hloud';have hput:∀k u,a.tmps[k]? =some u→o.dst≠some k→(a.put o.dst v).tmps[k]? =some u:=λk u hk hne=>by
       cases hd:o.dst with
       | none=>simpa[Act.put] using hk
       | some d=>
        simp only[Act.put,Array.getElem?_setIfInBounds];rw[if_neg (λe=>hne (by rw[hd,e]))];exact hk
      refine ih _ _ _ Z' m' hsz' hcnt' hm' hst' ⟨?_,?_,λk r hk=>?_⟩ (λj hj hl d hd=>?_) hloud' hcl' (λj h1 h2=>?_)
      ·cases o.dst<;>simp[Act.put,hag.size]
      ·cases o.dst<;>simp[Act.put,hag.defers]
      ·obtain⟨u,hu,hpu⟩:=hag.tm k r hk;exact⟨u,hput k u hu (λe=>(hdst k e).1.2 (EU hk)),r.mono hz hpu⟩
      ·by_cases hji:j=i
       ·subst hji;have hod:o.dst=some d:=by simpa[Ci,ho'] using hd
        refine⟨v,?_,hp (by simp[hod])⟩;have hdn:d<a.tmps.size:=by rw[hag.size];exact(hdst d hod).1.1
        simp[Act.put,hod,hdn]
       ·rw[hset] at hl;rcases hl with hl | hl
        ·exact absurd hl hji
        ·obtain⟨u,hu,hpu⟩:=hv j hj hl d hd;exact⟨u,hput d u hu (λe=>(hdst d e).2 j hj hji hd),(Bs sp j).r.mono hz hpu⟩
      ·rw[getD_set_ne true (by omega)];exact hlast j h1 h2
     have loudSame:(Bs sp i).kd≠2→∀j,j<pre.length→(Bs sp j).kd=2→((listed.setIfInBounds i true).getD j true=true↔j<m):=λhne j hj hk=>by
      rw[hset,← hloud j hj hk];constructor
      ·rintro(h1 | h1)
       ·subst h1;exact absurd hk hne
       ·exact h1
      ·exact .inr
     have level:(Bs sp i).kd≠0→Hs.getD i []=Hs.getD m []∧∀j,j<pre.length→(Bs sp j).kd=2→j≠i→(listed.getD j true=true↔j<i):=λhne=>by
      have ord:∀j,j<pre.length→(Bs sp j).kd=2→j≠i→(listed.getD j true=true↔j<i):=λj hj hk hji=>by
       have h3:=b4 i hiN;rw[hkd i hiN,K6,beq_iff_eq] at h3;rcases h3 with h3 | h3
       ·exact absurd h3 hne
       ·rw[List.all_eq_true] at h3;have h4:=h3 j (by simpa using hj);rw[hkd j hj,hk] at h4;simp only[bne_self_eq_false,Kq,K6,beq_iff_eq,hji,false_or] at h4
        by_cases hlt:j<i
        ·rw[if_pos hlt] at h4;have:listed.getD j true=true:=by
          have hcl2:∀(k q:Nat),((Gq ops []).getD k 0).testBit q=true→(k=i∨listed.getD k true=true)→(q=i∨listed.getD q true=true):=
           CA ops (λk=>k=i∨listed.getD k true=true) ops [] (λt o' ht e he hF=>by
            rcases hF with hF | hF
            ·simp at hF;subst hF;rw[ho'] at ht;simp at ht;subst ht;exact .inr (hbl e he)
            ·exact .inr (hcl t o' ht (by simpa using hF) e he)) (λj i hb=>by simp at hb)
          rcases hcl2 i j h4 (.inl rfl) with h5 | h5
          ·exact absurd h5 hji
          ·exact h5
         exact⟨λ_=>hlt,λ_=>this⟩
        ·rw[if_neg hlt] at h4;refine⟨λh5=>?_,λh5=>absurd h5 hlt⟩;have:=clo j i h4 h5;rw[this] at hun;cases hun
      refine⟨?_,ord⟩;rcases Nat.le_total m i with hmi | hmi
      ·have:=hconst (i-m) m (by omega) (λj h1 h2 h3=>by
        have h4:=(ord j (by omega) h3 (by omega)).2 (by omega);have:=(hloud j (by omega) h3).1 h4;omega)
       rw[show m+(i-m)=i from by omega] at this;exact this
      ·have:=hconst (m-i) i (by omega) (λj h1 h2 h3=>by
        have h4:=(hloud j (by omega) h3).2 (by omega)
        by_cases hji:j=i
        ·subst hji;rw[h4] at hun;cases hun
        ·have:=(ord j (by omega) h3 hji).1 h4;omega)
       rw[show i+(m-i)=m from by omega] at this;exact this.symm
     have step:∀H',C5 P n c ops.toArray Q (AM ops sp (Bs sp i).deps l0) (Hs.getD m []) o (Bs sp i).r H'→(∃m',m'≤pre.length∧H'=Hs.getD m' []∧∀j,j<pre.length→(Bs sp j).kd=2→((listed.setIfInBounds i true).getD j true=true↔j<m'))→
       (if Region.wanted o (yielded ops.toArray a.tmps) then o.wp P a w (wpAny P .any ops.toArray Q fuel (listed.setIfInBounds i true)) Q∨(o.asks P a w∧LetsOut Q) else wpAny P .any ops.toArray Q fuel (listed.setIfInBounds i true) (a.put o.dst undef) w):=λH' hok ⟨m',hm',hHm,hl'⟩=>by
      obtain⟨k1,k2⟩:=hok a w Z (wpAny P .any ops.toArray Q fuel (listed.setIfInBounds i true)) hag' hst (λv w' Z' hz hp hs=>after v w' Z' m' hm' hz (λ_=>hp) (by rw[← hHm];exact hs) hl')
      split
      ·rename_i hw';exact .inl (k1 hw')
      ·rename_i hw';exact k2 (by simpa using hw')
     have hk2:(Bs sp i).kd≤2:=by
      have:=b7 ((sp.map (·.kd)).getD i 0) (by
       rw[KB,Kx (by simp;omega)];exact List.getElem_mem _)
      rw[hkd _ hiN] at this;exact this
     match hq:(Bs sp i).kd,h1 with
     | 0,h1=>exact step _ (h1.2 _) ⟨m,hmN,rfl,loudSame (by omega)⟩
     | 1,h1=>
      obtain⟨e1,e2⟩:=level (by omega);refine step _ (by rw[← e1];exact h1.2) ⟨m,hmN,e1,loudSame (by omega)⟩
     | 2,h1=>
      obtain⟨e1,e2⟩:=level (by omega);refine step _ (by rw[← e1];exact h1) ⟨i+1,by omega,rfl,λj hj hk=>?_⟩;rw[hset]
      by_cases hji:j=i
      ·subst hji;simp
      ·rw[e2 j hj hk hji];simp[hji];omega
     | q+3,_=>omega
    · -- the last one
     have hNi:i=pre.length:=by omega
     have hlast1:∃r,last=o::r:=by
      cases last with
      | nil=>rw[← hops] at hil;simp at hil;omega
      | cons o' r=>
       rw[← hops,hNi] at ho';simp at ho';exact⟨r,by rw[ho']⟩
     obtain⟨r,rfl⟩:=hlast1;have hr:r=[]:=by
      have:=b6;rw[← hops] at this;simp at this
      cases r with
      | nil=>rfl
      | cons _ _=>simp at this
     subst hr;have hall:∀j,j<pre.length→listed.getD j true=true:=λj hj=>by
      have hcl2:∀(k q:Nat),((Gq ops []).getD k 0).testBit q=true→(k=i∨listed.getD k true=true)→(q=i∨listed.getD q true=true):=
       CA ops (λk=>k=i∨listed.getD k true=true) ops [] (λt o' ht e he hF=>by
        rcases hF with hF | hF
        ·simp at hF;subst hF;rw[ho'] at ht;simp at ht;subst ht;exact .inr (hbl e he)
        ·exact .inr (hcl t o' ht (by simpa using hF) e he)) (λj i hb=>by simp at hb)
      have h5:=b5 i hil;simp only[K6,Kk,List.all_eq_true,List.mem_range] at h5;rcases h5 with h5 | h5
      ·omega
      ·rcases hcl2 i j (h5 j hj) (.inl rfl) with h6 | h6
       ·omega
       ·exact h6
     have hf:=fin listed a w Z m hsz hmN hst hag hall hv hloud;have kk:∀a' w',Q .normal a' w'→wpAny P .any ops.toArray Q fuel (listed.setIfInBounds i true) a' w':=λa' w' hq=>by
      have hall':∀j,j<ops.length→(listed.setIfInBounds i true).getD j true=true:=λj hj=>by
       rw[hset]
       by_cases hji:j=i
       ·exact .inl hji
       ·refine .inr (hall j ?_);have:ops.length=pre.length+1:=by rw[← hops];simp
        omega
      have hnr:Region.ready .any ops.toArray (listed.setIfInBounds i true)=[]:=by
       cases hr:Region.ready .any ops.toArray (listed.setIfInBounds i true) with
       | nil=>rfl
       | cons k r=>
        have hk:k∈Region.ready .any ops.toArray (listed.setIfInBounds i true):=by rw[hr];simp
        obtain⟨h1,o2,ho2,_⟩:=mem_ready.1 hk;rw[hall' k (by have:=(Array.getElem?_eq_some_iff.1 ho2).1;simpa using this)] at h1;cases h1
      cases fuel with
      | zero=>exact⟨hnr,hq⟩
      | succ f=>exact⟨λ_=>hq,λk hk=>by rw[hnr] at hk;cases hk⟩
     simp only[wpList] at hf
     split
     ·rename_i hw'
      rw[if_pos hw'] at hf;exact hf.imp (λh=>Oper.wp_mono kk h) (λh=>h)
     ·rename_i hw'
      rw[if_neg hw'] at hf;exact kk _ _ hf
 have e0:∀j,j<ops.length→(Array.replicate ops.length false).getD j true=false:=λj hj=>by simp[hj]
 have hsz0:ops.toArray.size=ops.length:=by simp
 rw[hsz0];refine main ops.length (Array.replicate ops.length false) a _ Z 0 (by simp) (by simp) (KI _) (by rw[hH];exact hw.drawn _) (ha.subL hl0) (λj hj hl=>?_) (λj hj _=>?_) (λj o hj hl=>?_) (λj _ h2=>e0 j h2)
 ·rw[e0 j (by omega)] at hl;cases hl
 ·rw[e0 j (by omega)];simp
 ·rw[e0 j (List.getElem?_eq_some_iff.1 hj).1] at hl;cases hl
section
variable {ops : List Oper} {sp : List Sp} {l0 l : Fr} {H H' : List Ent} {Hs : List (List Ent)} {i : Nat} {o : Oper} {rest all : List Oper}
theorem IM (hk:(Bs sp i).kd=0)(h:∀H,C5 P n c opsA Q (AM all sp (Bs sp i).deps l0) H o (Bs sp i).r H)(hr:Er P n c opsA Q all sp l0 (i+1) rest (H::Hs)):Er P n c opsA Q all sp l0 i (o::rest) (H::H::Hs):=by
 refine⟨?_,hr⟩;rw[hk];exact⟨rfl,h⟩
theorem JE (hk:(Bs sp i).kd=1)(h:C5 P n c opsA Q (AM all sp (Bs sp i).deps l0) H o (Bs sp i).r H)(hr:Er P n c opsA Q all sp l0 (i+1) rest (H::Hs)):Er P n c opsA Q all sp l0 i (o::rest) (H::H::Hs):=by
 refine⟨?_,hr⟩;rw[hk];exact⟨rfl,h⟩
theorem EQ:Er P n c opsA Q all sp l0 i [] [H]:=trivial
def ED:List Oper→List Sp→Fr→Fr
 | o::os,s::sp,l=>match o.dst with
  | some d=>(d,s.r)::ED os sp l
  | none=>ED os sp l
 | _,_,l=>l
theorem EC {all:List Oper}{sp:List Sp}{l0:Fr}:∀(os:List Oper) (ss:List Sp) (k:Nat),os=all.drop k→ss=sp.drop k→ss.length=os.length→AM all sp (List.range' k os.length) l0=ED os ss l0
 | [],_,_,_,_,_=>by cases ‹List Sp›<;>rfl
 | o::os,[],_,_,_,h=>by simp at h
 | o::os,s::ss,k,ho,hs,h=>by
  have e1:all[k]? =some o:=by
   have:=congrArg (·[0]?) ho;simp at this;exact this.symm
  have e2:sp[k]? =some s:=by
   have:=congrArg (·[0]?) hs;simp at this;exact this.symm
  have ih:=EC (l0:=l0) os ss (k+1) (by have:=congrArg List.tail ho;simpa using this) (by have:=congrArg List.tail hs;simpa using this) (by simpa using h);simp only[List.length_cons,List.range'_succ];unfold AM ED;rw[ih];simp only[Ci,Bs,e1,e2,Option.bind_some,KB,Option.getD_some]
  cases o.dst<;>rfl
structure Kz (ks:List Nat) (os:List Oper) (sp:List Sp) (l0 l1:Fr):Prop where
 go:Kp ks (ED os sp l0) l1
theorem JG {ks:List Nat}{d:Nat}{r:Rp}{ty:TypeId}{pos:String}{af:Array Edge}{op:Op}{g:Option (Nat×Bool)}{os:List Oper}{ds:List Nat}{kd:Nat}{sp:List Sp}{l0 l1:Fr}(h:ks.contains d=true)(t:Kz ks os sp l0 l1) :
  Kz ks ({ dst:=some d,op:=op,type:=ty,pos:=pos,after:=af,guard:=g }::os) (⟨ds,r,kd⟩::sp) l0 ((d,r)::l1):=⟨HG h t.go⟩
theorem JI {ks:List Nat}{d:Nat}{r:Rp}{ty:TypeId}{pos:String}{af:Array Edge}{op:Op}{g:Option (Nat×Bool)}{os:List Oper}{ds:List Nat}{kd:Nat}{sp:List Sp}{l0 l1:Fr}(h:ks.contains d=false)(t:Kz ks os sp l0 l1) :
  Kz ks ({ dst:=some d,op:=op,type:=ty,pos:=pos,after:=af,guard:=g }::os) (⟨ds,r,kd⟩::sp) l0 l1:=⟨HH h t.go⟩
theorem JH {ks:List Nat}{ty:TypeId}{pos:String}{af:Array Edge}{op:Op}{g:Option (Nat×Bool)}{os:List Oper}{s:Sp}{sp:List Sp}{l0 l1:Fr}(t:Kz ks os sp l0 l1) :
  Kz ks ({ dst:=none,op:=op,type:=ty,pos:=pos,after:=af,guard:=g }::os) (s::sp) l0 l1:=⟨t.go⟩
theorem JJ {ks:List Nat}{l0 l1:Fr}(t:Kp ks l0 l1):Kz ks [] [] l0 l1:=⟨t⟩
theorem IZ {id:Nat}{os:List Oper}{l0 l1:Fr}(ks0:List Nat)(sp:List Sp)(Hs:List (List Ent))(ks:List Nat){H1:List Ent}
  (hob:Er P n c os.toArray Q os sp l0 0 os Hs) (h:WK n c (Q .normal) l1 H1)
  (h0:Kp ks0 l l0:=by repeat (first | exact I2 | (apply HG;rfl) | (apply HH;rfl)))
  (hz:Kz ks os sp l0 l1:=by repeat (first | (apply JG;rfl) | (apply JI;rfl) | apply JH | apply JJ | exact I2 | (apply HG;rfl) | (apply HH;rfl)))
  (hm:P.follows .mixedOrders=true:=by kernel_rfl) (hB:JQ n os os.length (CO l0) (sp.map (·.deps)) (sp.map (·.kd))=true:=by kernel_rfl)
  (hsp:sp.length=os.length:=by rfl) (hH:Hs.getD 0 []=H:=by rfl) (hH1:Hs.getD os.length []=H1:=by rfl):WC P n c (.region id os.toArray true) Q l H:=by
 have hk:WK n c (Q .normal) (AM os sp (List.range os.length) l0) (Hs.getD os.length []):=λa w Z ha hw=>h a w Z (ha.subL (by
   have e:=EC (all:=os) (sp:=sp) (l0:=l0) os sp 0 (by simp) (by simp) hsp;rw[List.range_eq_range',e];exact hz.go.one)) (by rw[← hH1];exact hw)
 have:=EE (Q:=Q) (id:=id) (pre:=os) (last:=[]) sp Hs (l0:=l0) (l:=l) (H:=H) hm (by simpa using hB) h0.one hsp hH (by simpa using hob) (Ag (by simpa using hk));simpa using this
theorem D5 {id:Nat}{os:List Oper}{l0 l1:Fr}(ks0:List Nat)(sp:List Sp)(ks:List Nat)
  (hob:Er P n c os.toArray Q os sp l0 0 os (List.replicate (os.length+1) H)) (h:WK n c (Q .normal) l1 H)
  (h0:Kp ks0 l l0:=by repeat (first | exact I2 | (apply HG;rfl) | (apply HH;rfl)))
  (hz:Kz ks os sp l0 l1:=by repeat (first | (apply JG;rfl) | (apply JI;rfl) | apply JH | apply JJ | exact I2 | (apply HG;rfl) | (apply HH;rfl)))
  (hm:P.follows .mixedOrders=true:=by kernel_rfl) (hB:JQ n os os.length (CO l0) (sp.map (·.deps)) (sp.map (·.kd))=true:=by kernel_rfl)
  (hsp:sp.length=os.length:=by rfl):WC P n c (.region id os.toArray true) Q l H:=
 IZ ks0 sp _ ks hob h h0 hz hm hB hsp (by simp) (by simp[KB,List.getElem?_replicate])
end
section
variable {l : Fr} {H H' : List Ent} {d : Nat} {op : Op} {ty : TypeId} {pos : String} {af : Array Edge} {r : Rp}
theorem JC (hr:A3 P n c l H { dst:=some d,op:=op,type:=ty,pos:=pos,after:=af,guard:=none } r):C5 P n c opsA Q l H { dst:=some d,op:=op,type:=ty,pos:=pos,after:=af,guard:=none } r H:=λa w Z K ha hw hK=>
 ⟨λ_=>by
  obtain⟨v,hv,he⟩:=hr a w Z ha hw;unfold Oper.wp;rw[he];exact hK v w Z (Fz.le.refl _) hv hw,λh=>by simp[Region.wanted] at h⟩
theorem H7 {d:Option Nat}{j dj:Nat}{want b:Bool}(hj:Bl opsA j=some dj)(hv:look l dj=some (rB b))(hb:b=want)
  (h:C5 P n c opsA Q l H { dst:=d,op:=op,type:=ty,pos:=pos,after:=af,guard:=none } r H'):C5 P n c opsA Q l H { dst:=d,op:=op,type:=ty,pos:=pos,after:=af,guard:=some (j,want) } r H':=λa w Z K ha hw hK=>by
 obtain⟨h1,_⟩:=h a w Z K ha hw hK;have hy:=AS ha hj hv;subst hb;refine⟨λ_=>h1 (by simp[Region.wanted]),λh2=>?_⟩;simp[Region.wanted,hy] at h2
theorem Jk {d:Option Nat}{j dj:Nat}{want b:Bool}(hj:Bl opsA j=some dj)(hv:look l dj=some (rB b))(hb:b = !want):C5 P n c opsA Q l H { dst:=d,op:=op,type:=ty,pos:=pos,after:=af,guard:=some (j,want) } (rv undef) H:=λa w Z K ha hw hK=>by
 have hy:=AS ha hj hv;subst hb;refine⟨λh2=>?_,λ_=>hK undef w Z (Fz.le.refl _) rfl hw⟩;simp[Region.wanted,hy] at h2
theorem oq {all:List Oper}{sp:List Sp}{l0:Fr}{i:Nat}{rest:List Oper}{Hs:List (List Ent)}{c:Cx}
  (hr:∀{H},A3 P n c (AM all sp (Bs sp i).deps l0) H { dst:=some d,op:=op,type:=ty,pos:=pos,after:=af,guard:=none } (Bs sp i).r)
  (h:Er P n c opsA Q all sp l0 (i+1) rest (H::Hs)) (hk:(Bs sp i).kd=0:=by rfl):Er P n c opsA Q all sp l0 i ({ dst:=some d,op:=op,type:=ty,pos:=pos,after:=af,guard:=none }::rest) (H::H::Hs):=IM hk (λ_=>JC hr) h
theorem of {all:List Oper}{sp:List Sp}{l0:Fr}{i:Nat}{rest:List Oper}{Hs:List (List Ent)}{c:Cx}
  (hr:A3 P n c (AM all sp (Bs sp i).deps l0) H { dst:=some d,op:=op,type:=ty,pos:=pos,after:=af,guard:=none } (Bs sp i).r)
  (h:Er P n c opsA Q all sp l0 (i+1) rest (H::Hs)) (hk:(Bs sp i).kd=1:=by rfl):Er P n c opsA Q all sp l0 i ({ dst:=some d,op:=op,type:=ty,pos:=pos,after:=af,guard:=none }::rest) (H::H::Hs):=JE hk (JC hr) h
theorem on {d:Option Nat}{all:List Oper}{sp:List Sp}{l0:Fr}{i:Nat}{rest:List Oper}{Hs:List (List Ent)}{c:Cx}{j dj:Nat}{want b:Bool}(hb:b=want)
  (h:Er P n c opsA Q all sp l0 i ({ dst:=d,op:=op,type:=ty,pos:=pos,after:=af,guard:=none }::rest) (H::H'::Hs))
  (hj:Bl opsA j=some dj:=by rfl) (hv:look (AM all sp (Bs sp i).deps l0) dj=some (rB b):=by rfl):Er P n c opsA Q all sp l0 i ({ dst:=d,op:=op,type:=ty,pos:=pos,after:=af,guard:=some (j,want) }::rest) (H::H'::Hs):=by
 obtain⟨h1,h2⟩:=h;refine⟨?_,h2⟩;revert h1
 split
 ·exact λh1=>⟨h1.1,λH=>H7 hj hv hb (h1.2 H)⟩
 ·exact λh1=>⟨h1.1,H7 hj hv hb h1.2⟩
 ·exact λh1=>H7 hj hv hb h1
theorem oz {d:Option Nat}{all:List Oper}{sp:List Sp}{l0:Fr}{i:Nat}{rest:List Oper}{Hs:List (List Ent)}{c:Cx}{j dj:Nat}{want b:Bool}(hb:b = !want)(h:Er P n c opsA Q all sp l0 (i+1) rest (H::Hs))(hk:(Bs sp i).kd=0:=by rfl)(hr:rv undef=(Bs sp i).r:=by rfl)
  (hj:Bl opsA j=some dj:=by rfl) (hv:look (AM all sp (Bs sp i).deps l0) dj=some (rB b):=by rfl):Er P n c opsA Q all sp l0 i ({ dst:=d,op:=op,type:=ty,pos:=pos,after:=af,guard:=some (j,want) }::rest) (H::H::Hs):=
 IM hk (λ_=>hr▸Jk hj hv hb) h
end
section
variable {ops : Array Oper} {rest : List Oper} {l : Fr} {H H' : List Ent} {d : Nat} {d' : Option Nat} {x y : Operand} {ty t t' e : TypeId} {pos : String} {af : Array Edge} {g : Option (Nat × Bool)} {v u : Value} {r : Rp} {sz : Nat}
end
end
end Go.Proofs.YthjcjnbngagagaaDoor.Q
namespace Go.Proofs.YthjcjnbngagagaaDoor
open Go Go.RowKit
set_option linter.unusedVariables false
set_option linter.unusedSimpArgs false
set_option maxRecDepth 100000
theorem Gx (c:Int)(w:World):Calls Tryd.prog 23 [.int .i32 (c)].toArray w (AQ w (.bool (AV c))):=by
 refine A6 (n:=9) Tryd.func23 rfl Tryd.ntmps23 rfl (Ai (Ae (Aa (Ab rfl) rfl (Ag (Ad (Af ?_))))));refine Az [(2,.bool (((decide ((97)≤(c)))&&(decide ((c)≤(122))))))] [] (φ:=True) ?_ (λhm1=>?_)
 ·refine Ae (Aa (Ac rfl) rfl (Aa (Dw rfl rfl) rfl (Aa (Ac rfl) rfl (A1 (decide ((97)≤(c))) (λh1=>?_) (λh1=>?_)))))
  ·have g1:=h1;try simp only[Kk,Kj] at g1
   refine Aj rfl rfl h1 (Aa (Ac rfl) rfl (Aj rfl rfl h1 (Aa (DR rfl rfl) rfl (Aa (Al rfl h1 rfl) rfl (Aa (Ab rfl) rfl (Ag ?_))))));exact Ad (As trivial ⟨fb (by simp[h1]),trivial⟩ .slnil)
  ·have g1:=h1;try simp only[Kk,Kj] at g1
   refine Ah rfl rfl h1 rfl (Ah rfl rfl h1 rfl (Aa (Am rfl h1 rfl) rfl (Aa (Ab rfl) rfl (Ag ?_))));exact Ad (As trivial ⟨fb (by simp[h1]),trivial⟩ .slnil)
 refine Aq (Ap (B3 rfl rfl) ?_);exact AB (by first | rfl | simp[])
theorem G9 (c:Int)(w:World):Calls Tryd.prog 24 [.int .i32 (c)].toArray w (AQ w (.bool (Bi c))):=by
 refine A6 (n:=9) Tryd.func24 rfl Tryd.ntmps24 rfl (Ai (Ae (Aa (Ab rfl) rfl (Ag (Ad (Af ?_))))));refine Az [(2,.bool (((decide ((48)≤(c)))&&(decide ((c)≤(57))))))] [] (φ:=True) ?_ (λhm3=>?_)
 ·refine Ae (Aa (Ac rfl) rfl (Aa (Dw rfl rfl) rfl (Aa (Ac rfl) rfl (A1 (decide ((48)≤(c))) (λh3=>?_) (λh3=>?_)))))
  ·have g3:=h3;try simp only[Kk,Kj] at g3
   refine Aj rfl rfl h3 (Aa (Ac rfl) rfl (Aj rfl rfl h3 (Aa (DR rfl rfl) rfl (Aa (Al rfl h3 rfl) rfl (Aa (Ab rfl) rfl (Ag ?_))))));exact Ad (As trivial ⟨fb (by simp[h3]),trivial⟩ .slnil)
  ·have g3:=h3;try simp only[Kk,Kj] at g3
   refine Ah rfl rfl h3 rfl (Ah rfl rfl h3 rfl (Aa (Am rfl h3 rfl) rfl (Aa (Ab rfl) rfl (Ag ?_))));exact Ad (As trivial ⟨fb (by simp[h3]),trivial⟩ .slnil)
 refine Aq (Ap (B3 rfl rfl) ?_);exact AB (by first | rfl | simp[])
theorem HA (c:Int)(w:World):Calls Tryd.prog 25 [.int .i32 (c)].toArray w (AQ w (.bool (Bo c))):=by
 refine A6 (n:=37) Tryd.func25 rfl Tryd.ntmps25 rfl (Ai (Ae (Aa (Ab rfl) rfl (Ag (Ad (Af ?_))))));refine Az [(2,.bool (((AV c)||((Bi c)||(bif decide ((65)≤(c)) then((decide ((c)≤(90)))||((decide ((c)=(45)))||((decide ((c)=(95)))||((decide ((c)=(46)))||((decide ((c)=(58)))||(decide ((c)=(47)))))))) else((decide ((c)=(45)))||((decide ((c)=(95)))||((decide ((c)=(46)))||((decide ((c)=(58)))||(decide ((c)=(47))))))))))))] [] (φ:=True) ?_ (λhm=>?_)
 ·refine Ae (Aa (Ac rfl) rfl (Ar Tryd.call23 rfl (λw hw=>Gx c w) rfl (Aa (Ac rfl) rfl (A1 (AV c) (λh5=>?_) (λh5=>?_)))))
  ·have g5:=h5;try simp only[Kk,Kj] at g5
   refine Ah rfl rfl h5 rfl (Ah rfl rfl h5 rfl (Aa (Al rfl h5 rfl) rfl (Aa (Ac rfl) rfl (Ah rfl rfl rfl rfl (Ah rfl rfl rfl rfl (Ah rfl rfl rfl rfl (At rfl rfl rfl (At rfl rfl rfl (Ah rfl rfl rfl rfl (Aa (Al rfl rfl rfl) rfl (Aa (Ac rfl) rfl (Ah rfl rfl rfl rfl (Ah rfl rfl rfl rfl (Aa (Al rfl rfl rfl) rfl (Aa (Ac rfl) rfl (Ah rfl rfl rfl rfl (Ah rfl rfl rfl rfl (Aa (Al rfl rfl rfl) rfl (Aa (Ac rfl) rfl (Ah rfl rfl rfl rfl (Ah rfl rfl rfl rfl (Aa (Al rfl rfl rfl) rfl (Aa (Ac rfl) rfl ?_)))))))))))))))))))))));refine Ah rfl rfl rfl rfl (Ah rfl rfl rfl rfl (Aa (Al rfl rfl rfl) rfl (Aa (Ac rfl) rfl (Ah rfl rfl rfl rfl (Ah rfl rfl rfl rfl (Aa (Al rfl rfl rfl) rfl (Aa (Ab rfl) rfl (Ag ?_))))))));exact Ad (As trivial ⟨fb (by simp[h5]),trivial⟩ .slnil)
  ·have g5:=h5;try simp only[Kk,Kj] at g5
   refine Aj rfl rfl h5 (Aa (Ac rfl) rfl (Aj rfl rfl h5 (Ar Tryd.call24 rfl (λw hw=>G9 c w) rfl (Aa (Am rfl h5 rfl) rfl (Aa (Ac rfl) rfl (A1 (Bi c) (λh6=>?_) (λh6=>?_)))))))
   ·have g6:=h6;try simp only[Kk,Kj] at g6
    refine Ah rfl rfl h6 rfl (Ah rfl rfl h6 rfl (Ah rfl rfl h6 rfl (At rfl rfl rfl (At rfl rfl rfl (Ah rfl rfl h6 rfl (Aa (Al rfl h6 rfl) rfl (Aa (Ac rfl) rfl (Ah rfl rfl rfl rfl (Ah rfl rfl rfl rfl (Aa (Al rfl rfl rfl) rfl (Aa (Ac rfl) rfl (Ah rfl rfl rfl rfl (Ah rfl rfl rfl rfl (Aa (Al rfl rfl rfl) rfl (Aa (Ac rfl) rfl (Ah rfl rfl rfl rfl (Ah rfl rfl rfl rfl (Aa (Al rfl rfl rfl) rfl (Aa (Ac rfl) rfl (Ah rfl rfl rfl rfl (Ah rfl rfl rfl rfl (Aa (Al rfl rfl rfl) rfl (Aa (Ac rfl) rfl ?_)))))))))))))))))))))));refine Ah rfl rfl rfl rfl (Ah rfl rfl rfl rfl (Aa (Al rfl rfl rfl) rfl (Aa (Ab rfl) rfl (Ag ?_))));exact Ad (As trivial ⟨fb (by simp[h5,h6]),trivial⟩ .slnil)
   ·have g6:=h6;try simp only[Kk,Kj] at g6
    refine Aj rfl rfl h6 (Aa (Ac rfl) rfl (Aj rfl rfl h6 (Aa (Dw rfl rfl) rfl (Aj rfl rfl h6 (Aa (Ac rfl) rfl (A1 (decide ((65)≤(c))) (λh7=>?_) (λh7=>?_)))))))
    ·have g7:=h7;try simp only[Kk,Kj] at g7
     refine Aj rfl rfl h7 (Aa (Ac rfl) rfl (Aj rfl rfl h7 (Aa (DR rfl rfl) rfl (Aj rfl rfl h6 (Aa (Al rfl h7 rfl) rfl (Aa (Am rfl h6 rfl) rfl (Aa (Ac rfl) rfl (A1 (decide ((c)≤(90))) (λh8=>?_) (λh8=>?_)))))))))
     ·have g8:=h8;try simp only[Kk,Kj] at g8
      refine Ah rfl rfl h8 rfl (Ah rfl rfl h8 rfl (Aa (Al rfl h8 rfl) rfl (Aa (Ac rfl) rfl (Ah rfl rfl rfl rfl (Ah rfl rfl rfl rfl (Aa (Al rfl rfl rfl) rfl (Aa (Ac rfl) rfl (Ah rfl rfl rfl rfl (Ah rfl rfl rfl rfl (Aa (Al rfl rfl rfl) rfl (Aa (Ac rfl) rfl (Ah rfl rfl rfl rfl (Ah rfl rfl rfl rfl (Aa (Al rfl rfl rfl) rfl (Aa (Ac rfl) rfl (Ah rfl rfl rfl rfl (Ah rfl rfl rfl rfl (Aa (Al rfl rfl rfl) rfl (Aa (Ab rfl) rfl (Ag ?_))))))))))))))))))));exact Ad (As trivial ⟨fb (by simp[h5,h6,h7,h8]),trivial⟩ .slnil)
     ·have g8:=h8;try simp only[Kk,Kj] at g8
      refine Aj rfl rfl h8 (Aa (Ac rfl) rfl (Aj rfl rfl h8 (Aa (Cg rfl rfl) rfl (Aa (Am rfl h8 rfl) rfl (Aa (Ac rfl) rfl (A1 (decide ((c)=(45))) (λh9=>?_) (λh9=>?_)))))))
      ·have g9:=h9;try simp only[Kk,Kj] at g9
       refine Ah rfl rfl h9 rfl (Ah rfl rfl h9 rfl (Aa (Al rfl h9 rfl) rfl (Aa (Ac rfl) rfl (Ah rfl rfl rfl rfl (Ah rfl rfl rfl rfl (Aa (Al rfl rfl rfl) rfl (Aa (Ac rfl) rfl (Ah rfl rfl rfl rfl (Ah rfl rfl rfl rfl (Aa (Al rfl rfl rfl) rfl (Aa (Ac rfl) rfl (Ah rfl rfl rfl rfl (Ah rfl rfl rfl rfl (Aa (Al rfl rfl rfl) rfl (Aa (Ab rfl) rfl (Ag ?_))))))))))))))));exact Ad (As trivial ⟨fb (by simp[h5,h6,h7,h8,h9]),trivial⟩ .slnil)
      ·have g9:=h9;try simp only[Kk,Kj] at g9
       refine Aj rfl rfl h9 (Aa (Ac rfl) rfl (Aj rfl rfl h9 (Aa (Cg rfl rfl) rfl (Aa (Am rfl h9 rfl) rfl (Aa (Ac rfl) rfl (A1 (decide ((c)=(95))) (λhb=>?_) (λhb=>?_)))))))
       ·have hh:=hb;try simp only[Kk,Kj] at hh
        refine Ah rfl rfl hb rfl (Ah rfl rfl hb rfl (Aa (Al rfl hb rfl) rfl (Aa (Ac rfl) rfl (Ah rfl rfl rfl rfl (Ah rfl rfl rfl rfl (Aa (Al rfl rfl rfl) rfl (Aa (Ac rfl) rfl (Ah rfl rfl rfl rfl (Ah rfl rfl rfl rfl (Aa (Al rfl rfl rfl) rfl (Aa (Ab rfl) rfl (Ag ?_))))))))))));exact Ad (As trivial ⟨fb (by simp[h5,h6,h7,h8,h9,hb]),trivial⟩ .slnil)
       ·have hh:=hb;try simp only[Kk,Kj] at hh
        refine Aj rfl rfl hb (Aa (Ac rfl) rfl (Aj rfl rfl hb (Aa (Cg rfl rfl) rfl (Aa (Am rfl hb rfl) rfl (Aa (Ac rfl) rfl (A1 (decide ((c)=(46))) (λhd=>?_) (λhd=>?_)))))))
        ·have hi:=hd;try simp only[Kk,Kj] at hi
         refine Ah rfl rfl hd rfl (Ah rfl rfl hd rfl (Aa (Al rfl hd rfl) rfl (Aa (Ac rfl) rfl (Ah rfl rfl rfl rfl (Ah rfl rfl rfl rfl (Aa (Al rfl rfl rfl) rfl (Aa (Ab rfl) rfl (Ag ?_))))))));exact Ad (As trivial ⟨fb (by simp[h5,h6,h7,h8,h9,hb,hd]),trivial⟩ .slnil)
        ·have hi:=hd;try simp only[Kk,Kj] at hi
         refine Aj rfl rfl hd (Aa (Ac rfl) rfl (Aj rfl rfl hd (Aa (Cg rfl rfl) rfl (Aa (Am rfl hd rfl) rfl (Aa (Ac rfl) rfl (A1 (decide ((c)=(58))) (λhf=>?_) (λhf=>?_)))))))
         ·have hj:=hf;try simp only[Kk,Kj] at hj
          refine Ah rfl rfl hf rfl (Ah rfl rfl hf rfl (Aa (Al rfl hf rfl) rfl (Aa (Ab rfl) rfl (Ag ?_))));exact Ad (As trivial ⟨fb (by simp[h5,h6,h7,h8,h9,hb,hd,hf]),trivial⟩ .slnil)
         ·have hj:=hf;try simp only[Kk,Kj] at hj
          refine Aj rfl rfl hf (Aa (Ac rfl) rfl (Aj rfl rfl hf (Aa (Cg rfl rfl) rfl (Aa (Am rfl hf rfl) rfl (Aa (Ab rfl) rfl (Ag ?_))))));exact Ad (As trivial ⟨fb (by simp[h5,h6,h7,h8,h9,hb,hd,hf]),trivial⟩ .slnil)
    ·have g7:=h7;try simp only[Kk,Kj] at g7
     refine Ah rfl rfl h7 rfl (Ah rfl rfl h7 rfl (Aj rfl rfl h6 (Aa (Am rfl h7 rfl) rfl (Aa (Am rfl h6 rfl) rfl (Aa (Ac rfl) rfl (Aj rfl rfl rfl (Aa (Ac rfl) rfl (Aj rfl rfl rfl (Aa (Cg rfl rfl) rfl (Aa (Am rfl rfl rfl) rfl (Aa (Ac rfl) rfl (A1 (decide ((c)=(45))) (λha=>?_) (λha=>?_)))))))))))))
     ·have hk:=ha;try simp only[Kk,Kj] at hk
      refine Ah rfl rfl ha rfl (Ah rfl rfl ha rfl (Aa (Al rfl ha rfl) rfl (Aa (Ac rfl) rfl (Ah rfl rfl rfl rfl (Ah rfl rfl rfl rfl (Aa (Al rfl rfl rfl) rfl (Aa (Ac rfl) rfl (Ah rfl rfl rfl rfl (Ah rfl rfl rfl rfl (Aa (Al rfl rfl rfl) rfl (Aa (Ac rfl) rfl (Ah rfl rfl rfl rfl (Ah rfl rfl rfl rfl (Aa (Al rfl rfl rfl) rfl (Aa (Ab rfl) rfl (Ag ?_))))))))))))))));exact Ad (As trivial ⟨fb (by simp[h5,h6,h7,ha]),trivial⟩ .slnil)
     ·have hk:=ha;try simp only[Kk,Kj] at hk
      refine Aj rfl rfl ha (Aa (Ac rfl) rfl (Aj rfl rfl ha (Aa (Cg rfl rfl) rfl (Aa (Am rfl ha rfl) rfl (Aa (Ac rfl) rfl (A1 (decide ((c)=(95))) (λhc=>?_) (λhc=>?_)))))))
      ·have hl:=hc;try simp only[Kk,Kj] at hl
       refine Ah rfl rfl hc rfl (Ah rfl rfl hc rfl (Aa (Al rfl hc rfl) rfl (Aa (Ac rfl) rfl (Ah rfl rfl rfl rfl (Ah rfl rfl rfl rfl (Aa (Al rfl rfl rfl) rfl (Aa (Ac rfl) rfl (Ah rfl rfl rfl rfl (Ah rfl rfl rfl rfl (Aa (Al rfl rfl rfl) rfl (Aa (Ab rfl) rfl (Ag ?_))))))))))));exact Ad (As trivial ⟨fb (by simp[h5,h6,h7,ha,hc]),trivial⟩ .slnil)
      ·have hl:=hc;try simp only[Kk,Kj] at hl
       refine Aj rfl rfl hc (Aa (Ac rfl) rfl (Aj rfl rfl hc (Aa (Cg rfl rfl) rfl (Aa (Am rfl hc rfl) rfl (Aa (Ac rfl) rfl (A1 (decide ((c)=(46))) (λhe=>?_) (λhe=>?_)))))))
       ·have g15:=he;try simp only[Kk,Kj] at g15
        refine Ah rfl rfl he rfl (Ah rfl rfl he rfl (Aa (Al rfl he rfl) rfl (Aa (Ac rfl) rfl (Ah rfl rfl rfl rfl (Ah rfl rfl rfl rfl (Aa (Al rfl rfl rfl) rfl (Aa (Ab rfl) rfl (Ag ?_))))))));exact Ad (As trivial ⟨fb (by simp[h5,h6,h7,ha,hc,he]),trivial⟩ .slnil)
       ·have g15:=he;try simp only[Kk,Kj] at g15
        refine Aj rfl rfl he (Aa (Ac rfl) rfl (Aj rfl rfl he (Aa (Cg rfl rfl) rfl (Aa (Am rfl he rfl) rfl (Aa (Ac rfl) rfl (A1 (decide ((c)=(58))) (λhg=>?_) (λhg=>?_)))))))
        ·have g16:=hg;try simp only[Kk,Kj] at g16
         refine Ah rfl rfl hg rfl (Ah rfl rfl hg rfl (Aa (Al rfl hg rfl) rfl (Aa (Ab rfl) rfl (Ag ?_))));exact Ad (As trivial ⟨fb (by simp[h5,h6,h7,ha,hc,he,hg]),trivial⟩ .slnil)
        ·have g16:=hg;try simp only[Kk,Kj] at g16
         refine Aj rfl rfl hg (Aa (Ac rfl) rfl (Aj rfl rfl hg (Aa (Cg rfl rfl) rfl (Aa (Am rfl hg rfl) rfl (Aa (Ab rfl) rfl (Ag ?_))))));exact Ad (As trivial ⟨fb (by simp[h5,h6,h7,ha,hc,he,hg]),trivial⟩ .slnil)
 refine Aq (Ap (B3 rfl rfl) ?_);exact AB (by simp only[Bo];by_cases h:65≤c<;>simp[h,Bool.or_assoc])
theorem Ik (m:Int)(w:World):Calls Tryd.prog 42 [.int .i64 (m)].toArray w (AQ w (.bool (De m))):=by
 refine A6 (n:=9) Tryd.func42 rfl Tryd.ntmps42 rfl (Ai (Ae (Aa (Ab rfl) rfl (Ag (Ad (Af ?_))))));refine Az [(2,.bool (((decide ((-1000000000000)≤(m)))&&(decide ((m)≤(1000000000000))))))] [] (φ:=True) ?_ (λhb=>?_)
 ·refine Ae (Aa (Ac rfl) rfl (Aa (DR rfl rfl) rfl (Aa (Ac rfl) rfl (A1 (decide ((-1000000000000)≤(m))) (λha=>?_) (λha=>?_)))))
  ·have g18:=ha;try simp only[Kk,Kj] at g18
   refine Aj rfl rfl ha (Aa (Ac rfl) rfl (Aj rfl rfl ha (Aa (DR rfl rfl) rfl (Aa (Al rfl ha rfl) rfl (Aa (Ab rfl) rfl (Ag ?_))))));exact Ad (As trivial ⟨fb (by first | (simp only[ha,Kr,Km,Kv,Kq,Ku,Ko,Kw,Ks,Kt,Kn,K1,Ky,K8,K3,reduceIte,Kl];done) | simp[ha]),trivial⟩ .slnil)
  ·have g18:=ha;try simp only[Kk,Kj] at g18
   refine Ah rfl rfl ha rfl (Ah rfl rfl ha rfl (Aa (Am rfl ha rfl) rfl (Aa (Ab rfl) rfl (Ag ?_))));exact Ad (As trivial ⟨fb (by first | (simp only[ha,Kr,Km,Kv,Kq,Ku,Ko,Kw,Ks,Kt,Kn,K1,Ky,K8,K3,reduceIte,Kl];done) | simp[ha]),trivial⟩ .slnil)
 refine Aq (Ap (B3 rfl rfl) ?_);exact AB (by first | rfl | simp[])
theorem CN (p:List UInt8)(w:World):Calls Tryd.prog 10 [.string (B p)].toArray w (AQ w (.bool (AX p))):=by
 refine A6 (n:=39) Tryd.func10 rfl Tryd.ntmps10 rfl (Ai (Ae (Aa (Ab rfl) rfl (Ag (Ad (Af ?_))))));refine Ai (Ai (Ae (Aa (Ac rfl) rfl (DX Cw rfl rfl (λhg=>?_)))));refine Ag (Ad (Af ?_));refine A5 (Ck (S:=Nat) (λ(k:Nat)=>k≤p.length∧Au Bh 0 p=Au Bh k (p.drop k)) (λ(k:Nat)=>[(0,.string (B (p))),(2,.bool (false)),(6,.pointer (some ⟨hg,0,none⟩))]) (λ(k:Nat)=>[.blk hg (.stringIter (B p) (k))]) (λ(k:Nat)=>p.length-k) (0) ?_ ⟨rfl,rfl,rfl,trivial⟩ (.cons_cons _ (.slnil)) ?_)
 ·exact⟨KI _,by simp⟩
 rintro k hi0;refine Ai (Ae (EF (i:=0) rfl rfl rfl (λhend=>?_) (λhq hc ho hp hlu21 hhu21 hwu21=>?_)))
 ·refine Aa (Ao rfl rfl) rfl (Ag (Ad (Af ?_)));refine Ai (BB rfl rfl (Bf (Av (Av (AJ (Ad (Af ?_)))))));refine Az [(2,.bool (((decide ((1)≤((p.length:Int))))&&(decide (((p.length:Int))≤(24))))))] [.blk hg (.stringIter (B p) (k))] (φ:=True) ?_ (λhr=>?_)
  ·refine Ae (Aa (Ac rfl) rfl (Aa (AE Cw rfl) rfl (Aa (Dw rfl rfl) rfl (Aa (Ac rfl) rfl (A1 (decide ((1)≤((p.length:Int)))) (λhd=>?_) (λhd=>?_))))))
   ·have hi:=hd;try simp only[Kk,Kj] at hi
    refine Aj rfl rfl hd (Aa (Ac rfl) rfl (Aj rfl rfl hd (Aa (AE Cw rfl) rfl (Aj rfl rfl hd (Aa (DR rfl rfl) rfl (Aa (Al rfl hd rfl) rfl (Aa (Ab rfl) rfl (Ag ?_))))))));exact Ad (As trivial ⟨fb (by first | (simp only[hd,Kr,Km,Kv,Kq,Ku,Ko,Kw,Ks,Kt,Kn,K1,Ky,K8,K3,reduceIte,Kl];done) | simp[hd]),trivial⟩ (.cons_cons _ (.slnil)))
   ·have hi:=hd;try simp only[Kk,Kj] at hi
    refine Ah rfl rfl hd rfl (Ah rfl rfl hd rfl (Ah rfl rfl hd rfl (Aa (Am rfl hd rfl) rfl (Aa (Ab rfl) rfl (Ag ?_)))));exact Ad (As trivial ⟨fb (by first | (simp only[hd,Kr,Km,Kv,Kq,Ku,Ko,Kw,Ks,Kt,Kn,K1,Ky,K8,K3,reduceIte,Kl];done) | simp[hd]),trivial⟩ (.cons_cons _ (.slnil)))
  refine Aq (Ap (B3 rfl rfl) ?_);exact AB (by rw[H8 hi0 hend])
 ·refine Aa (Ao rfl rfl) rfl (Ag (Ad (Af ?_)));refine Ai (Ca rfl rfl (Ax (Ad (Af ?_))));refine A5 (Ai (Ae (Aa (Ao rfl rfl) rfl (Aa (Ao rfl rfl) rfl (Aa (Ab rfl) rfl (Aa (Ab rfl) rfl (Ag (Ad (Af ?_)))))))));refine Az [(0,.string (B (p))),(2,.bool (false)),(3,.int .i64 ((k:Int))),(4,.int .i32 ((hc:Int))),(6,.pointer (some ⟨hg,0,none⟩)),(7,.tuple #[.bool (true),.int .i64 ((k:Int)),.int .i32 ((hc:Int))]),(8,.bool (true)),(9,.int .i64 ((k:Int))),(10,.int .i32 ((hc:Int))),(11,.int .i32 ((hc:Int))),(12,.bool (AV (hc:Int))),(13,.bool (!(AV (hc:Int)))),(14,.bool (!(AV (hc:Int)))),(30,.bool (((!(AV (hc:Int)))&&((decide (((k:Int))=(0)))||((!(Bi (hc:Int)))&&((!(decide (((hc:Int))=(45))))&&(!(decide (((hc:Int))=(95))))))))))] [.blk hg (.stringIter (B p) (k+ho))] (φ:=True) ?_ (λhs=>?_)
  ·refine Ae (Aa (Ac rfl) rfl (Ar Tryd.call23 rfl (λw hw=>Gx (hc:Int) w) rfl (Aa (Bb rfl) rfl (Aa (Ac rfl) rfl (A1 (!(AV (hc:Int))) (λhb=>?_) (λhb=>?_))))))
   ·have hj:=hb;try simp only[Kk,Kj] at hj
    refine Aj rfl rfl hb (Aa (Ac rfl) rfl (Aj rfl rfl hb (Aa (Cg rfl rfl) rfl (Aj rfl rfl hb (Aa (Ac rfl) rfl (A1 (decide (((k:Int))=(0))) (λha=>?_) (λha=>?_)))))))
    ·have hk:=ha;try simp only[Kk,Kj] at hk
     refine Ah rfl rfl ha rfl (Ah rfl rfl ha rfl (Ah rfl rfl ha rfl (Ah rfl rfl ha rfl (At rfl rfl rfl (At rfl rfl rfl (Ah rfl rfl ha rfl (Ah rfl rfl ha rfl (At rfl rfl rfl (At rfl rfl rfl (Ah rfl rfl ha rfl (Aj rfl rfl hb (Aa (Al rfl ha rfl) rfl (Aa (Al rfl hb rfl) rfl (Ag ?_))))))))))))));exact Ad (As trivial ⟨rfl,rfl,rfl,rfl,rfl,rfl,rfl,rfl,rfl,rfl,rfl,rfl,rfl,fb (by first | (simp only[hb,ha,Kr,Km,Kv,Kq,Ku,Ko,Kw,Ks,Kt,Kn,K1,Ky,K8,K3,reduceIte,Kl];done) | simp[hb,ha]),trivial⟩ (.cons_cons _ (.slnil)))
    ·have hk:=ha;try simp only[Kk,Kj] at hk
     refine Aj rfl rfl ha (Aa (Ac rfl) rfl (Aj rfl rfl ha (Ar Tryd.call24 rfl (λw hw=>G9 (hc:Int) w) rfl (Aj rfl rfl ha (Aa (Bb rfl) rfl (Aj rfl rfl ha (Aa (Ac rfl) rfl (A1 (!(Bi (hc:Int))) (λhe=>?_) (λhe=>?_)))))))))
     ·have hl:=he;try simp only[Kk,Kj] at hl
      refine Aj rfl rfl he (Aa (Ac rfl) rfl (Aj rfl rfl he (Aa (Dv rfl rfl) rfl (Aj rfl rfl ha (Aa (Al rfl he rfl) rfl (Aj rfl rfl ha (Aa (Ac rfl) rfl (A1 (!(decide (((hc:Int))=(45)))) (λhf=>?_) (λhf=>?_)))))))))
      ·have hm:=hf;try simp only[Kk,Kj] at hm
       refine Aj rfl rfl hf (Aa (Ac rfl) rfl (Aj rfl rfl hf (Aa (Dv rfl rfl) rfl (Aj rfl rfl ha (Aa (Al rfl hf rfl) rfl (Aj rfl rfl hb (Aa (Am rfl ha rfl) rfl (Aa (Al rfl hb rfl) rfl (Ag ?_)))))))));exact Ad (As trivial ⟨rfl,rfl,rfl,rfl,rfl,rfl,rfl,rfl,rfl,rfl,rfl,rfl,rfl,fb (by first | (simp only[hb,ha,he,hf,Kr,Km,Kv,Kq,Ku,Ko,Kw,Ks,Kt,Kn,K1,Ky,K8,K3,reduceIte,Kl];done) | simp[hb,ha,he,hf]),trivial⟩ (.cons_cons _ (.slnil)))
      ·have hm:=hf;try simp only[Kk,Kj] at hm
       refine Ah rfl rfl hf rfl (Ah rfl rfl hf rfl (Aj rfl rfl ha (Aa (Am rfl hf rfl) rfl (Aj rfl rfl hb (Aa (Am rfl ha rfl) rfl (Aa (Al rfl hb rfl) rfl (Ag ?_)))))));exact Ad (As trivial ⟨rfl,rfl,rfl,rfl,rfl,rfl,rfl,rfl,rfl,rfl,rfl,rfl,rfl,fb (by first | (simp only[hb,ha,he,hf,Kr,Km,Kv,Kq,Ku,Ko,Kw,Ks,Kt,Kn,K1,Ky,K8,K3,reduceIte,Kl];done) | simp[hb,ha,he,hf]),trivial⟩ (.cons_cons _ (.slnil)))
     ·have hl:=he;try simp only[Kk,Kj] at hl
      refine Ah rfl rfl he rfl (Ah rfl rfl he rfl (Aj rfl rfl ha (Aa (Am rfl he rfl) rfl (Aj rfl rfl ha (Aa (Ac rfl) rfl (Ah rfl rfl rfl rfl (Ah rfl rfl rfl rfl (Aj rfl rfl ha (Aa (Am rfl rfl rfl) rfl (Aj rfl rfl hb (Aa (Am rfl ha rfl) rfl (Aa (Al rfl hb rfl) rfl (Ag ?_)))))))))))));exact Ad (As trivial ⟨rfl,rfl,rfl,rfl,rfl,rfl,rfl,rfl,rfl,rfl,rfl,rfl,rfl,fb (by first | (simp only[hb,ha,he,Kr,Km,Kv,Kq,Ku,Ko,Kw,Ks,Kt,Kn,K1,Ky,K8,K3,reduceIte,Kl];done) | simp[hb,ha,he]),trivial⟩ (.cons_cons _ (.slnil)))
   ·have hj:=hb;try simp only[Kk,Kj] at hj
    refine Ah rfl rfl hb rfl (Ah rfl rfl hb rfl (Ah rfl rfl hb rfl (At rfl rfl rfl (At rfl rfl rfl (At rfl rfl rfl (At rfl rfl rfl (At rfl rfl rfl (At rfl rfl rfl (At rfl rfl rfl (At rfl rfl rfl (At rfl rfl rfl (At rfl rfl rfl (At rfl rfl rfl (Ah rfl rfl hb rfl (Aa (Am rfl hb rfl) rfl (Ag ?_))))))))))))))));exact Ad (As trivial ⟨rfl,rfl,rfl,rfl,rfl,rfl,rfl,rfl,rfl,rfl,rfl,rfl,rfl,fb (by first | (simp only[hb,Kr,Km,Kv,Kq,Ku,Ko,Kw,Ks,Kt,Kn,K1,Ky,K8,K3,reduceIte,Kl];done) | simp[hb]),trivial⟩ (.cons_cons _ (.slnil)))
  refine A0 (b:=((!(AV (hc:Int)))&&((decide (((k:Int))=(0)))||((!(Bi (hc:Int)))&&((!(decide (((hc:Int))=(45))))&&(!(decide (((hc:Int))=(95))))))))) rfl (λhh=>?_) (λhh=>?_)
  ·have hn:=hh;try simp only[Kk,Kj] at hn
   refine Ai (Ae (Aa (Ab rfl) rfl (Ag (Ad (Af ?_)))));refine Aq (A7 (An (A7 (An (Ap (B3 rfl rfl) ?_)))));exact AB (by rw[Iy hi0 hp hlu21 hhu21 hh])
  ·have hn:=hh;try simp only[Kk,Kj] at hn
   refine Ax (AC (Ad (A8 (k+ho) ?_ ⟨rfl,rfl,rfl,trivial⟩ (.cons_cons _ (.slnil)))));exact GT hi0 hp hlu21 hhu21 hh
theorem HO (p:List UInt8)(w:World):Calls Tryd.prog 11 [.string (B p)].toArray w (AQ w (.bool (Hb p))):=by
 refine A6 (n:=21) Tryd.func11 rfl Tryd.ntmps11 rfl (Ai (Ae (Aa (Ab rfl) rfl (Ag (Ad (Af ?_))))));refine Ai (Ai (Ae (Aa (Ac rfl) rfl (DX Cw rfl rfl (λhc=>?_)))));refine Ag (Ad (Af ?_));refine A5 (Ck (S:=Nat) (λ(k:Nat)=>k≤p.length∧Au Dx 0 p=Au Dx k (p.drop k)) (λ(k:Nat)=>[(0,.string (B (p))),(2,.bool (false)),(6,.pointer (some ⟨hc,0,none⟩))]) (λ(k:Nat)=>[.blk hc (.stringIter (B p) (k))]) (λ(k:Nat)=>p.length-k) (0) ?_ ⟨rfl,rfl,rfl,trivial⟩ (.cons_cons _ (.slnil)) ?_)
 ·exact⟨KI _,by simp⟩
 rintro k hi0;refine Ai (Ae (EF (i:=0) rfl rfl rfl (λhend=>?_) (λhi hf hh hg hlu33 hhu33 hwu33=>?_)))
 ·refine Aa (Ao rfl rfl) rfl (Ag (Ad (Af ?_)));refine Ai (BB rfl rfl (Bf (Av (Av (AJ (Ad (Af ?_)))))));refine Az [(2,.bool (((decide ((1)≤((p.length:Int))))&&(decide (((p.length:Int))≤(64))))))] [.blk hc (.stringIter (B p) (k))] (φ:=True) ?_ (λhj=>?_)
  ·refine Ae (Aa (Ac rfl) rfl (Aa (AE Cw rfl) rfl (Aa (Dw rfl rfl) rfl (Aa (Ac rfl) rfl (A1 (decide ((1)≤((p.length:Int)))) (λha=>?_) (λha=>?_))))))
   ·have hd:=ha;try simp only[Kk,Kj] at hd
    refine Aj rfl rfl ha (Aa (Ac rfl) rfl (Aj rfl rfl ha (Aa (AE Cw rfl) rfl (Aj rfl rfl ha (Aa (DR rfl rfl) rfl (Aa (Al rfl ha rfl) rfl (Aa (Ab rfl) rfl (Ag ?_))))))));exact Ad (As trivial ⟨fb (by first | (simp only[ha,Kr,Km,Kv,Kq,Ku,Ko,Kw,Ks,Kt,Kn,K1,Ky,K8,K3,reduceIte,Kl];done) | simp[ha]),trivial⟩ (.cons_cons _ (.slnil)))
   ·have hd:=ha;try simp only[Kk,Kj] at hd
    refine Ah rfl rfl ha rfl (Ah rfl rfl ha rfl (Ah rfl rfl ha rfl (Aa (Am rfl ha rfl) rfl (Aa (Ab rfl) rfl (Ag ?_)))));exact Ad (As trivial ⟨fb (by first | (simp only[ha,Kr,Km,Kv,Kq,Ku,Ko,Kw,Ks,Kt,Kn,K1,Ky,K8,K3,reduceIte,Kl];done) | simp[ha]),trivial⟩ (.cons_cons _ (.slnil)))
  refine Aq (Ap (B3 rfl rfl) ?_);exact AB (by rw[Jr hi0 hend])
 ·refine Aa (Ao rfl rfl) rfl (Ag (Ad (Af ?_)));refine Ai (Ca rfl rfl (Ax (Ad (Af ?_))));refine A5 (Ai (Ae (Aa (Ao rfl rfl) rfl (Aa (Ab rfl) rfl (Ag (Ad (Af ?_)))))));refine Ai (Ae (Aa (Ac rfl) rfl (Ar Tryd.call25 rfl (λw hw=>HA (hf:Int) w) rfl (Aa (Bb rfl) rfl (Ag (Ad (Af ?_)))))));refine A0 (b:=!(Bo (hf:Int))) rfl (λhb=>?_) (λhb=>?_)
  ·have he:=hb;try simp only[Kk,Kj] at he
   refine Ai (Ae (Aa (Ab rfl) rfl (Ag (Ad (Af ?_)))));refine Aq (A7 (An (A7 (An (Ap (B3 rfl rfl) ?_)))));exact AB (by rw[JK hi0 hg hlu33 hhu33 hb])
  ·have he:=hb;try simp only[Kk,Kj] at he
   refine Ax (AC (Ad (A8 (k+hh) ?_ ⟨rfl,rfl,rfl,trivial⟩ (.cons_cons _ (.slnil)))));exact I5 hi0 hg hlu33 hhu33 hb
open Go
def E3 (p q:List UInt8):Bool:=decide (q.length≤p.length)&&decide (p.take q.length=q)
def AP (p q:List UInt8):Bool:=decide (q.length≤p.length)&&decide (p.drop (p.length-q.length)=q)
def AT (p q:List UInt8):List UInt8:=if AP p q=true then p.take (p.length-q.length) else p
theorem CP {p q:List UInt8}(h:AP p q=true):q.length≤p.length:=by
 simp[AP] at h;exact h.1
theorem Jq (p:List UInt8)(c:UInt8) : -1≤Lib.indexByte p c∧Lib.indexByte p c<p.length:=by
 induction p with
 | nil=>simp[Lib.indexByte]
 | cons b r ih=>
  unfold Lib.indexByte;simp only[List.length_cons]
  split
  ·omega
  ·split<;>omega
def BA (p:List UInt8)(c:UInt8):List UInt8:=if 0≤Lib.indexByte p c then p.take (Lib.indexByte p c).toNat else p
def AY (p:List UInt8)(c:UInt8):List UInt8:=if 0≤Lib.indexByte p c then p.drop (Lib.indexByte p c+1).toNat else[]
theorem Dc (p:List UInt8)(c:UInt8):(BA p c).length≤p.length:=by unfold BA;split<;>simp;omega
theorem C4 (p:List UInt8)(c:UInt8):(AY p c).length≤p.length:=by unfold AY;split<;>simp
def I8 (p:List UInt8)(c:UInt8):Bool:=decide (0≤Lib.indexByte p c)
theorem Hc (p:List UInt8)(q:List UInt8)(hp:p.length≤9223372036854775807)(w:World):Calls Tryd.prog 45 [.string (B (p)),.string (B (q))].toArray w (AQ w (.bool (E3 p q))):=by
 refine A6 (n:=18) Tryd.func45 rfl Tryd.ntmps45 rfl (Ai (Ae (Aa (Ab rfl) rfl (Ag (Ad (Af ?_))))));refine Az [(4,.bool (((decide (((q.length:Int))≤((p.length:Int))))&&(decide (((List.take (Int.toNat ((q.length:Int))) p))=(q))))))] [] (φ:=True) ?_ (λhd=>?_)
 ·refine Ae (Aa (Ac rfl) rfl (Aa (AE Cw rfl) rfl (Aa (Ac rfl) rfl (Aa (AE Cw rfl) rfl (Aa (Dw rfl rfl) rfl (Aa (Ac rfl) rfl (A1 (decide (((q.length:Int))≤((p.length:Int)))) (λha=>?_) (λha=>?_))))))))
  ·have hb:=ha;try simp only[Kk,Kj] at hb
   have hc:=ha;try simp at hc
   refine Aj rfl rfl ha (Aa (Ac rfl) rfl (Aj rfl rfl ha (Aa (Ac rfl) rfl (Aj rfl rfl ha (Aa (AE Cw rfl) rfl (Aj rfl rfl ha (Aa (Bz Cw rfl rfl (by first | omega | (simp;omega)) (by first | omega | (simp;omega))) rfl (Aj rfl rfl ha (Aa (Ac rfl) rfl (Aj rfl rfl ha (Aa (CU rfl rfl) rfl (Aa (Al rfl ha rfl) rfl (Aa (Ab rfl) rfl (Ag ?_))))))))))))));exact Ad (As trivial ⟨fb (by first | (simp only[ha,Kr,Km,Kv,Kq,Ku,Ko,Kw,Ks,Kt,Kn,K1,Ky,K8,K3,reduceIte,Kl];done) | simp[ha]),trivial⟩ .slnil)
  ·have hb:=ha;try simp only[Kk,Kj] at hb
   have hc:=ha;try simp at hc
   refine Ah rfl rfl ha rfl (Ah rfl rfl ha rfl (Ah rfl rfl ha rfl (Ah rfl rfl ha rfl (Ah rfl rfl ha rfl (Ah rfl rfl ha rfl (Aa (Am rfl ha rfl) rfl (Aa (Ab rfl) rfl (Ag ?_))))))));exact Ad (As trivial ⟨fb (by first | (simp only[ha,Kr,Km,Kv,Kq,Ku,Ko,Kw,Ks,Kt,Kn,K1,Ky,K8,K3,reduceIte,Kl];done) | simp[ha]),trivial⟩ .slnil)
 refine Aq (Ap (B3 rfl rfl) ?_);exact AB (by simp[E3])
theorem HR (p:List UInt8)(q:List UInt8)(hp:p.length≤9223372036854775807)(w:World):Calls Tryd.prog 33 [.string (B (p)),.string (B (q))].toArray w (AQ w (.bool (E3 p q))):=by
 refine A6 (n:=8) Tryd.func33 rfl Tryd.ntmps33 rfl (Ai (Ae (Aa (Ab rfl) rfl (Ag (Ad (Af ?_))))));refine Ai (Ae (Aa (Ac rfl) rfl (Aa (Ac rfl) rfl (Ar Tryd.call45 rfl (λw hw=>Hc p q (by first | omega | (simp;omega)) w) rfl (Aa (Ab rfl) rfl (Ag (Ad (Af ?_))))))));refine Aq (Ap (B3 rfl rfl) ?_);exact AB (by first | rfl | simp[])
theorem Eh (p:List UInt8)(q:List UInt8)(hp:p.length≤9223372036854775807)(w:World):Calls Tryd.prog 62 [.string (B (p)),.string (B (q))].toArray w (AQ w (.bool (AP p q))):=by
 refine A6 (n:=21) Tryd.func62 rfl Tryd.ntmps62 rfl (Ai (Ae (Aa (Ab rfl) rfl (Ag (Ad (Af ?_))))));refine Az [(4,.bool (((decide (((q.length:Int))≤((p.length:Int))))&&(decide (((List.drop (Int.toNat ((p.length:Int)-(q.length:Int))) p))=(q))))))] [] (φ:=True) ?_ (λhd=>?_)
 ·refine Ae (Aa (Ac rfl) rfl (Aa (AE Cw rfl) rfl (Aa (Ac rfl) rfl (Aa (AE Cw rfl) rfl (Aa (Dw rfl rfl) rfl (Aa (Ac rfl) rfl (A1 (decide (((q.length:Int))≤((p.length:Int)))) (λha=>?_) (λha=>?_))))))))
  ·have hb:=ha;try simp only[Kk,Kj] at hb
   have hc:=ha;try simp at hc
   refine Aj rfl rfl ha (Aa (Ac rfl) rfl (Aj rfl rfl ha (Aa (Ac rfl) rfl (Aj rfl rfl ha (Aa (AE Cw rfl) rfl (Aj rfl rfl ha (Aa (Ac rfl) rfl (Aj rfl rfl ha (Aa (AE Cw rfl) rfl (Aj rfl rfl ha (Aa (ER rfl rfl (IntWalk.i64_in _ (by omega))) rfl (Aj rfl rfl ha (Aa (BK Cw rfl rfl (by first | omega | (simp;omega)) (by first | omega | (simp;omega))) rfl (Aj rfl rfl ha (Aa (Ac rfl) rfl (Aj rfl rfl ha (Aa (CU rfl rfl) rfl (Aa (Al rfl ha rfl) rfl (Aa (Ab rfl) rfl (Ag ?_))))))))))))))))))));exact Ad (As trivial ⟨fb (by first | (simp only[ha,Kr,Km,Kv,Kq,Ku,Ko,Kw,Ks,Kt,Kn,K1,Ky,K8,K3,reduceIte,Kl];done) | simp[ha]),trivial⟩ .slnil)
  ·have hb:=ha;try simp only[Kk,Kj] at hb
   have hc:=ha;try simp at hc
   refine Ah rfl rfl ha rfl (Ah rfl rfl ha rfl (Ah rfl rfl ha rfl (Ah rfl rfl ha rfl (Ah rfl rfl ha rfl (Ah rfl rfl ha rfl (Ah rfl rfl ha rfl (Ah rfl rfl ha rfl (Ah rfl rfl ha rfl (Aa (Am rfl ha rfl) rfl (Aa (Ab rfl) rfl (Ag ?_)))))))))));exact Ad (As trivial ⟨fb (by first | (simp only[ha,Kr,Km,Kv,Kq,Ku,Ko,Kw,Ks,Kt,Kn,K1,Ky,K8,K3,reduceIte,Kl];done) | simp[ha]),trivial⟩ .slnil)
 refine Aq (Ap (B3 rfl rfl) ?_);exact AB (by simp[AP])
theorem HQ (p:List UInt8)(q:List UInt8)(hp:p.length≤9223372036854775807)(w:World):Calls Tryd.prog 44 [.string (B (p)),.string (B (q))].toArray w (AQ w (.bool (AP p q))):=by
 refine A6 (n:=8) Tryd.func44 rfl Tryd.ntmps44 rfl (Ai (Ae (Aa (Ab rfl) rfl (Ag (Ad (Af ?_))))));refine Ai (Ae (Aa (Ac rfl) rfl (Aa (Ac rfl) rfl (Ar Tryd.call62 rfl (λw hw=>Eh p q (by first | omega | (simp;omega)) w) rfl (Aa (Ab rfl) rfl (Ag (Ad (Af ?_))))))));refine Aq (Ap (B3 rfl rfl) ?_);exact AB (by first | rfl | simp[])
theorem Gd (p:List UInt8)(q:List UInt8)(hp:p.length≤9223372036854775807)(w:World):Calls Tryd.prog 61 [.string (B (p)),.string (B (q))].toArray w (AQ w (.string (B (AT p q)))):=by
 refine A6 (n:=16) Tryd.func61 rfl Tryd.ntmps61 rfl (Ai (Ae (Aa (Ab rfl) rfl (Ag (Ad (Af ?_))))));refine Ai (Ai (Ae (Aa (Ac rfl) rfl (Aa (Ac rfl) rfl (Ar Tryd.call62 rfl (λw hw=>Eh p q (by first | omega | (simp;omega)) w) rfl (Ag (Ad (Af ?_))))))));refine A0 (b:=AP p q) rfl (λha=>?_) (λha=>?_)
 ·have hb:=ha;try simp only[Kk,Kj] at hb
  have hc:=ha;try simp at hc
  refine Ai (Ae (Aa (Ac rfl) rfl (Aa (Ac rfl) rfl (Aa (AE Cw rfl) rfl (Aa (Ac rfl) rfl (Aa (AE Cw rfl) rfl (Aa (ER rfl rfl (IntWalk.i64_in _ (by first | omega | (have:=CP (by assumption);omega)))) rfl (Aa (Bz Cw rfl rfl (by first | omega | (have:=CP (by assumption);omega)) (by first | omega | (have:=CP (by assumption);omega))) rfl (Aa (Ab rfl) rfl (Ag (Ad (Af ?_))))))))))));refine Aq (An (Ap (B3 rfl rfl) ?_));exact AB (by simp[AT,ha])
 ·have hb:=ha;try simp only[Kk,Kj] at hb
  have hc:=ha;try simp at hc
  refine Ax (Ad (Af ?_));refine Ai (Ae (Aa (Ac rfl) rfl (Aa (Ab rfl) rfl (Ag (Ad (Af ?_))))));refine Aq (Ap (B3 rfl rfl) ?_);exact AB (by simp[AT,ha])
theorem GK (p:List UInt8)(q:List UInt8)(hp:p.length≤9223372036854775807)(w:World):Calls Tryd.prog 43 [.string (B (p)),.string (B (q))].toArray w (AQ w (.string (B (AT p q)))):=by
 refine A6 (n:=8) Tryd.func43 rfl Tryd.ntmps43 rfl (Ai (Ae (Aa (Ab rfl) rfl (Ag (Ad (Af ?_))))));refine Ai (Ae (Aa (Ac rfl) rfl (Aa (Ac rfl) rfl (Ar Tryd.call61 rfl (λw hw=>Gd p q (by first | omega | (simp;omega)) w) rfl (Aa (Ab rfl) rfl (Ag (Ad (Af ?_))))))));refine Aq (Ap (B3 rfl rfl) ?_);exact AB (by first | rfl | simp[])
theorem EV (p:List UInt8)(m:Int)(w:World):Calls Tryd.prog 69 [.string (B (p)),.int .u8 (m)].toArray w (AQ w (.int .i64 (Lib.indexByte p (Int.toNat m).toUInt8))):=by
 refine A6 (n:=8) Tryd.func69 rfl Tryd.ntmps69 rfl (Ai (Ae (Aa (Ab rfl) rfl (Ag (Ad (Af ?_))))));refine Ai (Ae (Aa (Ac rfl) rfl (Aa (Ac rfl) rfl (Aa (v:=.int .i64 (Lib.indexByte p (Int.toNat (m)).toUInt8)) (JF rfl (DT Tryd.func80 (by kernel_rfl) (by kernel_rfl) (by kernel_rfl) (by kernel_rfl) p (m))) rfl (Aa (Ab rfl) rfl (Ag (Ad (Af ?_))))))));refine Aq (Ap (B3 rfl rfl) ?_);exact AB (by first | rfl | simp[])
theorem HJ (p:List UInt8)(c:UInt8)(w:World):Calls Tryd.prog 57 [.string (B (p)),.string (B ([c]))].toArray w (AQ w (.int .i64 (Lib.indexByte p c))):=by
 refine A6 (n:=143) Tryd.func57 rfl Tryd.ntmps57 rfl (Ai (Ae (Aa (Ab rfl) rfl (Ag (Ad (Af ?_))))));refine Ai (Ae (Aa (Ac rfl) rfl (Aa (G1 (z:=1) Cw rfl (by simp)) rfl (Aa (Ab rfl) rfl (Ag (Ad (Af ?_)))))));refine Ai (A5 (Az [(0,.string (B (p))),(1,.string (B ([c]))),(4,.int .i64 (0)),(5,.int .i64 (1)),(16,.bool (decide ((([c]:List UInt8))=(p))))] [] (φ:=True) ?_ (λhd=>?_)))
 ·exact Ae (Aa (Ac rfl) rfl (Aa (Cg rfl rfl) rfl (Aa (Ac rfl) rfl (Aj rfl rfl (by decide) (Aa (Ac rfl) rfl (Aj rfl rfl (by decide) (Aa (Ac rfl) rfl (Aj rfl rfl (by decide) (Aa (CU rfl rfl) rfl (Aa (Am rfl (by decide) rfl) rfl (Aa (Ab rfl) rfl (Ag (Ad (As trivial ⟨rfl,rfl,rfl,rfl,rfl,trivial⟩ .slnil))))))))))))))
 refine A0 (b:=decide ((([c]:List UInt8))=(p))) rfl (λha=>?_) (λha=>?_)
 ·have hc:=ha;try simp only[Kk,Kj] at hc
  have hb:=ha;try simp only[Kk,Kj,K0,K6,KC,KE,KA,K7,not_or,Int.not_lt,Int.not_le] at hb
  refine Ai (Ae (Aa (Ab rfl) rfl (Ag (Ad (Af ?_)))));refine Aq (A7 (An (Ap (B3 rfl rfl) ?_)));exact AB (by first | (simp;done) | (rw[← hb];simp[Lib.indexByte];done))
 ·have hc:=ha;try simp only[Kk,Kj] at hc
  have hb:=ha;try simp only[Kk,Kj,K0,K6,KC,KE,KA,K7,not_or,Int.not_lt,Int.not_le] at hb
  refine Ai (Ae (Aa (Ac rfl) rfl (Aa (Cg rfl rfl) rfl (Aa (Ab rfl) rfl (Ag (Ad (Af ?_)))))));refine Ca rfl (by decide) (Ai (Ae (Aa (Ac rfl) rfl (Aa (Ac rfl) rfl (Aa (Ec (c:=c) Cw rfl rfl (by decide) rfl) rfl (Ar Tryd.call69 rfl (λw hw=>EV p (UInt8.toNat c:Int) w) rfl (Aa (Ab rfl) rfl (Ag (Ad (Af ?_))))))))));refine Aq (A7 (An (Ap (B3 rfl rfl) ?_)));exact AB (by first | (simp;done) | (rw[← hb];simp[Lib.indexByte];done))
theorem J0 (p:List UInt8)(c:UInt8)(hp:p.length≤9223372036854775807)(w:World):Calls Tryd.prog 37 [.string (B (p)),.string (B ([c]))].toArray w (AQ w (.tuple #[.string (B (BA p c)),.string (B (AY p c)),.bool (I8 p c)])):=by
 refine A6 (n:=23) Tryd.func37 rfl Tryd.ntmps37 rfl (Ai (Ae (Aa (Ab rfl) rfl (Aa (Ab rfl) rfl (Aa (Ab rfl) rfl (Ag (Ad (Af ?_))))))));refine Ai (Ai (Ae (Aa (Ac rfl) rfl (Aa (Ac rfl) rfl (Ar Tryd.call57 rfl (λw hw=>HJ p c w) rfl ?_)))));have hd:=Jq p c;refine Aa (Ab rfl) rfl (Ag (Ad (Af ?_)));refine Ai (Ae (Aa (Ac rfl) rfl (Aa (Dw rfl rfl) rfl (Ag (Ad (Af ?_))))));refine A0 (b:=decide ((0)≤(Lib.indexByte p c))) rfl (λha=>?_) (λha=>?_)
 ·have hb:=ha;try simp only[Kk,Kj] at hb
  have hc:=ha;try simp at hc
  refine Ai (Do (by kernel_rfl) (by kernel_rfl) (BT (Ac rfl) rfl (BT (Ac rfl) rfl (BT (Bz Cw rfl rfl (by first | omega | (simp;omega)) (by first | omega | (simp;omega))) rfl (BT (Ac rfl) rfl (BT (Ac rfl) rfl (BT (Ac rfl) rfl (BT (G1 (z:=1) Cw rfl (by simp)) rfl (BT (C3 rfl rfl (IntWalk.i64_in _ (by omega))) rfl (BT (BK Cw rfl rfl (by first | omega | (simp;omega)) (by first | omega | (simp;omega))) rfl (BT (Ab rfl) rfl (BT (Ab rfl) rfl (BT (Ab rfl) rfl (Ht (Ad (Af ?_))))))))))))))));refine Aq (An (Ap (IH rfl rfl rfl rfl) ?_));exact AB (by simp[BA,AY,I8,B,hb])
 ·have hb:=ha;try simp only[Kk,Kj] at hb
  have hc:=ha;try simp at hc
  refine Ax (Ad (Af ?_));refine Ai (Ae (Aa (Ac rfl) rfl (Aa (Ab rfl) rfl (Aa (Ab rfl) rfl (Aa (Ab rfl) rfl (Ag (Ad (Af ?_))))))));refine Aq (Ap (IH rfl rfl rfl rfl) ?_);exact AB (by simp[BA,AY,I8,B,hb])
theorem IT (p:List UInt8)(c:UInt8)(hp:p.length≤9223372036854775807)(w:World):Calls Tryd.prog 27 [.string (B (p)),.string (B ([c]))].toArray w (AQ w (.tuple #[.string (B (BA p c)),.string (B (AY p c)),.bool (I8 p c)])):=by
 refine A6 (n:=13) Tryd.func27 rfl Tryd.ntmps27 rfl (Ai (Ae (Aa (Ab rfl) rfl (Aa (Ab rfl) rfl (Aa (Ab rfl) rfl (Ag (Ad (Af ?_))))))));refine Ai (Ae (Aa (Ac rfl) rfl (Aa (Ac rfl) rfl (Ar Tryd.call37 rfl (λw hw=>J0 p c (by first | omega | (simp;omega)) w) rfl (Aa (Ao rfl rfl) rfl (Aa (Ao rfl rfl) rfl (Aa (Ao rfl rfl) rfl (Aa (Ab rfl) rfl (Aa (Ab rfl) rfl (Aa (Ab rfl) rfl (Ag (Ad (Af ?_)))))))))))));refine Aq (Ap (IH rfl rfl rfl rfl) ?_);exact AB (by first | rfl | simp[])
def Il (p:List UInt8):Bool:=decide ((0:Int)<p.length)&&decide (Cy p 0=45)
def DI (p:List UInt8):List UInt8:=if Il p=true then p.drop 1 else p
theorem HW (p:List UInt8):(DI p).length≤p.length:=by unfold DI;split<;>simp
def Bq (_:Nat)(u:UInt8):Bool:=!(decide ((u.toNat:Int)<48)||decide (57<(u.toNat:Int)))
def E7 (p:List UInt8):Bool:=!(decide (DI p=[])||(decide (Cy (DI p) 0=48)&&!decide (p=[48])))&&Au Bq 0 (DI p)
theorem BP {p:List UInt8}(h : ¬ p=[]):(0:Int)<p.length:=by
 cases p with
 | nil=>exact absurd rfl h
 | cons a r=>simp
theorem Ei {p:List UInt8}{k:Nat}(h:(k:Int)<p.length):∃u,p[k]? =some u:=⟨p[k]'(by omega),Kx (by omega)⟩
theorem HX {p:List UInt8}{k:Nat}(hi:k≤p.length∧Au Bq 0 p=Au Bq k (p.drop k))(h:(k:Int)<p.length)(ht:(decide (Cy p k<48)||decide (57<Cy p k))=false) :
  (k+1≤p.length∧Au Bq 0 p=Au Bq (k+1) (p.drop (k+1)))∧p.length-(k+1)<p.length-k:=by
 obtain⟨u,hu⟩:=Ei h;rw[HZ hu] at ht;exact D7 hi hu (by simp only[Bq,ht];rfl)
theorem Jz {p:List UInt8}{k:Nat}(hi:k≤p.length∧Au Bq 0 p=Au Bq k (p.drop k))(h:(k:Int)<p.length)(ht:(decide (Cy p k<48)||decide (57<Cy p k))=true):Au Bq 0 p=false:=by
 obtain⟨u,hu⟩:=Ei h;rw[HZ hu] at ht;exact Gf hi hu (by simp only[Bq,ht];rfl)
theorem I6 {p:List UInt8}{k:Nat}(hi:k≤p.length∧Au Bq 0 p=Au Bq k (p.drop k))(h : ¬ (k:Int)<p.length):Au Bq 0 p=true:=E0 hi (by omega)
def B1 (p:List UInt8)(m:Int):Nat→Int
 | 0=>-1
 | k+1=>if Cy p k=m then k else B1 p m k
def AF (p:List UInt8)(m:Int):Int:=B1 p m p.length
theorem Eg (p:List UInt8)(m:Int):∀k,-1≤B1 p m k∧B1 p m k<k
 | 0=>by simp[B1]
 | k+1=>by
  have:=Eg p m k;unfold B1
  split<;>omega
theorem HD (p:List UInt8)(m:Int) : -1≤AF p m∧AF p m<p.length:=Eg p m _
theorem HB {p:List UInt8}{m:Int}{k:Nat}(hi:k≤p.length∧AF p m=B1 p m k)(h:(0:Int)≤(k:Int)-1)(ht:Cy p ((k:Int)-1)=m):(k:Int)-1=AF p m:=by
 obtain⟨j,rfl⟩:∃j,k=j+1:=⟨k-1,by omega⟩
 have e:((j+1:Nat):Int)-1=j:=by omega
 rw[e] at ht ⊢;rw[hi.2,B1,if_pos ht]
theorem GY {p:List UInt8}{m:Int}{k:Nat}(hi:k≤p.length∧AF p m=B1 p m k)(h:(0:Int)≤(k:Int)-1)(ht : ¬ Cy p ((k:Int)-1)=m):(k-1≤p.length∧AF p m=B1 p m (k-1))∧k-1<k:=by
 obtain⟨j,rfl⟩:∃j,k=j+1:=⟨k-1,by omega⟩
 have e:((j+1:Nat):Int)-1=j:=by omega
 rw[e] at ht;refine⟨⟨by omega,?_⟩,by omega⟩;rw[hi.2,B1,if_neg ht];rfl
theorem HC {p:List UInt8}{m:Int}{k:Nat}(hi:k≤p.length∧AF p m=B1 p m k)(h : ¬ (0:Int)≤(k:Int)-1):(-1:Int)=AF p m:=by
 obtain rfl:k=0:=by omega
 rw[hi.2];rfl
def BV (p:List UInt8):Int:=if E7 p=true then(match Lib.atoiAll p with | .ok v=>if De v=true then 0 else 2 | _=>2) else 1
def AG (p:List UInt8):Int:=if E7 p=true then(match Lib.atoiAll p with | .ok v=>if De v=true then v else 0 | _=>0) else 0
theorem DJ:∀(l:List UInt8) (i acc:Nat),Au Bq i l=true→(∃u,Lib.parseUint10 acc l = .ok u)∨Lib.parseUint10 acc l = .range
 | [],_,acc,_=>.inl ⟨acc,rfl⟩
 | c::r,i,acc,h=>by
  simp only[Au,K0] at h;have hc:48≤c.toNat∧c.toNat≤57:=by have:=h.1;simp[Bq] at this;omega
  unfold Lib.parseUint10;rw[if_pos hc]
  split
  ·exact .inr rfl
  ·split
   ·exact .inr rfl
   ·exact DJ r _ _ h.2
theorem G3 {l:List UInt8}(hne:l≠[])(h:Au Bq 0 l=true):(∃u,Lib.parseMag l = .ok u)∨Lib.parseMag l = .range:=by
 unfold Lib.parseMag;rw[if_neg hne];exact DJ l 0 0 h
theorem Ez {e:Lib.NumEnd Nat}(h:(∃u,e = .ok u)∨e = .range):(∃v,Lib.signless e = .ok v)∨Lib.signless e = .range:=by
 rcases h with⟨u,rfl⟩ | rfl
 ·unfold Lib.signless
  by_cases h:9223372036854775808≤u
  ·exact .inr (by simp[h])
  ·exact .inl ⟨_,by simp[h];rfl⟩
 ·exact .inr rfl
theorem Ge {e:Lib.NumEnd Nat}(h:(∃u,e = .ok u)∨e = .range):(∃v,Lib.signed e = .ok v)∨Lib.signed e = .range:=by
 rcases h with⟨u,rfl⟩ | rfl
 ·unfold Lib.signed
  by_cases h:9223372036854775808<u
  ·exact .inr (by simp[h])
  ·exact .inl ⟨_,by simp[h];rfl⟩
 ·exact .inr rfl
theorem Ia {p:List UInt8}(h:E7 p=true):(∃v,Lib.atoiAll p = .ok v∧-9223372036854775808≤v∧v≤9223372036854775807)∨Lib.atoiAll p = .range:=by
 have key:(∃v,Lib.atoiAll p = .ok v)∨Lib.atoiAll p = .range:=by
  simp only[E7,K0,KC,K7,Kj] at h;obtain⟨⟨hne,_⟩,hall⟩:=h
  cases p with
  | nil=>simp[DI,Il] at hne
  | cons c r=>
   by_cases hc:c=45
   ·subst hc;have hd:DI (45::r)=r:=by simp[DI,Il,Cy]
    rw[hd] at hne hall;rw[Lib.atoiAll_minus];exact Ge (G3 hne hall)
   ·have hb : ¬ Cy (c::r) 0=45:=by
     simp only[Cy,Int.toNat_zero,List.getElem?_cons_zero,Option.getD_some];intro e;exact hc (UInt8.toNat_inj.1 (by simpa using(by omega:c.toNat=45)))
    have hd:DI (c::r)=c::r:=by simp[DI,Il,hb]
    rw[hd] at hne hall;have ha:48≤c.toNat:=by
     simp only[Au,K0] at hall;have:=hall.1;simp[Bq] at this;omega
    rw[Lib.atoiAll_plain c r (by omega) (by omega)];exact Ez (G3 hne hall)
 rcases key with⟨v,hv⟩ | h
 ·exact .inl ⟨v,hv,Lib.atoiAll_bounds hv⟩
 ·exact .inr h
theorem EN (p:List UInt8) : -1000000000000≤AG p∧AG p≤1000000000000:=by
 unfold AG
 split
 ·split
  ·split
   ·rename_i h;simp[De] at h;omega
   ·omega
  ·omega
 ·omega
theorem HI (m:Int)(h0 : -9223372036854775808≤m)(h1:m≤9223372036854775807):(Lib.itoa m).length≤21:=Lib.itoa_length_le m h0 h1
theorem C1 (p q:List UInt8):(AT p q).length≤p.length:=by unfold AT;split<;>simp
def BH (p:List UInt8):Bool:=decide (BV p=0)&&decide (1≤AG p)&&decide (AG p≤32)
def D9 (t f q:List UInt8):Bool:=AX t&&AX f&&(AX q||BH q)
def EM (t f q:List UInt8):List UInt8:=if D9 t f q=true then t++[47]++f++[58]++q else[]
def Gg (t f q:List UInt8):Int:=if D9 t f q=true then 0 else 4
def II (s:List UInt8):List UInt8:=BA s 47
def IK (s:List UInt8):List UInt8:=BA (AY s 47) 58
def IJ (s:List UInt8):List UInt8:=AY (AY s 47) 58
def DB (s:List UInt8):Bool:=decide (Gg (II s) (IK s) (IJ s)=0)&&decide (EM (II s) (IK s) (IJ s)=s)
def CC (b:Bool)(p:List UInt8):List UInt8:=if b=true then p else[]
def BY (id:List UInt8)(m:Int):List UInt8:=id++[46]++Lib.itoa m
def Bj (id:List UInt8)(m:Int):Int:=if Hb id=true then(if 0≤m∧m≤1000000000000 then(if (BY id m).length≤64 then 0 else 3) else 2) else 4
def BX (id:List UInt8)(m:Int):List UInt8:=if Bj id m=0 then BY id m else[]
def Dk (s:List UInt8):List UInt8:=s.take (AF s 46).toNat
def Du (s:List UInt8):List UInt8:=s.drop (AF s 46+1).toNat
def Cd (s:List UInt8):Bool:=decide (0≤AF s 46)&&decide (BV (Du s)=0)&&decide (Bj (Dk s) (AG (Du s))=0)&&decide (BX (Dk s) (AG (Du s))=s)
def Dt (s:List UInt8):Bool:=Hb s||(decide (s=[42])||(Hb (AT s [42])&&(AP s [42]&&decide ((s.length:Int)≤64))))
def H9 (p s:List UInt8):Bool:=Dt p&&(bif AP p [42] then E3 s (AT p [42]) else decide (p=s))
def J1 (p q:List UInt8):Bool:=Dt p&&(Dt q&&(!(AP q [42]&&!(AP p [42]))&&H9 p (AT q [42])))
theorem EL (t f q:List UInt8):(EM t f q).length≤50+q.length:=by
 unfold EM
 split
 ·rename_i h
  simp only[D9,AX,K0,Kk] at h;simp;omega
 ·simp
theorem CX (b:Bool)(p:List UInt8):(CC b p).length≤p.length:=by unfold CC;split<;>simp
theorem Is (b:Bool)(s:List UInt8):(CC b (II s)).length≤s.length:=Nat.le_trans (CX _ _) (Dc _ _)
theorem Iu (b:Bool)(s:List UInt8):(CC b (IK s)).length≤s.length:=Nat.le_trans (CX _ _) (Nat.le_trans (Dc _ _) (C4 _ _))
theorem It (b:Bool)(s:List UInt8):(CC b (IJ s)).length≤s.length:=Nat.le_trans (CX _ _) (Nat.le_trans (C4 _ _) (C4 _ _))
theorem DK (id:List UInt8)(m:Int):(BX id m).length≤64:=by
 unfold BX
 split
 ·rename_i h
  unfold Bj at h
  split at h
  ·split at h
   ·split at h
    ·assumption
    ·omega
   ·omega
  ·omega
 ·simp
theorem EP (b:Bool)(s:List UInt8):(CC b (Dk s)).length≤s.length:=Nat.le_trans (CX _ _) (by simp[Dk];omega)
end Go.Proofs.YthjcjnbngagagaaDoor
