/-
  Texts of the proof, put together: AL, FwA, FwB, QA, FwC, FwD, QB, PlA, PQ0, QC, FwE, FwF, FwH, FwK, QD, QE, QR, QS, QZ, Q0, Q3, ShelfN, FwG.
-/
import Derived.Test.YtoegakndmanfoaaGreatDoorProg
import Derived.WalkKit
import Derived.Deep.QuietTactic
import Derived.Deep.LoopGhost
import Derived.Lib.Strings
import Derived.Scope
import GoSem.Core.View
import GoSem.Op.String
import Derived.IntWalk
import Derived.Lib.Bytealg
import Derived.Laws.AppendOwn
import Derived.Laws.OwnMore
import Derived.Great.FillDense
import Derived.Laws.BytesString
import Derived.Lib.Builder
import Derived.Lib.UnsafeStr
import Derived.Lib.AppendStr
import Derived.Laws.Externs
import Derived.Shelf.Strconv.Itoa3
import Derived.Shelf.LaysM
import Derived.Shelf.LaysC
import Derived.Shelf.Strconv.AtoiAll
import Derived.Shelf.Strconv.ErrVarAll
import Derived.Lib.SmallJoins
import Derived.Lib.AppendIntMem
import Derived.Lib.TrailingZeros
import Derived.Lib.LaidTab
import Derived.Test.YtoegakndmanfoaaGreatDoorRows
open Decidable renaming decide → Ac
open Option renaming some → Ad, none → Ai
open Bool renaming true → Af, false → Ah
open List renaming length → Ae, drop → Ap, take → Aq, replicate → Au, range → As
open Int renaming toNat → Ao
open UInt8 renaming ofNat → Ar
open Go.Proofs.Tryz
namespace Go.Proofs.YtoegakndmanfoaaGreatDoor
open Go
abbrev NL:=@Tryz.isAgg107
abbrev NK:=@Tryz.isAgg110
abbrev Iu:=@Tryz.isAgg138
abbrev K0:=@Tryz.isAgg156
abbrev J8:=@Tryz.isAgg168
abbrev J7:=@Tryz.isAgg170
abbrev J6:=@Tryz.isAgg178
abbrev X6:=@Tryz.isAgg25
abbrev EF:=@Tryz.isAgg3
abbrev Tx:=@Tryz.isAgg34
abbrev UR:=@Tryz.isAgg36
abbrev GK:=@Tryz.isAgg38
abbrev ya4:=@Tryz.isAgg4
abbrev Lj:=@Tryz.isAgg45
abbrev Tw:=@Tryz.isAgg51
abbrev Li:=@Tryz.isAgg64
abbrev UQ:=@Tryz.isAgg66
abbrev UP:=@Tryz.isAgg70
abbrev PU:=@Tryz.isAgg75
abbrev Xv:=@Tryz.isAgg9
abbrev PT:=@Tryz.call100
abbrev G6:=@Tryz.call109
abbrev Mw:=@Tryz.call111
abbrev NJ:=@Tryz.call113
abbrev NI:=@Tryz.call147
abbrev UO:=@Tryz.call28
abbrev O1:=@Tryz.call31
abbrev PS:=@Tryz.call43
abbrev Rh:=@Tryz.call56
abbrev Tv:=@Tryz.call60
abbrev O0:=@Tryz.call62
abbrev Oz:=@Tryz.call66
abbrev Rg:=@Tryz.call71
abbrev PR:=@Tryz.results10
abbrev Mv:=@Tryz.results100
abbrev HF:=@Tryz.results104
abbrev PQ:=@Tryz.results108
abbrev UN:=@Tryz.results11
abbrev Sw:=@Tryz.results116
abbrev Sv:=@Tryz.results117
abbrev PP:=@Tryz.results123
abbrev NH:=@Tryz.results124
abbrev PN:=@Tryz.results125
abbrev Mu:=@Tryz.results128
abbrev PM:=@Tryz.results130
abbrev Mt:=@Tryz.results165
abbrev EZ:=@Tryz.results166
abbrev NG:=@Tryz.results167
abbrev Su:=@Tryz.results182
abbrev Ss:=@Tryz.results201
abbrev Hd:=@Tryz.results244
abbrev I6:=@Tryz.results26
abbrev U7:=@Tryz.results3
abbrev UM:=@Tryz.results40
abbrev X5:=@Tryz.results44
abbrev X4:=@Tryz.results47
abbrev X3:=@Tryz.results54
abbrev yr6:=@Tryz.results6
abbrev UL:=@Tryz.results70
abbrev Tu:=@Tryz.results83
abbrev UK:=@Tryz.results86
abbrev Ms:=@Tryz.sizeOf107
abbrev PL:=@Tryz.sizeOf120
abbrev I5:=@Tryz.sizeOf122
abbrev Mr:=@Tryz.sizeOf127
abbrev Sr:=@Tryz.sizeOf128
abbrev Ge:=@Tryz.sizeOf138
abbrev PK:=@Tryz.sizeOf154
abbrev Di:=@Tryz.sizeOf156
abbrev I4:=@Tryz.sizeOf168
abbrev DS:=@Tryz.sizeOf170
abbrev GH:=@Tryz.sizeOf178
abbrev J4:=@Tryz.sizeOf184
abbrev I3:=@Tryz.sizeOf210
abbrev PJ:=@Tryz.sizeOf229
abbrev Mq:=@Tryz.sizeOf237
abbrev Sq:=@Tryz.sizeOf240
abbrev Rf:=@Tryz.sizeOf25
abbrev NF:=@Tryz.sizeOf268
abbrev D9:=@Tryz.sizeOf3
abbrev PI:=@Tryz.sizeOf33
abbrev Hv:=@Tryz.sizeOf34
abbrev N3:=@Tryz.sizeOf36
abbrev D1:=@Tryz.sizeOf38
abbrev Ny:=@Tryz.sizeOf4
abbrev Ky:=@Tryz.sizeOf45
abbrev Gq:=@Tryz.sizeOf51
abbrev X2:=@Tryz.sizeOf57
abbrev X1:=@Tryz.sizeOf58
abbrev Re:=@Tryz.sizeOf60
abbrev X0:=@Tryz.sizeOf63
abbrev Jw:=@Tryz.sizeOf64
abbrev Hu:=@Tryz.sizeOf66
abbrev LT:=@Tryz.sizeOf70
abbrev Xz:=@Tryz.sizeOf71
abbrev Ht:=@Tryz.sizeOf75
abbrev IZ:=@Tryz.sizeOf9
abbrev I2:=@Tryz.sizeOf94
abbrev LK:=@Tryz.underlying100
abbrev LJ:=@Tryz.underlying107
abbrev HE:=@Tryz.underlying112
abbrev DV:=@Tryz.underlying120
abbrev So:=@Tryz.underlying122
abbrev DB:=@Tryz.underlying128
abbrev G5:=@Tryz.underlying135
abbrev EO:=@Tryz.underlying138
abbrev EY:=@Tryz.underlying146
abbrev Mp:=@Tryz.underlying156
abbrev HD:=@Tryz.underlying170
abbrev PH:=@Tryz.underlying178
abbrev DA:=@Tryz.underlying184
abbrev PG:=@Tryz.underlying188
abbrev UJ:=@Tryz.underlying193
abbrev Tt:=@Tryz.underlying21
abbrev Sn:=@Tryz.underlying210
abbrev NE:=@Tryz.underlying219
abbrev ZG:=@Tryz.underlying22
abbrev HC:=@Tryz.underlying221
abbrev It:=@Tryz.underlying226
abbrev Is:=@Tryz.underlying229
abbrev UI:=@Tryz.underlying241
abbrev UH:=@Tryz.underlying269
abbrev UG:=@Tryz.underlying270
abbrev QX:=@Tryz.underlying3
abbrev ZF:=@Tryz.underlying33
abbrev Rd:=@Tryz.underlying34
abbrev Ts:=@Tryz.underlying38
abbrev Gd:=@Tryz.underlying45
abbrev U6:=@Tryz.underlying5
abbrev N2:=@Tryz.underlying51
abbrev UF:=@Tryz.underlying57
abbrev ZE:=@Tryz.underlying58
abbrev ZD:=@Tryz.underlying60
abbrev ZC:=@Tryz.underlying63
abbrev HP:=@Tryz.underlying64
abbrev Kx:=@Tryz.underlying66
abbrev JG:=@Tryz.underlying70
abbrev UE:=@Tryz.underlying75
abbrev UD:=@Tryz.underlying79
abbrev Rc:=@Tryz.underlying86
abbrev Lg:=@Tryz.underlying9
abbrev Mo:=@Tryz.zeroValue122
abbrev PF:=@Tryz.zeroValue127
abbrev E6:=@Tryz.zeroValue156
abbrev J3:=@Tryz.zeroValue170
abbrev Sm:=@Tryz.zeroValue184
abbrev PE:=@Tryz.zeroValue210
abbrev QW:=@Tryz.zeroValue3
abbrev UC:=@Tryz.zeroValue33
abbrev Xy:=@Tryz.zeroValue34
abbrev Mn:=@Tryz.zeroValue38
abbrev LS:=@Tryz.zeroValue51
abbrev ZB:=@Tryz.zeroValue66
abbrev Tr:=@Tryz.zeroValue75
abbrev Nx:=@Tryz.zeroValue9
abbrev ZA:=@Tryz.zeroValue94
theorem Aa {α:Sort _}{a:α}:a=a:=rfl
variable{p:Prop}
theorem Ab (h:p:=by omega):p:=h
theorem Aj (h:p:=by simp):p:=h
theorem Al (h:p:=by decide):p:=h
theorem Am (h:p:=by simp;omega):p:=h
theorem Ak (h:p:=by kernel_rfl):p:=h
theorem An (h:p:=by rfl):p:=h
abbrev Ae2:=@List.getD_eq_getElem?_getD
abbrev Ae3:=@List.getElem?_eq_getElem
abbrev Ae4:=@Nat.lt_succ_self
abbrev Ae5:=@List.Perm.refl
abbrev Ae6:=@List.Perm.cons
abbrev Ae7:=@List.length_map
abbrev Ae8:=@decide_eq_false
abbrev Ae9:=@Bool.and_eq_true
abbrev AeA:=@decide_eq_true_eq
abbrev AeB:=@List.mem_of_getElem?
abbrev AeC:=@List.getElem?_map
abbrev AeD:=@Bool.not_true
abbrev AeE:=@Option.getD_some
abbrev AeF:=@List.getElem?_take
abbrev AeG:=@Nat.le_refl
abbrev AeH:=@Bool.false_or
abbrev AeI:=@decide_eq_true
abbrev AeJ:=@List.all_eq_true
abbrev AeK:=@Nat.zero_add
abbrev AeL:=@List.length_cons
abbrev AeM:=@Bool.or_eq_true
abbrev AeN:=@if_neg
abbrev AeO:=@List.map_cons
abbrev AeP:=@of_decide_eq_true
abbrev AeQ:=@List.append_assoc
abbrev AeR:=@Nat.zero_le
abbrev AeS:=@Bool.or_false
abbrev AeT:=@List.eq_nil_of_length_eq_zero
abbrev AeU:=@Bool.not_eq_true'
abbrev AeV:=@List.map_map
abbrev AeW:=@Bool.true_or
abbrev AeX:=@if_pos
abbrev AeY:=@List.mem_singleton
abbrev AeZ:=@Bool.not_false
abbrev Afa:=@Bool.false_eq_true
abbrev Afb:=@Bool.false_and
abbrev Afc:=@Bool.and_false
abbrev Afd:=@List.take_append_drop
abbrev Afe:=@List.getElem?_append_left
abbrev Aff:=@Bool.eq_iff_iff
abbrev Afg:=@Bool.true_and
abbrev Afh:=@Bool.and_true
open Go Go.RowKit
set_option linter.unusedVariables false
abbrev Fr:=List (Nat×Value)
def look:Fr→Nat→Option Value
 | [],_=>Ai
 | p::l,i=>bif Nat.beq p.1 i then Ad p.2 else look l i
theorem Ds (j:Nat)(v:Value)(l:Fr)(i:Nat):look ((j,v)::l) i=if j=i then Ad v else look l i:=by
 by_cases h:j=i
 ·subst h;simp[look]
 ·have:Nat.beq j i=Ah:=by
   cases hb:Nat.beq j i
   ·rfl
   ·exact absurd (Nat.eq_of_beq_eq_true hb) h
  simp[look,this,h]
structure DU (n:Nat) (l:Fr) (a:Act):Prop where
 size:a.tmps.size=n
 defers:a.defers=[]
 tm:∀i v,look l i=Ad v→a.tmps[i]? =Ad v
def ev:Fr→Operand→Option Value
 | l,.tmp t=>look l t
 | _,.const v=>Ad v
 | _,.global g=>Ad (.pointer (Ad ⟨g,0,Ai⟩))
 | _,.func f=>Ad (.func (.func f) #[] #[])
section
variable {n : Nat} {l l' : Fr} {a : Act}
theorem DU.eval (h:DU n l a){x:Operand}{v:Value}(hx:ev l x=Ad v):a.eval x=v:=by
 cases x with
 | tmp t=>simp[Act.eval,Array.getD_eq_getD_getElem?,h.tm t v hx]
 | const u=>simp only[ev,Option.some.injEq] at hx;subst hx;rfl
 | global g=>simpa[ev,Act.eval] using hx
 | func f=>simpa[ev,Act.eval] using hx
theorem DU.put (h:DU n l a){d:Nat}(hd:Nat.blt d n=Af)(v:Value):DU n ((d,v)::l) (a.put (Ad d) v):=by
 have hd':d<n:=by simpa using hd
 refine⟨by simp[Act.put,h.size],by simp[Act.put,h.defers],λi u hi=>?_⟩;rw[Ds] at hi;simp only[Act.put,Array.getElem?_setIfInBounds]
 split at hi
 ·rename_i e;subst e;simp at hi;subst hi;simp[h.size,hd']
 ·rename_i e;rw[AeN e];exact h.tm i u hi
def EU:Fr→Fr→Prop
 | [],_=>True
 | p::r,l=>look l p.1=Ad p.2∧EU r l
theorem EU.look:∀{l' l:Fr},EU l' l→∀i v,look l' i=Ad v→Proofs.YtoegakndmanfoaaGreatDoor.look l i=Ad v
 | [],_,_,i,v,h=>by simp[Proofs.YtoegakndmanfoaaGreatDoor.look] at h
 | p::r,l,⟨h1,h2⟩,i,v,h=>by
  obtain⟨j,u⟩:=p;rw[Ds] at h
  split at h
  ·rename_i e;subst e;simp at h;subst h;exact h1
  ·exact EU.look h2 i v h
theorem DU.sub (h:DU n l a)(hs:EU l' l):DU n l' a:=⟨h.size,h.defers,λi v hi=>h.tm i v (hs.look i v hi)⟩
end
inductive Ent where
 | blk (b:Nat) (o:Obj)
 | row (v:Value) (e:TypeId) (sz:Nat) (n:Nat) (xs:List Value)
def Ent.foot:Ent→List Nat
 | .blk b _=>[b]
 | .row v _ _ _ _=>v.ownBlock.toList
def Ent.holds (w:World):Ent→Prop
 | .blk b o=>w.heap[b]? =Ad o
 | .row v e sz n xs=>w.ownsRow 0 e sz v n xs
theorem Ent.lt {w:World}{e:Ent}(h:e.holds w){k:Nat}(hk:k∈e.foot):k<w.heap.size:=by
 cases e with
 | blk b o=>simp[Ent.foot] at hk;subst hk;exact(Array.getElem?_eq_some_iff.1 h).1
 | row v e sz n xs=>simp[Ent.foot,Option.mem_toList] at hk;exact(World.ownsRow.lt h k hk).2
theorem Ent.keep {w w':World}{e:Ent}(h:e.holds w)(hk:∀k∈e.foot,w'.heap[k]? =w.heap[k]?):e.holds w':=by
 cases e with
 | blk b o=>exact(hk b (by simp[Ent.foot])).trans h
 | row v e sz n xs=>
  refine⟨h.1,?_⟩;rcases h.2 with hn | ⟨g,cap,cur,rfl,hb,hgg,rest⟩
  ·exact .inl hn
  ·exact .inr ⟨g,cap,cur,rfl,hb,(hk g (by simp[Ent.foot,Value.ownBlock])).trans hgg,rest⟩
structure St (w0:World) (M:List Nat) (H:List Ent) (w:World):Prop where
 os:w.os=w0.os
 tape:w.tape=w0.tape
 output:w.output=w0.output
 size:w0.heap.size≤w.heap.size
 old:∀k,k<w0.heap.size→k ∉ M→w.heap[k]? =w0.heap[k]?
 has:∀e∈H,e.holds w
 own:∀e∈H,∀k∈e.foot,w0.heap.size≤k∨k∈M
 dis:H.Pairwise (λe e'=>∀k∈e.foot,k ∉ e'.foot)
section
variable {w0 w w' : World} {M M2 : List Nat} {H H' Hr Hin Hout : List Ent}
theorem St.refl (w:World)(M:List Nat):St w M [] w:=⟨rfl,rfl,rfl,AeG _,λ_ _ _=>rfl,Aj,Aj,.nil⟩
theorem St.enter (h:St w0 M H w):St w (H.flatMap Ent.foot) H w:=
 ⟨rfl,rfl,rfl,AeG _,λ_ _ _=>rfl,h.has,λe he k hk=>.inr (List.mem_flatMap.2 ⟨e,he,hk⟩),h.dis⟩
theorem St.of_below (h:Below w0.heap.size w0 w):St w0 [] [] w:=⟨h.os,h.tape,h.output,h.size,λk hk _=>h.block k hk,Aj,Aj,.nil⟩
theorem St.sub (h:St w0 M H w)(hs:H'.Sublist H):St w0 M H' w:=
 ⟨h.os,h.tape,h.output,h.size,h.old,λe he=>h.has e (hs.subset he),λe he=>h.own e (hs.subset he),h.dis.sublist hs⟩
theorem St.perm (h:St w0 M H w)(hp:H.Perm H'):St w0 M H' w:=
 ⟨h.os,h.tape,h.output,h.size,h.old,λe he=>h.has e (hp.mem_iff.2 he),λe he=>h.own e (hp.mem_iff.2 he),
  (hp.pairwise_iff (λhxy k hk hk'=>hxy k hk' hk)).1 h.dis⟩
theorem Bn:∀{H:List Ent} {i:Nat} {e:Ent},H[i]? =Ad e→H.Perm (e::H.eraseIdx i)
 | x::r,0,e,h=>by simp at h;subst h;simp
 | x::r,i+1,e,h=>by
  simp at h;exact((Bn h).cons x).trans (List.Perm.swap e x _)
theorem St.front (h:St w0 M H w){i:Nat}{e:Ent}(hi:H[i]? =Ad e):St w0 M (e::H.eraseIdx i) w:=h.perm (Bn hi)
theorem St.mem_lt (h:St w0 M H w){e:Ent}(he:e∈H){k:Nat}(hk:k∈e.foot):k<w.heap.size:=Ent.lt (h.has e he) hk
theorem St.call (h:St w0 M (Hin++Hr) w)(h':St w M2 Hout w')(hM:∀k∈M2,∃e∈Hin,k∈e.foot):St w0 M (Hout++Hr) w':=by
 have hd:=List.pairwise_append.1 h.dis;have hM2:∀k,k<w0.heap.size→k ∉ M→k ∉ M2:=λk hk hkM hkM2=>by
  obtain⟨e,he,hke⟩:=hM k hkM2;rcases h.own e (List.mem_append_left _ he) k hke with h1 | h1
  ·omega
  ·exact hkM h1
 have hr:∀e∈Hr,∀k∈e.foot,k<w.heap.size∧k ∉ M2:=λe he k hk=>by
  refine⟨h.mem_lt (List.mem_append_right _ he) hk,λhkM2=>?_⟩;obtain⟨e',he',hke'⟩:=hM k hkM2;exact hd.2.2 e' he' e he k hke' hk
 refine⟨h'.os.trans h.os,h'.tape.trans h.tape,h'.output.trans h.output,Nat.le_trans h.size h'.size,λk hk hkM=>?_,λe he=>?_,λe he k hk=>?_,?_⟩
 ·exact(h'.old k (Nat.lt_of_lt_of_le hk h.size) (hM2 k hk hkM)).trans (h.old k hk hkM)
 ·rcases List.mem_append.1 he with he | he
  ·exact h'.has e he
  ·exact Ent.keep (h.has e (List.mem_append_right _ he)) λk hk=>h'.old k (hr e he k hk).1 (hr e he k hk).2
 ·rcases List.mem_append.1 he with he | he
  ·rcases h'.own e he k hk with h1 | h1
   ·exact .inl (Nat.le_trans h.size h1)
   ·obtain⟨e',he',hke'⟩:=hM k h1;exact h.own e' (List.mem_append_left _ he') k hke'
  ·exact h.own e (List.mem_append_right _ he) k hk
 ·refine List.pairwise_append.2 ⟨h'.dis,hd.2.1,λe he e' he' k hk hk'=>?_⟩;rcases h'.own e he k hk with h1 | h1
  ·have:=(hr e' he' k hk').1;omega
  ·exact(hr e' he' k hk').2 h1
theorem St.call0 (h:St w0 M H w)(h':St w [] Hout w'):St w0 M (Hout++H) w':=
 St.call (Hin:=[]) (by simpa using h) h' Aj
theorem St.set (h:St w0 M H w){i:Nat}{e e':Ent}(hi:H[i]? =Ad e)(os:w'.os=w.os)(tape:w'.tape=w.tape)(output:w'.output=w.output)(size:w.heap.size≤w'.heap.size)
  (hb:∀k,k<w.heap.size→k ∉ e.foot→w'.heap[k]? =w.heap[k]?) (he:e'.holds w') (hf:∀k∈e'.foot,k∈e.foot∨w.heap.size≤k):St w0 M (H.set i e') w':=by
 have hp:(e::H.eraseIdx i).Perm H:=(Bn hi).symm;have h1:St w0 M ([e]++H.eraseIdx i) w:=h.perm (Bn hi);have hil:i<Ae H:=(List.getElem?_eq_some_iff.1 hi).1;have h2:St w e.foot [e'] w':=
  ⟨os,tape,output,size,hb,by simpa using he,by simpa using λk hk=>(hf k hk).symm,Aj⟩
 have h3:=h1.call h2 (λk hk=>⟨e,Aj,hk⟩);have hq:(H.set i e')[i]? =Ad e':=by simp[hil]
 have:=Bn hq;rw[List.eraseIdx_set_eq] at this;exact h3.perm this.symm
theorem St.alloc (h:St w0 M H w)(o:Obj):St w0 M (.blk w.heap.size o::H) (w.alloc o):=by
 have h2:St w [] [.blk w.heap.size o] (w.alloc o):=
  ⟨rfl,rfl,rfl,Aj,λk hk _=>Below.heap_alloc w o k hk,by simpa[Ent.holds] using heap_alloc_new w o,by simp[Ent.foot],Aj⟩
 exact h.call0 h2
end
section
variable (P : Program) (n : Nat) (w0 : World) (M : List Nat)
def WL (ops:Array Oper)(Q:Exit→Act→World→Prop)(rest:List Oper)(l:Fr)(H:List Ent):Prop:=∀a w,DU n l a→St w0 M H w→wpList P ops Q rest a w
def WC (c:Code)(Q:Exit→Act→World→Prop)(l:Fr)(H:List Ent):Prop:=∀a w,DU n l a→St w0 M H w→c.wp P Q a w
def WK (K:Act→World→Prop)(l:Fr)(H:List Ent):Prop:=∀a w,DU n l a→St w0 M H w→K a w
def IX {S:Type}(inv:S→Prop)(fr:S→Fr)(hp:S→List Ent):Act→World→Prop:=λa w=>∃s,inv s∧DU n (fr s) a∧St w0 M (hp s) w
def Cd (l:Fr)(H:List Ent)(o:Oper)(v:Value):Prop:=∀a w,DU n l a→St w0 M H w→(execOp a.eval o).run P w = .ok (.value v) w
end
def U9 (w:World)(M:List Nat)(Φ:Value→List Ent→Prop):Ending→World→Prop:=λe w'=>∃v H,e = .returned v∧St w M H w'∧Φ v H
def PA (w:World)(v:Value):Ending→World→Prop:=λe w'=>e = .returned v∧St w [] [] w'
variable{pos:String}{d:Nat}{ty:TypeId}{id:Nat}{b:Bool}{op:Op}{af:Array Edge}
section
variable {P : Program} {n : Nat} {w0 : World} {M : List Nat} {ops : Array Oper} {Q : Exit → Act → World → Prop} {rest : List Oper} {l l' : Fr} {H H' : List Ent} {x y c : Code} {K : Act → World → Prop}
theorem WC.sub (hl:EU l' l)(hH:H'.Sublist H)(h:WC P n w0 M c Q l' H'):WC P n w0 M c Q l H:=λa w ha hw=>h a w (ha.sub hl) (hw.sub hH)
theorem WK.sub (hl:EU l' l)(hH:H'.Sublist H)(h:WK n w0 M K l' H'):WK n w0 M K l H:=λa w ha hw=>h a w (ha.sub hl) (hw.sub hH)
theorem WL.sub (hl:EU l' l)(hH:H'.Sublist H)(h:WL P n w0 M ops Q rest l' H'):WL P n w0 M ops Q rest l H:=λa w ha hw=>h a w (ha.sub hl) (hw.sub hH)
theorem WL.front {i:Nat}{e:Ent}(hi:H[i]? =Ad e)(h:WL P n w0 M ops Q rest l (e::H.eraseIdx i)):WL P n w0 M ops Q rest l H:=λa w ha hw=>h a w ha (hw.front hi)
theorem B0 (h:WC P n w0 M x (Exit.then (λa w=>y.wp P Q a w) Q) l H):WC P n w0 M (x.seq y) Q l H:=λa w ha hw=>wp_seq (h a w ha hw)
theorem AP {S:Type}{inv:S→Prop}{fr:S→Fr}{hp:S→List Ent}(s:S)(hi:inv s)(hl:EU (fr s) l)(hH:(hp s).Sublist H):WK n w0 M (IX n w0 M inv fr hp) l H:=
 λ_ _ ha hw=>⟨s,hi,ha.sub hl,hw.sub hH⟩
theorem AV (h:WK n w0 M K l H):WK n w0 M (Exit.then K Q .normal) l H:=h
theorem A0 (h:WK n w0 M (Q (.exit id)) l H):WK n w0 M (Exit.then K Q (.exit id)) l H:=h
theorem AA (h:WK n w0 M (Q .ret) l H):WK n w0 M (Exit.then K Q .ret) l H:=h
theorem BZ (h:WK n w0 M (Q .normal) l H):WK n w0 M (Exit.inBlock id Q .normal) l H:=h
theorem CV (h:WK n w0 M (Q .ret) l H):WK n w0 M (Exit.inBlock id Q .ret) l H:=h
theorem AU {J:Prop}(b:Bool)(h1:b=Af→J)(h2:b=Ah→J):J:=by cases b;exact h2 rfl;exact h1 rfl
def Mid (n:Nat)(w0:World)(M:List Nat)(φ:Prop)(l:Fr)(H:List Ent):Act→World→Prop:=λa w=>φ∧DU n l a∧St w0 M H w
theorem AQ (l1:Fr)(H1:List Ent){φ:Prop}(h:WC P n w0 M x (Exit.then (Mid n w0 M φ l1 H1) Q) l H)(h2:φ→WC P n w0 M y Q l1 H1):WC P n w0 M (x.seq y) Q l H:=λa w ha hw=>
 wp_seq (wp_mono (h a w ha hw) λe a w q=>by
  cases e with
  | normal=>exact h2 q.1 a w q.2.1 q.2.2
  | _=>exact q)
theorem M8 {φ:Prop}{l1:Fr}{H1:List Ent}(hφ:φ)(hl:EU l1 l)(hH:H1.Sublist H):WK n w0 M (Mid n w0 M φ l1 H1) l H:=λ_ _ ha hw=>⟨hφ,ha.sub hl,hw.sub hH⟩
theorem fb {a:Bool}(h:a=b):Ad (Value.bool a)=Ad (Value.bool b):=by rw[h]
theorem DW (h:WC P n w0 M y Q l H):WK n w0 M (λa w=>y.wp P Q a w) l H:=h
theorem BC (h:WK n w0 M (Q .normal) l H):WC P n w0 M .skip Q l H:=λa w ha hw=>wp_skip (h a w ha hw)
theorem BF (h:WK n w0 M (Q (.exit id)) l H):WC P n w0 M (.exit id) Q l H:=λa w ha hw=>wp_exit (h a w ha hw)
theorem CG (h:WK n w0 M (Q .ret) l H):WC P n w0 M .ret Q l H:=λa w ha hw=>wp_ret (h a w ha hw)
theorem A6 (h:WC P n w0 M c (Exit.inBlock id Q) l H):WC P n w0 M (.block id c) Q l H:=λa w ha hw=>wp_block (h a w ha hw)
theorem Bk (h:WK n w0 M (Q .normal) l H):WK n w0 M (Exit.inBlock id Q (.exit id)) l H:=λa w ha hw=>by
 show if id=id then _ else _
 rw[AeX rfl];exact h a w ha hw
theorem OH {o:Operand}(ho:ev l o=Ad (.bool b))(h1:b=Af→WC P n w0 M x Q l H)(h2:b=Ah→WC P n w0 M y Q l H):WC P n w0 M (.cond o x y) Q l H:=
 λa w ha hw=>wp_cond_split (ha.eval ho) (λe=>h1 e a w ha hw) (λe=>h2 e a w ha hw)
theorem Be {o:Operand}(ho:ev l o=Ad (.bool b))(hb:b=Af)(h:WC P n w0 M x Q l H):WC P n w0 M (.cond o x y) Q l H:=
 λa w ha hw=>by subst hb;exact wp_cond_true (ha.eval ho) (h a w ha hw)
theorem AM {o:Operand}(ho:ev l o=Ad (.bool b))(hb:b=Ah)(h:WC P n w0 M y Q l H):WC P n w0 M (.cond o x y) Q l H:=
 λa w ha hw=>by subst hb;exact wp_cond_false (ha.eval ho) (h a w ha hw)
theorem OG {S:Type}(inv:S→Prop)(fr:S→Fr)(hp:S→List Ent)(μ:S→Nat)(s0:S)(h0:inv s0)(hl:EU (fr s0) l)(hH:(hp s0).Sublist H)
  (round:∀s,inv s→WC P n w0 M c (Exit.then (IX n w0 M (λs'=>inv s'∧μ s'<μ s) fr hp) Q) (fr s) (hp s)):WC P n w0 M (.loop c) Q l H:=λa w ha hw=>by
 refine wp_loop_ghost (λk a w=>∃s,μ s=k∧inv s∧DU n (fr s) a∧St w0 M (hp s) w) (μ s0) ⟨s0,rfl,h0,ha.sub hl,hw.sub hH⟩ ?_;rintro k a w ⟨s,rfl,hi,ha,hw⟩;refine wp_mono (round s hi a w ha hw) λe a' w' q=>?_
 cases e with
 | normal=>
  obtain⟨s',⟨hi',hlt⟩,ha',hw'⟩:=q;exact⟨μ s',hlt,s',rfl,hi',ha',hw'⟩
 | _=>exact q
theorem AF {ops:List Oper}(h:WL P n w0 M ops.toArray Q ops l H):WC P n w0 M (.region id ops.toArray Ah) Q l H:=λa w ha hw=>wp_region_lit (h a w ha hw)
theorem AL (h:WK n w0 M (Q .normal) l H):WL P n w0 M ops Q [] l H:=λa w ha hw=>wpList_nil (h a w ha hw)
def DP (ops:Array Oper)(j:Nat):Option Nat:=(ops[j]?).bind (·.dst)
theorem Ew {a:Act}{j:Nat}(ha:DU n l a)(hj:DP ops j=Ad d)(hv:look l d=Ad (.bool b)):yielded ops a.tmps j=Ad b:=by
 unfold DP at hj;simp[yielded,hj,ha.tm d _ hv]
theorem Em {d:Option Nat}{j dj:Nat}{want:Bool}(hj:DP ops j=Ad dj)(hv:look l dj=Ad (.bool b))(hb:b=want)
  (h:WL P n w0 M ops Q ({ dst:=d,op:=op,type:=ty,pos:=pos,after:=af,guard:=Ai }::rest) l H) :
  WL P n w0 M ops Q ({ dst:=d,op:=op,type:=ty,pos:=pos,after:=af,guard:=Ad (j,want) }::rest) l H:=λa w ha hw=>by
 have h1:=h a w ha hw;have hy:=Ew ha hj hv;subst hb;simp only[wpList,Region.wanted,hy,beq_self_eq_true,if_true] at h1 ⊢;exact h1
theorem GD {j dj:Nat}{want:Bool}(hj:DP ops j=Ad dj)(hv:look l dj=Ad (.bool b))(hb:b = !want)(hn:Nat.blt d n=Af)
  (h:WL P n w0 M ops Q rest ((d,undef)::l) H) :
  WL P n w0 M ops Q ({ dst:=Ad d,op:=op,type:=ty,pos:=pos,after:=af,guard:=Ad (j,want) }::rest) l H:=λa w ha hw=>by
 have hy:=Ew ha hj hv;subst hb;refine wpList_skip ?_ (h _ w (ha.put hn _) hw);simp[Region.wanted,hy]
theorem EB {v:Value}(hr:Cd P n w0 M l H { dst:=Ad d,op:=op,type:=ty,pos:=pos,after:=af,guard:=Ai } v)
  (hn:Nat.blt d n=Af) (h:WL P n w0 M ops Q rest ((d,v)::l) H):WL P n w0 M ops Q ({ dst:=Ad d,op:=op,type:=ty,pos:=pos,after:=af,guard:=Ai }::rest) l H:=λa w ha hw=>
 wpList_plain rfl λK hK=>by
  unfold Oper.wp;rw[hr a w ha hw];exact hK _ _ (h _ w (ha.put hn v) hw)
theorem K7
  (hr:∀a w,DU n l a→St w0 M H w→∃v w' H',(execOp a.eval { dst:=Ad d,op:=op,type:=ty,pos:=pos,after:=af,guard:=Ai }).run P w = .ok (.value v) w'∧St w0 M H' w'∧WL P n w0 M ops Q rest ((d,v)::l) H')
  (hn:Nat.blt d n=Af):WL P n w0 M ops Q ({ dst:=Ad d,op:=op,type:=ty,pos:=pos,after:=af,guard:=Ai }::rest) l H:=λa w ha hw=>
 wpList_plain rfl λK hK=>by
  obtain⟨v,w',H',h1,h2,h3⟩:=hr a w ha hw;unfold Oper.wp;rw[h1];exact hK _ _ (h3 _ w' (ha.put hn v) h2)
theorem K8 {f:FuncId}{args:Array Value}
  (hr:∀a w,DU n l a→St w0 M H w→(execOp a.eval { dst:=Ad d,op:=op,type:=ty,pos:=pos,after:=af,guard:=Ai }).run P w = .ok (.enter f args) w)
  (hc:∀w,St w0 M H w→Calls P f args w (λe w'=>∃v H',e = .returned v∧St w0 M H' w'∧WL P n w0 M ops Q rest ((d,v)::l) H'))
  (hn:Nat.blt d n=Af):WL P n w0 M ops Q ({ dst:=Ad d,op:=op,type:=ty,pos:=pos,after:=af,guard:=Ai }::rest) l H:=λa w ha hw=>
 wpList_plain rfl λK hK=>by
  unfold Oper.wp;rw[hr a w ha hw];refine(hc w hw).mono ?_;rintro e w' ⟨v,H',rfl,h2,h3⟩;exact hK _ _ (h3 _ w' (ha.put hn v) h2)
end
def B (l:List UInt8):ByteArray:=⟨l.toArray⟩
theorem HO (l:List UInt8):(B l).toList=l:=by
 rw[Go.ByteArray.toList_eq];rfl
theorem G3 (l:List UInt8):(B l).size=Ae l:=by simp[B,ByteArray.size]
theorem fs {a b:List UInt8}(h:a=b):Ad (Value.string (B a))=Ad (Value.string (B b)):=by rw[h]
theorem QV (p q:List UInt8):B p++B q=B (p++q):=by
 apply ByteArray.ext;simp[B,ByteArray.data_append]
theorem Oy (l:List UInt8)(i j:Nat):(B l).extract i j=B ((l.drop i).take (j-i)):=by
 rw[Lib.extract_eq];rfl
theorem Z9 (l:List UInt8)(i:Nat):(B l)[i]? =l[i]?:=by
 by_cases h:i<(B l).size
 ·have h':i<Ae l:=by rw[G3] at h;exact h
  rw[Go.ByteArray.getElem?_lt' _ _ h,Ae3 h'];rfl
 ·have h' : ¬ i<Ae l:=by rw[G3] at h;exact h
  rw[Go.ByteArray.getElem?_ge' _ _ h,List.getElem?_eq_none Ab]
section
variable {P : Program} {n : Nat} {w0 : World} {M : List Nat} {l : Fr} {H : List Ent} {d : Option Nat} {x y c : Operand} {ty t t' : TypeId} {pos : String} {af : Array Edge} {g : Option (Nat × Bool)} {v u : Value}
theorem Bl (h:ev l x=Ad v):Cd P n w0 M l H { dst:=d,op:=.move x,type:=ty,pos:=pos,after:=af,guard:=g } v:=λa w ha _=>by
 simp[execOp,ha.eval h]
theorem DF (h:ev l x=Ad v):Cd P n w0 M l H { dst:=d,op:=.assign x,type:=ty,pos:=pos,after:=af,guard:=g } v:=λa w ha _=>by
 simp[execOp,ha.eval h]
theorem Gh (hc:ev l c=Ad (.bool b))(hb:b=Af)(h:ev l x=Ad v):Cd P n w0 M l H { dst:=d,op:=.pick c x y,type:=ty,pos:=pos,after:=af,guard:=g } v:=λa w ha _=>by
 subst hb;simp[execOp,ha.eval h,ha.eval hc,asBool]
theorem DD (hc:ev l c=Ad (.bool b))(hb:b=Ah)(h:ev l y=Ad v):Cd P n w0 M l H { dst:=d,op:=.pick c x y,type:=ty,pos:=pos,after:=af,guard:=g } v:=λa w ha _=>by
 subst hb;simp[execOp,ha.eval h,ha.eval hc,asBool]
theorem Gt {vs:Array Value}{i:Nat}(h:ev l x=Ad (.tuple vs))(hi:vs[i]? =Ad v):Cd P n w0 M l H { dst:=d,op:=.extract x i,type:=ty,pos:=pos,after:=af,guard:=g } v:=λa w ha _=>by
 simp[execOp,ha.eval h,Instr.extract,hi]
theorem MP (h:ev l x=Ad (.bool b)):Cd P n w0 M l H { dst:=d,op:=.unOp .not t x,type:=ty,pos:=pos,after:=af,guard:=g } (.bool (!b)):=λa w ha _=>by
 simp[execOp,ha.eval h,Op.unary]
theorem C1 (op:BinOp)(k k':IntKind)(p q:Int)(w:World):(eqGuard op t x y (.int k p) (.int k' q)).run P w = .ok () w:=by
 unfold eqGuard;split<;>simp
theorem Gb (op:BinOp)(p q:ByteArray)(w:World):(eqGuard op t x y (.string p) (.string q)).run P w = .ok () w:=by
 unfold eqGuard;split<;>simp
section
variable {k : IntKind} {p q z : Int} (hx : ev l x = Ad (.int k p)) (hy : ev l y = Ad (.int k q))
include hx hy
theorem Qy (hz:k.wrap (p+q)=z):Cd P n w0 M l H { dst:=d,op:=.binOp .add t x y t',type:=ty,pos:=pos,after:=af,guard:=g } (.int k z):=λa w ha _=>by
 simp[execOp,ha.eval hx,ha.eval hy,C1,binOp,Op.intArith,hz]
theorem IF (hz:k.wrap (p-q)=z):Cd P n w0 M l H { dst:=d,op:=.binOp .sub t x y t',type:=ty,pos:=pos,after:=af,guard:=g } (.int k z):=λa w ha _=>by
 simp[execOp,ha.eval hx,ha.eval hy,C1,binOp,Op.intArith,hz]
theorem VS:Cd P n w0 M l H { dst:=d,op:=.binOp .lss t x y t',type:=ty,pos:=pos,after:=af,guard:=g } (.bool (Ac (p<q))):=λa w ha _=>by
 simp[execOp,ha.eval hx,ha.eval hy,C1,binOp,Op.intCmp]
theorem Qw:Cd P n w0 M l H { dst:=d,op:=.binOp .leq t x y t',type:=ty,pos:=pos,after:=af,guard:=g } (.bool (Ac (p≤q))):=λa w ha _=>by
 simp[execOp,ha.eval hx,ha.eval hy,C1,binOp,Op.intCmp]
theorem OX:Cd P n w0 M l H { dst:=d,op:=.binOp .gtr t x y t',type:=ty,pos:=pos,after:=af,guard:=g } (.bool (Ac (q<p))):=λa w ha _=>by
 simp[execOp,ha.eval hx,ha.eval hy,C1,binOp,Op.intCmp]
theorem R8:Cd P n w0 M l H { dst:=d,op:=.binOp .geq t x y t',type:=ty,pos:=pos,after:=af,guard:=g } (.bool (Ac (q≤p))):=λa w ha _=>by
 simp[execOp,ha.eval hx,ha.eval hy,C1,binOp,Op.intCmp]
theorem Qx:Cd P n w0 M l H { dst:=d,op:=.binOp .eql t x y t',type:=ty,pos:=pos,after:=af,guard:=g } (.bool (Ac (p=q))):=λa w ha _=>by
 have e:(p ==q)=Ac (p=q):=by rw[Aff];simp
 simp[execOp,ha.eval hx,ha.eval hy,C1,binOp,Op.intCmp,e]
theorem TN:Cd P n w0 M l H { dst:=d,op:=.binOp .neq t x y t',type:=ty,pos:=pos,after:=af,guard:=g } (.bool (!Ac (p=q))):=λa w ha _=>by
 have e:(p !=q) = !Ac (p=q):=by rw[Aff];simp
 simp[execOp,ha.eval hx,ha.eval hy,C1,binOp,Op.intCmp,e]
end
section
variable {p q : List UInt8} (hx : ev l x = Ad (.string (B p))) (hy : ev l y = Ad (.string (B q)))
include hx hy
theorem VR (hz:Ae p+Ae q≤9223372036854775807):Cd P n w0 M l H { dst:=d,op:=.binOp .add t x y t',type:=ty,pos:=pos,after:=af,guard:=g } (.string (B (p++q))):=λa w ha _=>by
 have : ¬ ((((B p).size+(B q).size:Nat):Int) > IntKind.i64.max):=by rw[G3,G3];simp[IntKind.max,IntKind.signed,IntKind.bits];omega
 simp only[execOp,ha.eval hx,ha.eval hy,Sem.run_bind,Gb,binOp,Op.stringOp,this,if_false,QV];simp
theorem Zt:Cd P n w0 M l H { dst:=d,op:=.binOp .eql t x y t',type:=ty,pos:=pos,after:=af,guard:=g } (.bool (Ac (p=q))):=λa w ha _=>by
 have e:(p ==q)=Ac (p=q):=by rw[Aff];simp
 simp[execOp,ha.eval hx,ha.eval hy,Gb,binOp,Op.stringOp,HO,e]
end
theorem Mb {p:List UInt8}(ht:P.underlying t=Ad .string)(h:ev l x=Ad (.string (B p))):Cd P n w0 M l H { dst:=d,op:=.call { callee:=.builtin .len,args:=#[x],argTypes:=#[t] },type:=ty,pos:=pos,after:=af,guard:=g } (.int .i64 (Ae p)):=λa w ha _=>by
 simp[execOp,resolve,invoke,builtin,ha.eval h,Builtin.len_,run_underlying ht,goInt,G3]
theorem TP {p:List UInt8}{k:IntKind}{i:Int}{c:UInt8}(ht:P.underlying t=Ad .string)(h:ev l x=Ad (.string (B p)))(hi:ev l y=Ad (.int k i))(h0:0≤i)(hc:p[i.toNat]? =Ad c) :
  Cd P n w0 M l H { dst:=d,op:=.index t x y,type:=ty,pos:=pos,after:=af,guard:=g } (.int .u8 c.toNat):=λa w ha _=>by
 simp[execOp,ha.eval h,ha.eval hi,Instr.index,asIntOf,run_underlying ht,h0,Z9,hc]
theorem CS {k:IntKind}{i:Int}{m:Nat}(code:BoundsCode)(w:World)(h0:0≤i)(h1:i≤m):(Instr.sliceBound (.int k i) m code).run P w = .ok i.toNat w:=by
 simp[Instr.sliceBound,asIntOf,h0,h1]
end
end Go.Proofs.YtoegakndmanfoaaGreatDoor
namespace Go.Proofs.YtoegakndmanfoaaGreatDoor.Q
open Go Go.RowKit
set_option linter.unusedVariables false
variable{out:Option (Nat×(Nat×Value))}{G:List Nat}{i:Nat}{v:Value}{M:List Nat}{k:Nat}
section
structure Fz where
 f:Nat→Option Obj
 nm:Nat→Nat→Option Nat
instance:CoeFun Fz (λ_=>Nat→Option Obj):=⟨Fz.f⟩
structure Fz.le (Z Z':Fz):Prop where
 f:∀b o,Z b=Ad o→Z' b=Ad o
 nm:∀k i b,Z.nm k i=Ad b→Z'.nm k i=Ad b
instance {Z Z':Fz}:CoeFun (Fz.le Z Z') (λ_=>∀b o,Z b=Ad o→Z' b=Ad o):=⟨Fz.le.f⟩
theorem Fz.le.refl (Z:Fz):Fz.le Z Z:=⟨λ_ _ h=>h,λ_ _ _ h=>h⟩
theorem Fz.le.trans {Z Z' Z'':Fz}(h:Fz.le Z Z')(h':Fz.le Z' Z''):Fz.le Z Z'':=⟨λb o e=>h' b o (h b o e),λk i b e=>h'.nm k i b (h.nm k i b e)⟩
structure PC (Z:Fz) (w:World):Prop where
 f:∀b o,Z b=Ad o→w.heap[b]? =Ad o
 nm:∀k i b,Z.nm k i=Ad b→k<w.heap.size
instance {Z:Fz}{w:World}:CoeFun (PC Z w) (λ_=>∀b o,Z b=Ad o→w.heap[b]? =Ad o):=⟨PC.f⟩
def GG (Z:Fz)(b o:Nat):Option Value:=match Z b with
 | some (.cells cs _ _)=>cs[o]?
 | _=>Ai
theorem Mm {Z Z':Fz}(h:Fz.le Z Z'){b o:Nat}(e:GG Z b o=Ad v):GG Z' b o=Ad v:=by
 unfold GG at *
 cases hz:Z b with
 | none=>simp[hz] at e
 | some ob=>rw[h b ob hz];simpa[hz] using e
theorem JF {Z:Fz}{w:World}(h:PC Z w){b o:Nat}(e:GG Z b o=Ad v):w.cell? ⟨b,o,Ai⟩=Ad v:=by
 unfold GG at e
 cases hz:Z b with
 | none=>simp[hz] at e
 | some ob=>
  rw[hz] at e
  cases ob with
  | cells cs t fz=>rw[cell_of_row w b o cs t fz (h b _ hz)];exact e
  | _=>cases e
structure Rp where
 p:Fz→Value→Prop
 mono:∀{Z Z':Fz} {v:Value},Fz.le Z Z'→p Z v→p Z' v
 one:Bool
 hone:one=Af→∀Z v,p Z v→v.oneCell'=Af
def rv (x:Value):Rp:=⟨λ_ y=>y=x,λ_ h=>h,x.oneCell',λh _ _ e=>by rw[e];exact h⟩
abbrev rI (k:IntKind)(n:Int):Rp:=rv (.int k n)
abbrev rB (b:Bool):Rp:=rv (.bool b)
abbrev rS (s:List UInt8):Rp:=rv (.string (B s))
def BH (Z:Fz):List Rp→List Value→Prop
 | [],[]=>True
 | r::rs,v::vs=>r.p Z v∧BH Z rs vs
 | _,_=>False
theorem BH.mono {Z Z':Fz}(h:Fz.le Z Z'):∀{rs:List Rp} {vs:List Value},BH Z rs vs→BH Z' rs vs
 | [],[],_=>trivial
 | r::rs,v::vs,⟨h1,h2⟩=>⟨r.mono h h1,BH.mono h h2⟩
theorem BH.length {Z:Fz}:∀{rs:List Rp} {vs:List Value},BH Z rs vs→Ae vs=Ae rs
 | [],[],_=>rfl
 | r::rs,v::vs,⟨_,h2⟩=>by simp[BH.length h2]
theorem BH.at {Z:Fz}:∀{rs:List Rp} {vs:List Value},BH Z rs vs→∀{i:Nat} {r:Rp},rs[i]? =Ad r→∃v,vs[i]? =Ad v∧r.p Z v
 | [],[],_,i,r,h=>by simp at h
 | r::rs,v::vs,⟨h1,h2⟩,0,r',h=>by simp at h;subst h;exact⟨v,rfl,h1⟩
 | r::rs,v::vs,⟨h1,h2⟩,i+1,r',h=>by simpa using BH.at h2 (by simpa using h)
theorem BH.of {Z:Fz}:∀{rs:List Rp} {vs:List Value},Ae vs=Ae rs→(∀(i:Nat) r,rs[i]? =Ad r→∃v,vs[i]? =Ad v∧r.p Z v)→BH Z rs vs
 | [],[],_,_=>trivial
 | r::rs,v::vs,hl,h=>by
  refine⟨?_,BH.of (by simpa using hl) λi r' hi=>by simpa using h (i+1) r' (by simpa using hi)⟩;obtain⟨u,hu,hp⟩:=h 0 r rfl;simp at hu;subst hu;exact hp
 | [],_::_,hl,_=>by simp at hl
 | _::_,[],hl,_=>by simp at hl
theorem BH.append {Z:Fz}:∀{rs:List Rp} {vs:List Value} {rs':List Rp} {vs':List Value},BH Z rs vs→BH Z rs' vs'→BH Z (rs++rs') (vs++vs')
 | [],[],_,_,_,h=>h
 | r::rs,v::vs,_,_,⟨h1,h2⟩,h=>⟨h1,BH.append h2 h⟩
theorem BH.take {Z:Fz}:∀{rs:List Rp} {vs:List Value} (k:Nat),BH Z rs vs→BH Z (rs.take k) (vs.take k)
 | _,_,0,_=>by simp[BH]
 | [],[],k+1,_=>by simp[BH]
 | r::rs,v::vs,k+1,⟨h1,h2⟩=>⟨h1,BH.take k h2⟩
theorem BH.drop {Z:Fz}:∀{rs:List Rp} {vs:List Value} (k:Nat),BH Z rs vs→BH Z (rs.drop k) (vs.drop k)
 | _,_,0,h=>by simpa using h
 | [],[],k+1,_=>by simp[BH]
 | r::rs,v::vs,k+1,⟨h1,h2⟩=>by simpa using BH.drop k h2
theorem BH.set {Z:Fz}:∀{rs:List Rp} {vs:List Value} (k:Nat) {r:Rp} {v:Value},BH Z rs vs→r.p Z v→BH Z (rs.set k r) (vs.set k v)
 | [],[],k,_,_,h,_=>by simp[BH]
 | r::rs,v::vs,0,_,_,⟨h1,h2⟩,h=>⟨h,h2⟩
 | r::rs,v::vs,k+1,_,_,⟨h1,h2⟩,h=>⟨h1,BH.set k h2 h⟩
theorem BH.one {Z:Fz}:∀{rs:List Rp} {vs:List Value},rs.all (·.one)=Af→BH Z rs vs→∀v∈vs,v.oneCell'=Af
 | [],[],_,_,_,h=>by simp at h
 | r::rs,v::vs,ho,⟨h1,h2⟩,u,h=>by
  simp only[List.all_cons,Ae9] at ho;rcases List.mem_cons.1 h with rfl | h
  ·exact r.hone ho.1 Z _ h1
  ·exact BH.one ho.2 h2 u h
theorem BH.eq_rv {Z:Fz}:∀{us vs:List Value},BH Z (us.map Q.rv) vs→vs=us
 | [],[],_=>rfl
 | u::us,v::vs,⟨h1,h2⟩=>by rw[show v=u from h1,BH.eq_rv h2]
def BL (rs:List Rp):Rp:=⟨λZ v=>∃us:List Value,v = .agg us.toArray∧BH Z rs us,λh ⟨us,e,hu⟩=>⟨us,e,hu.mono h⟩,Ah,λh=>by cases h⟩
def DT (rs:List Rp):Rp:=⟨λZ v=>∃us:List Value,v = .tuple us.toArray∧BH Z rs us,λh ⟨us,e,hu⟩=>⟨us,e,hu.mono h⟩,Ah,λh=>by cases h⟩
def Sl (sz:Nat)(xs:List (List Rp))(Z:Fz)(v:Value):Prop:=
 ∃A cap,v = .slice A (Ae xs) cap∧Ae xs≤cap∧cap≤maxLen∧(A=Ai→cap=0)∧
  ∀i c,xs[i]? =Ad c→Ae c=sz∧∃a:Addr,A=Ad a∧a.spot=Ai∧∀j r,c[j]? =Ad r→∃u,GG Z a.block (a.off+(i*sz+j))=Ad u∧r.p Z u
theorem Sl.mono {sz:Nat}{xs:List (List Rp)}{Z Z':Fz}{v:Value}(h:Fz.le Z Z'):Sl sz xs Z v→Sl sz xs Z' v:=λ⟨A,cap,e,h1,h2,h3,h4⟩=>
 ⟨A,cap,e,h1,h2,h3,λi c hi=>by
  obtain⟨hl,a,ha,hs,hc⟩:=h4 i c hi;exact⟨hl,a,ha,hs,λj r hj=>by
   obtain⟨u,hu,hr⟩:=hc j r hj;exact⟨u,Mm h hu,r.mono h hr⟩⟩⟩
def B3 (sz:Nat)(xs:List (List Rp)):Rp:=⟨Sl sz xs,Sl.mono,Af,λ_ Z v ⟨A,cap,e,_⟩=>by rw[e];rfl⟩
theorem Sl.nil (sz:Nat)(Z:Fz):Sl sz [] Z (.slice Ai 0 0):=⟨Ai,0,rfl,AeG _,by simp[maxLen],λ_=>rfl,λi c h=>by simp at h⟩
def EJ (r r':Rp):Prop:=∀Z v,r.p Z v→r'.p Z v
theorem EJ.refl (r:Rp):EJ r r:=λ_ _ h=>h
theorem EJ.nil (sz:Nat):EJ (rv (.slice Ai 0 0)) (B3 sz []):=λZ v h=>by rw[show v=_ from h];exact Sl.nil sz Z
abbrev Fr:=List (Nat×Rp)
def look:Fr→Nat→Option Rp
 | [],_=>Ai
 | p::l,i=>bif Nat.beq p.1 i then Ad p.2 else look l i
theorem Ds (j:Nat)(v:Rp)(l:Fr)(i:Nat):look ((j,v)::l) i=if j=i then Ad v else look l i:=by
 by_cases h:j=i
 ·subst h;simp[look]
 ·have:Nat.beq j i=Ah:=by
   cases hb:Nat.beq j i
   ·rfl
   ·exact absurd (Nat.eq_of_beq_eq_true hb) h
  simp[look,this,h]
class Dfr where
 D:List Deferred
instance dfr0:Dfr:=⟨[]⟩
structure DU [I:Dfr] (n:Nat) (l:Fr) (a:Act) (Z:Fz):Prop where
 size:a.tmps.size=n
 defers:a.defers=I.D
 tm:∀i r,look l i=Ad r→∃v,a.tmps[i]? =Ad v∧r.p Z v
def ev:Fr→Operand→Option Rp
 | l,.tmp t=>look l t
 | _,.const v=>Ad (rv v)
 | _,.global g=>Ad (rv (.pointer (Ad ⟨g,0,Ai⟩)))
 | _,.func f=>Ad (rv (.func (.func f) #[] #[]))
section
set_option linter.unusedSectionVars false
variable [I : Dfr] {n : Nat} {l l' : Fr} {a : Act} {Z Z' : Fz}
theorem DU.ev (h:DU n l a Z){x:Operand}{r:Rp}(hx:Q.ev l x=Ad r):r.p Z (a.eval x):=by
 cases x with
 | tmp t=>obtain⟨v,hv,hp⟩:=h.tm t r hx;simpa[Act.eval,Array.getD_eq_getD_getElem?,hv] using hp
 | const u=>simp only[Q.ev,Option.some.injEq] at hx;subst hx;rfl
 | global g=>simp only[Q.ev,Option.some.injEq] at hx;subst hx;rfl
 | func f=>simp only[Q.ev,Option.some.injEq] at hx;subst hx;rfl
theorem DU.eval (h:DU n l a Z){x:Operand}(hx:Q.ev l x=Ad (rv v)):a.eval x=v:=h.ev hx
theorem DU.put (h:DU n l a Z){d:Nat}(hd:Nat.blt d n=Af){r:Rp}{v:Value}(hv:r.p Z v):DU n ((d,r)::l) (a.put (Ad d) v) Z:=by
 have hd':d<n:=by simpa using hd
 refine⟨by simp[Act.put,h.size],by simp[Act.put,h.defers],λi u hi=>?_⟩;rw[Ds] at hi;simp only[Act.put,Array.getElem?_setIfInBounds]
 split at hi
 ·rename_i e;subst e;simp at hi;subst hi;exact⟨v,by simp[h.size,hd'],hv⟩
 ·rename_i e;rw[AeN e];exact h.tm i u hi
theorem DU.put_none (h:DU n l a Z)(v:Value):DU n l (a.put Ai v) Z:=h
theorem DU.mono (h:DU n l a Z)(hz:Fz.le Z Z'):DU n l a Z':=⟨h.size,h.defers,λi r hi=>let ⟨v,hv,hp⟩:=h.tm i r hi;⟨v,hv,r.mono hz hp⟩⟩
def EU:Fr→Fr→Prop
 | [],_=>True
 | p::r,l=>(∃q,look l p.1=Ad q∧EJ q p.2)∧EU r l
theorem EU.look:∀{l' l:Fr},EU l' l→∀i v,Q.look l' i=Ad v→∃q,Q.look l i=Ad q∧EJ q v
 | [],_,_,i,v,h=>by simp[Q.look] at h
 | p::r,l,⟨h1,h2⟩,i,v,h=>by
  obtain⟨j,u⟩:=p;rw[Ds] at h
  split at h
  ·rename_i e;subst e;simp at h;subst h;exact h1
  ·exact EU.look h2 i v h
theorem EU.nil:EU [] l:=trivial
theorem EU.c {r:Rp}{t:Fr}(h:Q.look l i=Ad r)(ht:EU t l):EU ((i,r)::t) l:=⟨⟨r,h,EJ.refl r⟩,ht⟩
theorem EU.w {r q:Rp}{t:Fr}(h:Q.look l i=Ad q)(hr:EJ q r)(ht:EU t l):EU ((i,r)::t) l:=⟨⟨q,h,hr⟩,ht⟩
theorem EU.c5 {i1 i2 i3 i4 i5:Nat}{r1 r2 r3 r4 r5:Rp}{t:Fr}(h1:Q.look l i1=Ad r1)(h2:Q.look l i2=Ad r2)(h3:Q.look l i3=Ad r3)(h4:Q.look l i4=Ad r4)(h5:Q.look l i5=Ad r5)(ht:EU t l):EU ((i1,r1)::(i2,r2)::(i3,r3)::(i4,r4)::(i5,r5)::t) l:=
 EU.c h1 (EU.c h2 (EU.c h3 (EU.c h4 (EU.c h5 ht))))
theorem DU.sub (h:DU n l a Z)(hs:EU l' l):DU n l' a Z:=⟨h.size,h.defers,λi v hi=>by
 obtain⟨q,hq,hle⟩:=hs.look i v hi;obtain⟨u,hu,hp⟩:=h.tm i q hq;exact⟨u,hu,hle Z u hp⟩⟩
end
inductive Ent where
 | obj (b:Nat) (o:Obj)
 | blk (b:Nat) (cs:List Rp) (e:TypeId)
 | row (v:Value) (e:TypeId) (sz:Nat) (xs:List (List Rp))
 | map (b:Nat) (m:List (List UInt8×Rp))
 | fact (v:Value) (r:Rp)
 | bld (T e:TypeId) (b:Nat) (v:Value) (l:List UInt8)
 | mit (b it:Nat) (m rest:List (List UInt8×Rp)) (cur:Option (List UInt8×Rp))
 | itz (it:Nat) (m rest:List (List UInt8×Rp)) (cur:Option (List UInt8×Rp))
 | imap (b:Nat) (m:List (Int×Rp))
 | pool (k:Nat) (v:Value) (e:TypeId) (xs:List (List Rp))
 | poolw (k:Nat) (v:Value) (e re:TypeId) (rz:Nat) (xs:List ((Value→List Rp)×List (List Rp))) (out:Option (Nat×(Nat×Value)))
 | poolm (k:Nat) (v:Value) (e:TypeId) (xs:List ((Nat→List Rp)×List (List UInt8×Rp))) (out:Option (Nat×(Nat×Nat)))
def Si:Value→List Nat
 | .tuple a=>a.toList.map λx=>match x with
  | .int _ n=>n.toNat
  | _=>0
 | _=>[]
def Abl:Value→Nat×Value
 | .tuple a=>match a.toList with
  | [.int _ n,r]=>(n.toNat,r)
  | _=>(0,.tuple #[])
 | _=>(0,.tuple #[])
def Qs:Value→List (Nat×Value)
 | .tuple a=>a.toList.map Abl
 | _=>[]
def ftW (ps:List (Nat×Value)):List Nat:=ps.flatMap λp=>p.1::p.2.ownBlock.toList
def VJ:List (Nat×Value)→Option (Nat×(Nat×Value))→List (Nat×Value)
 | ps,Ai=>ps
 | ps,Ad o=>ps.eraseIdx o.1
def RB (v:Value):List (Nat×Nat):=(Qs v).map λp=>(p.1,match p.2 with
 | .int _ n=>n.toNat
 | _=>0)
def ftM (ps:List (Nat×Nat)):List Nat:=ps.flatMap λp=>[p.1,p.2]
def VK:List (Nat×Nat)→Option (Nat×(Nat×Nat))→List (Nat×Nat)
 | ps,Ai=>ps
 | ps,Ad o=>ps.eraseIdx o.1
def Ent.gk:Ent→List Nat
 | .pool k _ _ _=>[k]
 | .poolw k _ _ _ _ _ _=>[k]
 | .poolm k _ _ _ _=>[k]
 | _=>[]
def Ent.gn:Ent→Nat
 | .pool _ v _ _=>Ae (Si v)
 | .poolw _ v _ _ _ _ _=>Ae (Qs v)
 | .poolm _ v _ _ _=>Ae (RB v)
 | _=>0
def Ent.foot:Ent→List Nat
 | .obj b _=>[b]
 | .blk b _ _=>[b]
 | .row v _ _ _=>v.ownBlock.toList
 | .map b _=>[b]
 | .fact _ _=>[]
 | .bld _ _ b v _=>b::v.ownBlock.toList
 | .mit b it _ _ _=>[b,it]
 | .itz it _ _ _=>[it]
 | .imap b _=>[b]
 | .pool _ v _ _=>Si v
 | .poolw _ v _ _ _ _ out=>ftW (VJ (Qs v) out)
 | .poolm _ v _ _ out=>ftM (VK (RB v) out)
def U5 (Z:Fz):List (Int×Rp)→List MapEntry→Prop
 | [],[]=>True
 | p::f,e::es=>(e.key = .int .i64 p.1∧p.2.p Z e.val)∧U5 Z f es
 | _,_=>False
theorem U5.mono {Z Z':Fz}(h:Fz.le Z Z'):∀{f:List (Int×Rp)} {es:List MapEntry},U5 Z f es→U5 Z' f es
 | [],[],_=>trivial
 | p::f,e::es,⟨⟨h1,h2⟩,h3⟩=>⟨⟨h1,p.2.mono h h2⟩,U5.mono h h3⟩
def Nw (Z:Fz):List (List UInt8×Rp)→List MapEntry→Prop
 | [],[]=>True
 | p::f,e::es=>(e.key = .string (B p.1)∧p.2.p Z e.val)∧Nw Z f es
 | _,_=>False
theorem Nw.mono {Z Z':Fz}(h:Fz.le Z Z'):∀{f:List (List UInt8×Rp)} {es:List MapEntry},Nw Z f es→Nw Z' f es
 | [],[],_=>trivial
 | p::f,e::es,⟨⟨h1,h2⟩,h3⟩=>⟨⟨h1,p.2.mono h h2⟩,Nw.mono h h3⟩
def ER (Z:Fz)(m:List (List UInt8×Rp))(es:List MapEntry)(ck:Nat):Prop:=
 (m.map (·.1)).Nodup∧(es.map (·.born)).Nodup∧(∀e∈es,e.born<ck)∧∃f:List (List UInt8×Rp),f.Perm m∧Nw Z f es
theorem ER.mono {Z Z':Fz}(h:Fz.le Z Z'){m:List (List UInt8×Rp)}{es:List MapEntry}{ck:Nat}:ER Z m es ck→ER Z' m es ck:=λ⟨h1,h2,h3,f,h4,h5⟩=>⟨h1,h2,h3,f,h4,h5.mono h⟩
def AcD (Z:Fz)(rest:List (List UInt8×Rp))(es:List MapEntry)(seen:Array Nat):Prop:=∃f,f.Perm rest∧Nw Z f (es.filter λe=>!seen.contains e.born)
def Cur (Z:Fz)(es:List MapEntry)(ck:Nat)(seen:Array Nat)(c0:Nat):Option (List UInt8×Rp)→Prop
 | none=>True
 | some kr=>c0=ck∧∃s0 e,seen=Array.push s0 e.born∧e∈es∧e.key = .string (B kr.1)∧kr.2.p Z e.val
theorem Cur.mono {Z Z':Fz}(h:Fz.le Z Z'){es:List MapEntry}{ck:Nat}{seen:Array Nat}{c0:Nat}:∀{cur:Option (List UInt8×Rp)},Cur Z es ck seen c0 cur→Cur Z' es ck seen c0 cur
 | none,_=>trivial
 | some kr,⟨h1,s0,e,h2,h3,h4,h5⟩=>⟨h1,s0,e,h2,h3,h4,kr.2.mono h h5⟩
def Ent.holds (Z:Fz)(w:World):Ent→Prop
 | .obj b o=>w.heap[b]? =Ad o
 | .blk b cs e=>∃us:List Value,w.heap[b]? =Ad (.cells us.toArray e (0,0))∧BH Z cs us
 | .row v e sz xs=>(∀c∈xs,Ae c=sz)∧∃us:List Value,w.ownsRow 0 e sz v (Ae xs) us∧BH Z xs.flatten us
 | .map b m=>∃es ck,w.heap[b]? =Ad (.map es ck)∧ER Z m es.toList ck
 | .fact v r=>r.p Z v
 | .bld T e b v l=>∃p,(p = .pointer Ai∨p = .pointer (Ad ⟨b,0,Ai⟩))∧w.heap[b]? =Ad (.cells #[p,v] T (0,0))∧w.ownsRow 0 e 1 v (Ae l) (l.map λc=>Value.int .u8 c.toNat)∧v.ownBlock≠Ad b
 | .mit b it m rest cur=>∃es ck seen since c0,w.heap[b]? =Ad (.map es ck)∧w.heap[it]? =Ad (.mapIter (Ad b) since seen c0)∧ER Z m es.toList ck∧(∀e∈es.toList,e.born<since)∧since≤c0∧c0≤ck∧b≠it∧AcD Z rest es.toList seen∧Cur Z es.toList ck seen c0 cur
 | .itz it m rest cur=>(w.heap[it]? =Ad (.mapIter Ai 0 #[] 0)∧m=[]∧rest=[]∧cur=Ai)∨∃b es ck seen since c0,Z b=Ad (.map es ck)∧w.heap[it]? =Ad (.mapIter (Ad b) since seen c0)∧ER Z m es.toList ck∧(∀e∈es.toList,e.born<since)∧since≤c0∧c0≤ck∧AcD Z rest es.toList seen∧Cur Z es.toList ck seen c0 cur
 | .imap b m=>∃es ck,w.heap[b]? =Ad (.map es ck)∧U5 Z m es.toList
 | .pool k v e xs=>(Si v).Nodup∧Ae (Si v)=Ae xs∧∀i b cs,(Si v)[i]? =Ad b→xs[i]? =Ad cs→Z.nm k i=Ad b∧∃us:List Value,w.heap[b]? =Ad (.cells us.toArray e (0,0))∧BH Z cs us
 | .poolw k v e re rz xs out=>Ae (Qs v)=Ae xs∧(ftW (VJ (Qs v) out)).Nodup∧(∀i p,(Qs v)[i]? =Ad p→Z.nm k i=Ad p.1)∧(∀o,out=Ad o→(Qs v)[o.1]? =Ad o.2)∧
   ∀i p x,(Qs v)[i]? =Ad p→xs[i]? =Ad x→(∀o,out=Ad o→o.1≠i)→(∃us:List Value,w.heap[p.1]? =Ad (.cells us.toArray e (0,0))∧BH Z (x.1 p.2) us)∧(∀c∈x.2,Ae c=rz)∧∃us:List Value,w.ownsRow 0 re rz p.2 (Ae x.2) us∧BH Z x.2.flatten us
 | .poolm k v e xs out=>Ae (RB v)=Ae xs∧(ftM (VK (RB v) out)).Nodup∧(∀i p,(RB v)[i]? =Ad p→Z.nm k i=Ad p.1)∧(∀o,out=Ad o→(RB v)[o.1]? =Ad o.2)∧
   ∀i p x,(RB v)[i]? =Ad p→xs[i]? =Ad x→(∀o,out=Ad o→o.1≠i)→(∃us:List Value,w.heap[p.1]? =Ad (.cells us.toArray e (0,0))∧BH Z (x.1 p.2) us)∧∃es ck,w.heap[p.2]? =Ad (.map es ck)∧ER Z x.2 es.toList ck
theorem Yu {ps:List (Nat×Nat)}{out:Option (Nat×(Nat×Nat))}(h:k∈ftM (VK ps out)):∃i p,ps[i]? =Ad p∧(∀o,out=Ad o→o.1≠i)∧(k=p.1∨k=p.2):=by
 unfold ftM at h;obtain⟨p,hp,hk⟩:=List.mem_flatMap.1 h;obtain⟨j,hj⟩:=List.mem_iff_getElem?.1 hp;have hk:k=p.1∨k=p.2:=by simpa using hk
 cases out with
 | none=>exact⟨j,p,hj,(λo h=>by cases h),hk⟩
 | some o=>
  rw[VK,List.getElem?_eraseIdx] at hj
  split at hj
  ·exact⟨j,p,hj,(λo' h=>by cases h;omega),hk⟩
  ·exact⟨j+1,p,hj,(λo' h=>by cases h;omega),hk⟩
theorem Tb {ps:List (Nat×Nat)}{out:Option (Nat×(Nat×Nat))}{p:Nat×Nat}(hp:ps[i]? =Ad p)(ho:∀o,out=Ad o→o.1≠i)(hk:k=p.1∨k=p.2):k∈ftM (VK ps out):=by
 unfold ftM;refine List.mem_flatMap.2 ⟨p,?_,by simpa using hk⟩
 cases out with
 | none=>exact AeB hp
 | some o=>
  have hne:=ho o rfl
  by_cases hlt:i<o.1
  ·exact AeB (show(ps.eraseIdx o.1)[i]? =Ad p by rw[List.getElem?_eraseIdx,AeX hlt];exact hp)
  ·exact AeB (show(ps.eraseIdx o.1)[i-1]? =Ad p by rw[List.getElem?_eraseIdx,AeN Ab,show i-1+1=i from Ab];exact hp)
theorem Yt {ps:List (Nat×Value)}(h:k∈ftW (VJ ps out)):∃i p,ps[i]? =Ad p∧(∀o,out=Ad o→o.1≠i)∧(k=p.1∨k∈p.2.ownBlock.toList):=by
 unfold ftW at h;obtain⟨p,hp,hk⟩:=List.mem_flatMap.1 h;obtain⟨j,hj⟩:=List.mem_iff_getElem?.1 hp
 cases out with
 | none=>exact⟨j,p,hj,(λo h=>by cases h),List.mem_cons.1 hk⟩
 | some o=>
  rw[VJ,List.getElem?_eraseIdx] at hj
  split at hj
  ·exact⟨j,p,hj,(λo' h=>by cases h;omega),List.mem_cons.1 hk⟩
  ·exact⟨j+1,p,hj,(λo' h=>by cases h;omega),List.mem_cons.1 hk⟩
theorem Ta {ps:List (Nat×Value)}{p:Nat×Value}(hp:ps[i]? =Ad p)(ho:∀o,out=Ad o→o.1≠i)(hk:k=p.1∨k∈p.2.ownBlock.toList):k∈ftW (VJ ps out):=by
 unfold ftW;refine List.mem_flatMap.2 ⟨p,?_,List.mem_cons.2 hk⟩
 cases out with
 | none=>exact AeB hp
 | some o=>
  have hne:=ho o rfl
  by_cases hlt:i<o.1
  ·exact AeB (show(ps.eraseIdx o.1)[i]? =Ad p by rw[List.getElem?_eraseIdx,AeX hlt];exact hp)
  ·exact AeB (show(ps.eraseIdx o.1)[i-1]? =Ad p by rw[List.getElem?_eraseIdx,AeN Ab,show i-1+1=i from Ab];exact hp)
theorem Ent.lt {Z:Fz}{w:World}{e:Ent}(h:e.holds Z w){k:Nat}(hk:k∈e.foot):k<w.heap.size:=by
 cases e with
 | obj b o=>simp[Ent.foot] at hk;subst hk;exact(Array.getElem?_eq_some_iff.1 h).1
 | blk b cs e=>simp[Ent.foot] at hk;subst hk;obtain⟨us,h,_⟩:=h;exact(Array.getElem?_eq_some_iff.1 h).1
 | row v e sz xs=>simp[Ent.foot,Option.mem_toList] at hk;obtain⟨_,us,h,_⟩:=h;exact(World.ownsRow.lt h k hk).2
 | map b m=>simp[Ent.foot] at hk;subst hk;obtain⟨es,ck,h,_⟩:=h;exact(Array.getElem?_eq_some_iff.1 h).1
 | fact v r=>simp[Ent.foot] at hk
 | bld T e b v l=>
  obtain⟨p,_,h1,h2,_⟩:=h;simp only[Ent.foot,List.mem_cons,Option.mem_toList] at hk;rcases hk with rfl | hk
  ·exact(Array.getElem?_eq_some_iff.1 h1).1
  ·exact(World.ownsRow.lt h2 k hk).2
 | mit b it m rest cur=>
  obtain⟨es,ck,seen,since,c0,h1,h2,_⟩:=h;simp only[Ent.foot,List.mem_cons,List.not_mem_nil,or_false] at hk;rcases hk with rfl | rfl
  ·exact(Array.getElem?_eq_some_iff.1 h1).1
  ·exact(Array.getElem?_eq_some_iff.1 h2).1
 | itz it m rest cur=>
  simp[Ent.foot] at hk;subst hk;rcases h with⟨h1,_⟩ | ⟨b,es,ck,seen,since,c0,_,h2,_⟩
  ·exact(Array.getElem?_eq_some_iff.1 h1).1
  ·exact(Array.getElem?_eq_some_iff.1 h2).1
 | imap b m=>simp[Ent.foot] at hk;subst hk;obtain⟨es,ck,h,_⟩:=h;exact(Array.getElem?_eq_some_iff.1 h).1
 | pool q v e xs=>
  obtain⟨_,hl,h⟩:=h;obtain⟨i,hi,rfl⟩:=List.getElem_of_mem (show k∈Si v from hk);obtain⟨_,us,h1,_⟩:=h i (Si v)[i] xs[i] (Ae3 hi) (Ae3 Ab);exact(Array.getElem?_eq_some_iff.1 h1).1
 | poolw q v e re rz xs out=>
  obtain⟨hl,_,_,_,h⟩:=h;obtain⟨i,p,h1,h2,h3⟩:=Yt hk;have hi:i<Ae xs:=by rw[← hl];exact(List.getElem?_eq_some_iff.1 h1).1
  obtain⟨⟨us,h4,_⟩,_,vs,h5,_⟩:=h i p xs[i] h1 (Ae3 hi) h2;rcases h3 with rfl | h3
  ·exact(Array.getElem?_eq_some_iff.1 h4).1
  ·exact(World.ownsRow.lt h5 k (by simpa[Option.mem_toList] using h3)).2
 | poolm q v e xs out=>
  obtain⟨hl,_,_,_,h⟩:=h;obtain⟨i,p,h1,h2,h3⟩:=Yu hk;have hi:i<Ae xs:=by rw[← hl];exact(List.getElem?_eq_some_iff.1 h1).1
  obtain⟨⟨us,h4,_⟩,es,ck,h5,_⟩:=h i p xs[i] h1 (Ae3 hi) h2;rcases h3 with rfl | rfl
  ·exact(Array.getElem?_eq_some_iff.1 h4).1
  ·exact(Array.getElem?_eq_some_iff.1 h5).1
theorem Ib {w w':World}{e:TypeId}{sz n:Nat}{us:List Value}(h:w.ownsRow 0 e sz v n us)(hk:∀k∈v.ownBlock.toList,w'.heap[k]? =w.heap[k]?):w'.ownsRow 0 e sz v n us:=by
 refine⟨h.1,?_⟩;rcases h.2 with hn | ⟨g,cap,cur,rfl,hb,hgg,rest⟩
 ·exact .inl hn
 ·exact .inr ⟨g,cap,cur,rfl,hb,(hk g (by simp[Value.ownBlock])).trans hgg,rest⟩
theorem Ent.keep {Z Z':Fz}{w w':World}{e:Ent}(h:e.holds Z w)(hz:Fz.le Z Z')(hk:∀k∈e.foot,w'.heap[k]? =w.heap[k]?):e.holds Z' w':=by
 cases e with
 | obj b o=>exact(hk b (by simp[Ent.foot])).trans h
 | blk b cs e=>obtain⟨us,h1,h2⟩:=h;exact⟨us,(hk b (by simp[Ent.foot])).trans h1,h2.mono hz⟩
 | row v e sz xs=>obtain⟨h0,us,h1,h2⟩:=h;exact⟨h0,us,Ib h1 hk,h2.mono hz⟩
 | map b m=>obtain⟨es,ck,h1,h2⟩:=h;exact⟨es,ck,(hk b (by simp[Ent.foot])).trans h1,h2.mono hz⟩
 | fact v r=>exact r.mono hz h
 | bld T e b v l=>obtain⟨p,h0,h1,h2,h3⟩:=h;exact⟨p,h0,(hk b (by simp[Ent.foot])).trans h1,Ib h2 (λk hk'=>hk k (by simp only[Ent.foot,List.mem_cons];exact .inr hk')),h3⟩
 | mit b it m rest cur=>
  obtain⟨es,ck,seen,since,c0,h1,h2,h3,h4,h5,h6,h7,⟨f,h8,h9⟩,hc⟩:=h;exact⟨es,ck,seen,since,c0,(hk b (by simp[Ent.foot])).trans h1,(hk it (by simp[Ent.foot])).trans h2,h3.mono hz,h4,h5,h6,h7,⟨f,h8,h9.mono hz⟩,hc.mono hz⟩
 | itz it m rest cur=>
  rcases h with⟨h1,h2⟩ | ⟨b,es,ck,seen,since,c0,h1,h2,h3,h4,h5,h6,⟨f,h8,h9⟩,hc⟩
  ·exact .inl ⟨(hk it (by simp[Ent.foot])).trans h1,h2⟩
  ·exact .inr ⟨b,es,ck,seen,since,c0,hz.f b _ h1,(hk it (by simp[Ent.foot])).trans h2,h3.mono hz,h4,h5,h6,⟨f,h8,h9.mono hz⟩,hc.mono hz⟩
 | imap b m=>obtain⟨es,ck,h1,h2⟩:=h;exact⟨es,ck,(hk b (by simp[Ent.foot])).trans h1,h2.mono hz⟩
 | pool q v e xs=>
  obtain⟨h0,hl,h⟩:=h;refine⟨h0,hl,λi b cs hi hx=>?_⟩;obtain⟨h1,us,h2,h3⟩:=h i b cs hi hx;exact⟨hz.nm q i b h1,us,(hk b (AeB hi)).trans h2,h3.mono hz⟩
 | poolw q v e re rz xs out=>
  obtain⟨hl,hn,hm,ho,h⟩:=h;refine⟨hl,hn,λi p hi=>hz.nm q i _ (hm i p hi),ho,λi p x hi hx hne=>?_⟩;obtain⟨⟨us,h4,h5⟩,h6,vs,h7,h8⟩:=h i p x hi hx hne;exact⟨⟨us,(hk p.1 (Ta hi hne (.inl rfl))).trans h4,h5.mono hz⟩,h6,vs,Ib h7 (λk hk'=>hk k (Ta hi hne (.inr hk'))),h8.mono hz⟩
 | poolm q v e xs out=>
  obtain⟨hl,hn,hm,ho,h⟩:=h;refine⟨hl,hn,λi p hi=>hz.nm q i _ (hm i p hi),ho,λi p x hi hx hne=>?_⟩;obtain⟨⟨us,h4,h5⟩,es,ck,h6,h7⟩:=h i p x hi hx hne;exact⟨⟨us,(hk p.1 (Tb hi hne (.inl rfl))).trans h4,h5.mono hz⟩,es,ck,(hk p.2 (Tb hi hne (.inr rfl))).trans h6,h7.mono hz⟩
structure Cx where
 w0:World
 Z0:Fz
 M:List Nat
 E:Fz→Prop
 G:List Nat
structure Lh (c:Cx) (H:List Ent) (Z:Fz) (w:World):Prop where
 own:∀e∈H,∀k∈e.gk,c.w0.heap.size≤k∨k∈c.G
 sz:∀e∈H,∀k∈e.gk,k<w.heap.size
 dis:H.Pairwise (λe e'=>∀k∈e.gk,k ∉ e'.gk)
 new:∀k i b,Z.nm k i=Ad b→c.Z0.nm k i=Ad b∨c.w0.heap.size≤k∨k∈c.G
 cap:∀e∈H,∀k∈e.gk,∀i,e.gn≤i→Z.nm k i=Ai
structure St (c:Cx) (H:List Ent) (Z:Fz) (w:World):Prop where
 os:w.os=c.w0.os
 tape:w.tape=c.w0.tape
 output:w.output=c.w0.output
 size:c.w0.heap.size≤w.heap.size
 old:∀k,k<c.w0.heap.size→k ∉ c.M→w.heap[k]? =c.w0.heap[k]?
 has:∀e∈H,e.holds Z w
 own:∀e∈H,∀k∈e.foot,c.w0.heap.size≤k∨k∈c.M
 dis:H.Pairwise (λe e'=>∀k∈e.foot,k ∉ e'.foot)
 frz:PC Z w
 le:Fz.le c.Z0 Z
 new:∀b o,Z b=Ad o→c.Z0 b=Ad o∨c.w0.heap.size≤b∨b∈c.M
 zdis:∀e∈H,∀k∈e.foot,Z k=Ai
 env:c.E Z
 emono:∀{Z Z':Fz},Fz.le Z Z'→c.E Z→c.E Z'
 gst:Lh c H Z w
section
variable {c : Cx} {w w' : World} {Z Z' : Fz} {H H' Hr Hin Hout : List Ent}
theorem Lh.sub (h:Lh c H Z w)(hs:H'.Sublist H):Lh c H' Z w:=⟨λe he=>h.own e (hs.subset he),λe he=>h.sz e (hs.subset he),h.dis.sublist hs,h.new,λe he=>h.cap e (hs.subset he)⟩
theorem Lh.perm (h:Lh c H Z w)(hp:H.Perm H'):Lh c H' Z w:=⟨λe he=>h.own e (hp.mem_iff.2 he),λe he=>h.sz e (hp.mem_iff.2 he),(hp.pairwise_iff (λhxy k hk hk'=>hxy k hk' hk)).1 h.dis,h.new,λe he=>h.cap e (hp.mem_iff.2 he)⟩
theorem Lh.grow (h:Lh c H Z w)(hw:w.heap.size≤w'.heap.size):Lh c H Z w':=⟨h.own,λe he k hk=>Nat.lt_of_lt_of_le (h.sz e he k hk) hw,h.dis,h.new,h.cap⟩
theorem Lh.names {Z Z':Fz}(h:Lh c H Z w)(hn:Z'.nm=Z.nm):Lh c H Z' w:=⟨h.own,h.sz,h.dis,λk i b e=>h.new k i b (by rw[← hn];exact e),λe he k hk i hi=>by rw[hn];exact h.cap e he k hk i hi⟩
theorem Lh.none {E:Fz→Prop}(hg:H.flatMap Ent.gk=[]):Lh ⟨w,Z,M,E,G⟩ H Z w':=by
 have h0:∀e∈H,∀k,k ∉ e.gk:=λe he k hk=>by
  have:k∈H.flatMap Ent.gk:=List.mem_flatMap.2 ⟨e,he,hk⟩;rw[hg] at this;cases this
 exact⟨λe he k hk=>absurd hk (h0 e he k),λe he k hk=>absurd hk (h0 e he k),List.Pairwise.imp_of_mem (R:=λ_ _=>True) (fun {a b} ha _ _ k hk=>absurd hk (h0 a ha k)) (List.pairwise_iff_getElem.2 λ_ _ _ _ _=>trivial),λ_ _ _ e=>.inl e,λe he k hk=>absurd hk (h0 e he k)⟩
theorem Lh.enter (h:Lh c (Hin++Hr) Z w){E:Fz→Prop}:Lh ⟨w,Z,M,E,Hin.flatMap Ent.gk⟩ Hin Z w:=
 ⟨λe he k hk=>.inr (List.mem_flatMap.2 ⟨e,he,hk⟩),λe he=>h.sz e (List.mem_append_left _ he),(List.pairwise_append.1 h.dis).1,λ_ _ _ e=>.inl e,λe he=>h.cap e (List.mem_append_left _ he)⟩
theorem Lh.call (h:Lh c (Hin++Hr) Z w){E:Fz→Prop}(hsz:c.w0.heap.size≤w.heap.size)(hsz':w.heap.size≤w'.heap.size)(h':Lh ⟨w,Z,M,E,Hin.flatMap Ent.gk⟩ Hout Z' w'):Lh c (Hout++Hr) Z' w':=by
 have hd:=List.pairwise_append.1 h.dis;have hG:∀k∈Hin.flatMap Ent.gk,∃e∈Hin,k∈e.gk:=λk hk=>List.mem_flatMap.1 hk;have hr:∀e∈Hr,∀k∈e.gk,k<w.heap.size∧k ∉ Hin.flatMap Ent.gk:=λe he k hk=>by
  refine⟨h.sz e (List.mem_append_right _ he) k hk,λhkG=>?_⟩;obtain⟨e',he',hke'⟩:=hG k hkG;exact hd.2.2 e' he' e he k hke' hk
 refine⟨λe he k hk=>?_,λe he k hk=>?_,?_,λk i b hb=>?_,λe he k hk i hi=>?_⟩
 ·rcases List.mem_append.1 he with he | he
  ·rcases h'.own e he k hk with h1 | h1
   ·exact .inl (Nat.le_trans hsz h1)
   ·obtain⟨e',he',hke'⟩:=hG k h1;exact h.own e' (List.mem_append_left _ he') k hke'
  ·exact h.own e (List.mem_append_right _ he) k hk
 ·rcases List.mem_append.1 he with he | he
  ·exact h'.sz e he k hk
  ·exact Nat.lt_of_lt_of_le (hr e he k hk).1 hsz'
 ·refine List.pairwise_append.2 ⟨h'.dis,hd.2.1,λe he e' he' k hk hk'=>?_⟩;have h2:=hr e' he' k hk';rcases h'.own e he k hk with h1 | h1
  ·simp only at h1;omega
  ·exact h2.2 h1
 ·rcases h'.new k i b hb with h1 | h1 | h1
  ·exact h.new k i b h1
  ·exact .inr (.inl (Nat.le_trans hsz h1))
  ·obtain⟨e',he',hke'⟩:=hG k h1;exact .inr (h.own e' (List.mem_append_left _ he') k hke')
 ·rcases List.mem_append.1 he with he | he
  ·exact h'.cap e he k hk i hi
  ·have h2:=hr e he k hk
   cases hz:Z'.nm k i with
   | none=>rfl
   | some b=>
    rcases h'.new k i b hz with h1 | h1 | h1
    ·have:=h.cap e (List.mem_append_right _ he) k hk i hi;simp only at h1;rw[this] at h1;cases h1
    ·simp only at h1;omega
    ·exact absurd h1 h2.2
theorem PC.lt (h:PC Z w){b:Nat}{o:Obj}(e:Z b=Ad o):b<w.heap.size:=(Array.getElem?_eq_some_iff.1 (h b o e)).1
theorem St.enter (h:St c (Hin++Hr) Z w):St ⟨w,Z,Hin.flatMap Ent.foot,c.E,Hin.flatMap Ent.gk⟩ Hin Z w:=
 ⟨rfl,rfl,rfl,AeG _,λ_ _ _=>rfl,λe he=>h.has e (List.mem_append_left _ he),λe he k hk=>.inr (List.mem_flatMap.2 ⟨e,he,hk⟩),(List.pairwise_append.1 h.dis).1,
  h.frz,Fz.le.refl _,λ_ _ e=>.inl e,λe he=>h.zdis e (List.mem_append_left _ he),h.env,h.emono,h.gst.enter⟩
theorem St.sub (h:St c H Z w)(hs:H'.Sublist H):St c H' Z w:=
 { h with has:=λe he=>h.has e (hs.subset he),own:=λe he=>h.own e (hs.subset he),dis:=h.dis.sublist hs,zdis:=λe he=>h.zdis e (hs.subset he),gst:=h.gst.sub hs }
theorem St.perm (h:St c H Z w)(hp:H.Perm H'):St c H' Z w:=
 { h with has:=λe he=>h.has e (hp.mem_iff.2 he),own:=λe he=>h.own e (hp.mem_iff.2 he),dis:=(hp.pairwise_iff (λhxy k hk hk'=>hxy k hk' hk)).1 h.dis,zdis:=λe he=>h.zdis e (hp.mem_iff.2 he),gst:=h.gst.perm hp }
theorem Bn:∀{H:List Ent} {i:Nat} {e:Ent},H[i]? =Ad e→H.Perm (e::H.eraseIdx i)
 | x::r,0,e,h=>by simp at h;subst h;simp
 | x::r,i+1,e,h=>by
  simp at h;exact((Bn h).cons x).trans (List.Perm.swap e x _)
theorem St.front (h:St c H Z w){e:Ent}(hi:H[i]? =Ad e):St c (e::H.eraseIdx i) Z w:=h.perm (Bn hi)
theorem St.ent (h:St c H Z w){en:Ent}(hi:H[i]? =Ad en):en.holds Z w:=h.has en (AeB hi)
theorem St.drawn (h:St c H Z w)(k:Nat):St c H Z { w with drawn:=k }:=
 { h with has:=λe he=>Ent.keep (h.has e he) (Fz.le.refl _) λ_ _=>rfl,frz:=⟨h.frz.f,h.frz.nm⟩,gst:=h.gst.grow (AeG _) }
theorem St.mem_lt (h:St c H Z w){e:Ent}(he:e∈H)(hk:k∈e.foot):k<w.heap.size:=Ent.lt (h.has e he) hk
theorem St.call (h:St c (Hin++Hr) Z w){E:Fz→Prop}(h':St ⟨w,Z,Hin.flatMap Ent.foot,E,Hin.flatMap Ent.gk⟩ Hout Z' w'):St c (Hout++Hr) Z' w':=by
 have hd:=List.pairwise_append.1 h.dis;have hM:∀k∈Hin.flatMap Ent.foot,∃e∈Hin,k∈e.foot:=λk hk=>List.mem_flatMap.1 hk;have hM2:∀k,k<c.w0.heap.size→k ∉ c.M→k ∉ Hin.flatMap Ent.foot:=λk hk hkM hkM2=>by
  obtain⟨e,he,hke⟩:=hM k hkM2;rcases h.own e (List.mem_append_left _ he) k hke with h1 | h1
  ·omega
  ·exact hkM h1
 have hr:∀e∈Hr,∀k∈e.foot,k<w.heap.size∧k ∉ Hin.flatMap Ent.foot:=λe he k hk=>by
  refine⟨h.mem_lt (List.mem_append_right _ he) hk,λhkM2=>?_⟩;obtain⟨e',he',hke'⟩:=hM k hkM2;exact hd.2.2 e' he' e he k hke' hk
 refine⟨h'.os.trans h.os,h'.tape.trans h.tape,h'.output.trans h.output,Nat.le_trans h.size h'.size,λk hk hkM=>?_,λe he=>?_,λe he k hk=>?_,?_,h'.frz,h.le.trans h'.le,λb o hb=>?_,λe he k hk=>?_,h.emono h'.le h.env,h.emono,h.gst.call h.size h'.size h'.gst⟩
 ·exact(h'.old k (Nat.lt_of_lt_of_le hk h.size) (hM2 k hk hkM)).trans (h.old k hk hkM)
 ·rcases List.mem_append.1 he with he | he
  ·exact h'.has e he
  ·exact Ent.keep (h.has e (List.mem_append_right _ he)) h'.le λk hk=>h'.old k (hr e he k hk).1 (hr e he k hk).2
 ·rcases List.mem_append.1 he with he | he
  ·rcases h'.own e he k hk with h1 | h1
   ·exact .inl (Nat.le_trans h.size h1)
   ·obtain⟨e',he',hke'⟩:=hM k h1;exact h.own e' (List.mem_append_left _ he') k hke'
  ·exact h.own e (List.mem_append_right _ he) k hk
 ·refine List.pairwise_append.2 ⟨h'.dis,hd.2.1,λe he e' he' k hk hk'=>?_⟩;rcases h'.own e he k hk with h1 | h1
  ·have h2:=(hr e' he' k hk').1;simp only at h1;omega
  ·exact(hr e' he' k hk').2 h1
 ·rcases h'.new b o hb with h1 | h1 | h1
  ·exact h.new b o h1
  ·exact .inr (.inl (Nat.le_trans h.size h1))
  ·obtain⟨e',he',hke'⟩:=hM b h1;exact .inr (h.own e' (List.mem_append_left _ he') b hke')
 ·rcases List.mem_append.1 he with he | he
  ·exact h'.zdis e he k hk
  ·have h2:=hr e he k hk
   cases hz:Z' k with
   | none=>rfl
   | some o=>
    rcases h'.new k o hz with h1 | h1 | h1
    ·have:=h.zdis e (List.mem_append_right _ he) k hk;simp only at h1;rw[this] at h1;cases h1
    ·simp only at h1;omega
    ·exact absurd h1 h2.2
theorem St.call0 (h:St c H Z w){E:Fz→Prop}(h':St ⟨w,Z,[],E,[]⟩ Hout Z' w'):St c (Hout++H) Z' w':=St.call (Hin:=[]) (by simpa using h) h'
theorem St.callF {e:Ent}(h:St c H Z w)(hi:H[i]? =Ad e){E:Fz→Prop}(h':St ⟨w,Z,e.foot,E,e.gk⟩ Hout Z' w'):St c (Hout++H.eraseIdx i) Z' w':=
 St.call (Hin:=[e]) (Hr:=H.eraseIdx i) (h.front hi) (by simpa using h')
theorem St.oneG {E:Fz→Prop}{e':Ent}(hz:PC Z w)(he0:E Z)(hm:∀{Z Z':Fz},Fz.le Z Z'→E Z→E Z')(os:w'.os=w.os)(tape:w'.tape=w.tape)(output:w'.output=w.output)(size:w.heap.size≤w'.heap.size)
  (hb:∀k,k<w.heap.size→k ∉ M→w'.heap[k]? =w.heap[k]?) (hM:∀k∈M,Z k=Ai) (he:e'.holds Z w') (hf:∀k∈e'.foot,k∈M∨w.heap.size≤k) (hg:Lh ⟨w,Z,M,E,G⟩ [e'] Z w'):St ⟨w,Z,M,E,G⟩ [e'] Z w':=by
 refine⟨os,tape,output,size,hb,by simpa using he,by simpa using λk hk=>(hf k hk).symm,Aj,⟨λb o hbo=>?_,λk i b hb=>Nat.lt_of_lt_of_le (hz.nm k i b hb) size⟩,Fz.le.refl _,λ_ _ e=>.inl e,?_,he0,hm,hg⟩
 ·rw[hb b (hz.lt hbo) (λh=>by rw[hM b h] at hbo;cases hbo)];exact hz b o hbo
 ·simp only[AeY,forall_eq];intro k hk;rcases hf k hk with h | h
  ·exact hM k h
  ·cases hz':Z k with
   | none=>rfl
   | some o=>have:=hz.lt hz';omega
theorem St.one {E:Fz→Prop}{e':Ent}(hz:PC Z w)(he0:E Z)(hm:∀{Z Z':Fz},Fz.le Z Z'→E Z→E Z')(os:w'.os=w.os)(tape:w'.tape=w.tape)(output:w'.output=w.output)(size:w.heap.size≤w'.heap.size)
  (hb:∀k,k<w.heap.size→k ∉ M→w'.heap[k]? =w.heap[k]?) (hM:∀k∈M,Z k=Ai) (he:e'.holds Z w') (hf:∀k∈e'.foot,k∈M∨w.heap.size≤k) (hg:e'.gk=[]:=by rfl):St ⟨w,Z,M,E,G⟩ [e'] Z w':=St.oneG hz he0 hm os tape output size hb hM he hf (Lh.none (by simp[hg]))
theorem St.set (h:St c H Z w){i:Nat}{e e':Ent}(hi:H[i]? =Ad e)(os:w'.os=w.os)(tape:w'.tape=w.tape)(output:w'.output=w.output)(size:w.heap.size≤w'.heap.size)
  (hb:∀k,k<w.heap.size→k ∉ e.foot→w'.heap[k]? =w.heap[k]?) (he:e'.holds Z w') (hf:∀k∈e'.foot,k∈e.foot∨w.heap.size≤k) (hg:e'.gk=[]:=by rfl):St c (H.set i e') Z w':=by
 have hmem:=AeB hi;have h3:=h.callF hi (St.one (e':=e') h.frz h.env h.emono os tape output size hb (h.zdis e hmem) he hf hg);have hil:i<Ae H:=(List.getElem?_eq_some_iff.1 hi).1;have hq:(H.set i e')[i]? =Ad e':=by simp[hil]
 have:=Bn hq;rw[List.eraseIdx_set_eq] at this;exact h3.perm this.symm
theorem St.add (h:St c H Z w){e':Ent}(os:w'.os=w.os)(tape:w'.tape=w.tape)(output:w'.output=w.output)(size:w.heap.size≤w'.heap.size)
  (hb:∀k,k<w.heap.size→w'.heap[k]? =w.heap[k]?) (he:e'.holds Z w') (hf:∀k∈e'.foot,w.heap.size≤k) (hg:e'.gk=[]:=by rfl):St c (e'::H) Z w':=
 h.call0 (St.one (e':=e') (M:=[]) h.frz h.env h.emono os tape output size (λk hk _=>hb k hk) Aj he (λk hk=>.inr (hf k hk)) hg)
theorem St.alloc (h:St c H Z w)(o:Obj){e:Ent}(he:e.holds Z (w.alloc o))(hf:e.foot=[w.heap.size])(hg:e.gk=[]:=by rfl):St c (e::H) Z (w.alloc o):=
 h.add rfl rfl rfl Aj (λk hk=>Below.heap_alloc w o k hk) he (by simp[hf]) hg
theorem KY {α:Type}{sz:Nat}:∀{vs:List (List α)} (hs:∀c∈vs,Ae c=sz) {i:Nat} {c:List α} (hi:vs[i]? =Ad c) {j:Nat} {u:α} (hj:c[j]? =Ad u),vs.flatten[i*sz+j]? =Ad u
 | [],hs,i,c,hi,j,u,hj=>by simp at hi
 | x::r,hs,0,c,hi,j,u,hj=>by
  simp at hi;subst hi;simp only[List.flatten_cons,Nat.zero_mul,AeK];rw[Afe (by have:=(List.getElem?_eq_some_iff.1 hj).1;exact this)];exact hj
 | x::r,hs,i+1,c,hi,j,u,hj=>by
  have hx:Ae x=sz:=hs x Aj;simp only[List.flatten_cons];rw[List.getElem?_append_right (by rw[hx,Nat.succ_mul];omega)];have e:(i+1)*sz+j-Ae x=i*sz+j:=by rw[hx,Nat.succ_mul];omega
  rw[e];exact KY (vs:=r) (λc hc=>hs c (by simp[hc])) (by simpa using hi) hj
theorem HL {α:Type}{sz:Nat}:∀{vs:List (List α)} (hs:∀c∈vs,Ae c=sz),Ae vs.flatten=Ae vs*sz
 | [],_=>by simp
 | x::r,hs=>by
  have:=HL (vs:=r) (λc hc=>hs c (by simp[hc]));have hx:=hs x Aj;simp only[List.flatten_cons,List.length_append,AeL] at this ⊢;rw[this,hx,Nat.succ_mul];omega
theorem St.freeze (h:St c H Z w){e:TypeId}{sz:Nat}{xs:List (List Rp)}(hi:H[i]? =Ad (.row v e sz xs)):∃Z',Fz.le Z Z'∧St c (H.eraseIdx i) Z' w∧Sl sz xs Z' v:=by
 obtain⟨h0,us,⟨h1,h2⟩,h3⟩:=h.ent hi;have hlen:=h3.length;rcases h2 with⟨rfl,hn⟩ | ⟨g,cap,cur,rfl,_,hg,hc,hm,hsz,htk⟩
 ·have:xs=[]:=AeT hn;subst this;exact⟨Z,Fz.le.refl _,h.sub (List.eraseIdx_sublist _ _),Sl.nil _ _⟩
 ·have hmem:=AeB hi;have hgz:Z g=Ai:=h.zdis _ hmem g (by simp[Ent.foot,Value.ownBlock])
  let Z':Fz:=⟨λb=>if b=g then Ad (.cells cur e (0,0)) else Z b,Z.nm⟩
  have hle:Fz.le Z Z':=⟨λb o hb=>by
   have:b≠g:=λe=>by subst e;rw[hgz] at hb;cases hb
   simpa[Z',this] using hb,λ_ _ _ h=>h⟩
  have hfr:=h.front hi;have hd:=List.pairwise_cons.1 hfr.dis;refine⟨Z',hle,?_,?_⟩
  ·have hs:=hfr.sub (List.sublist_cons_self _ _);refine { hs with has:=λen he=>Ent.keep (hs.has en he) hle λ_ _=>rfl,frz:=⟨λb o hb=>?_,h.frz.nm⟩,gst:=hs.gst.names rfl,le:=hs.le.trans hle,new:=λb o hb=>?_,zdis:=λen he k hk=>?_,env:=hs.emono hle hs.env }
   ·by_cases hbg:b=g
    ·subst hbg;simp[Z'] at hb;rw[← hb];exact hg
    ·simp[Z',hbg] at hb;exact h.frz b o hb
   ·by_cases hbg:b=g
    ·subst hbg;exact .inr (h.own _ hmem b (by simp[Ent.foot,Value.ownBlock]))
    ·simp[Z',hbg] at hb;exact h.new b o hb
   ·have hkg:k≠g:=λe=>hd.1 en he g (by simp[Ent.foot,Value.ownBlock]) (e▸hk);simp only[Z',hkg,if_false];exact hs.zdis en he k hk
  ·refine⟨Ad ⟨g,0,Ai⟩,cap,rfl,hc,hm,(λh=>by cases h),λj cl hj=>⟨h0 cl (AeB hj),⟨g,0,Ai⟩,rfl,rfl,λq r hq=>?_⟩⟩;have hfl:xs.flatten[j*sz+q]? =Ad r:=KY h0 hj hq;obtain⟨u,hu,hp⟩:=h3.at hfl;refine⟨u,?_,r.mono hle hp⟩;rw[← htk,AeF] at hu
   split at hu
   ·simpa[GG,Z'] using hu
   ·cases hu
end
end
end Go.Proofs.YtoegakndmanfoaaGreatDoor.Q
namespace Go.Proofs.YtoegakndmanfoaaGreatDoor
open Go Go.RowKit
set_option linter.unusedVariables false
theorem Iz (b o j:Nat):(⟨b,o,Ai⟩:Addr).add j=⟨b,o+j,Ai⟩:=by unfold Addr.add;split<;>simp_all
variable{i:Nat}{fz:Nat×Nat}{dd:Option Nat}{cs:Array Value}{off:Nat}
section
variable {P : Program} {n : Nat} {w0 : World} {M : List Nat} {ops : Array Oper} {Q : Exit → Act → World → Prop} {rest : List Oper} {l : Fr} {H H' : List Ent} {d : Nat} {x y c : Operand} {ty t t' e : TypeId} {pos : String} {af : Array Edge} {g : Option (Nat × Bool)} {v u : Value}
theorem St.ent {w:World}(h:St w0 M H w){en:Ent}(hi:H[i]? =Ad en):en.holds w:=h.has en (AeB hi)
theorem QP {w:World}{b:Nat}(hw:St w0 M H w)(hi:H[i]? =Ad (.blk b (.cells cs e fz))):w.cell? ⟨b,off,Ai⟩=cs[off]?:=
 cell_of_row w b off cs e fz (hw.ent hi)
theorem BB {b:Nat}(hag:∀w,(isAgg t).run P w = .ok Ah w)(hx:ev l x=Ad (.pointer (Ad ⟨b,off,Ai⟩)))
  (hi:H[i]? =Ad (.blk b (.cells cs e fz))) (hc:cs[off]? =Ad v):Cd P n w0 M l H { dst:=dd,op:=.load t x,type:=ty,pos:=pos,after:=af,guard:=g } v:=λa w ha hw=>by
 simp[execOp,ha.eval hx,Instr.loadAt,Instr.sureAddr,loadVar,hag,QP hw hi,hc]
theorem Cy {b sz:Nat}{r:List Value}(hag:∀w,(isAgg t).run P w = .ok Af w)(hsz:∀w,(sizeOf t).run P w = .ok sz w)
  (hx:ev l x=Ad (.pointer (Ad ⟨b,off,Ai⟩))) (hi:H[i]? =Ad (.blk b (.cells cs e fz))) (hr:(cs.toList.drop off).take sz=r) (hl:Ae r=sz) :
  Cd P n w0 M l H { dst:=dd,op:=.load t x,type:=ty,pos:=pos,after:=af,guard:=g } (.agg r.toArray):=λa w ha hw=>by
 have h1:=run_loadCells_list (P:=P) w ⟨b,off,Ai⟩ r (λj u hj=>by
  rw[Iz,QP hw hi];subst hr;rw[AeF] at hj
  split at hj
  ·simpa using hj
  ·cases hj)
 rw[hl] at h1;simp[execOp,ha.eval hx,Instr.loadAt,Instr.sureAddr,loadVar,hag,hsz,h1]
theorem Ci {p:Addr}(hx:ev l x=Ad (.pointer (Ad p))):Cd P n w0 M l H { dst:=dd,op:=.nilCheck x,type:=ty,pos:=pos,after:=af,guard:=g } (.pointer (Ad p)):=λa w ha hw=>by
 simp[execOp,ha.eval hx]
theorem AN {b off' sz:Nat}{fs:Array Field}{f:Field}(hu:P.underlying t=Ad (.struct fs))(hf:fs[i]? =Ad f)(hsz:∀w,(sizeOf f.type).run P w = .ok (sz+1) w)
  (hx:ev l x=Ad (.pointer (Ad ⟨b,off,Ai⟩))) (ho:off+f.offset=off'):Cd P n w0 M l H { dst:=dd,op:=.fieldAddr t x i,type:=ty,pos:=pos,after:=af,guard:=g } (.pointer (Ad ⟨b,off',Ai⟩)):=λa w ha hw=>by
 subst ho;simp[execOp,ha.eval hx,Instr.fieldAt,run_underlying hu,hf,Instr.sureAddr,fieldPlace,hsz,Iz]
end
def JD:Nat→List Value→Fr
 | _,[]=>[]
 | i,v::r=>(i,v)::JD (i+1) r
theorem Gv:∀(args:List Value) (k i:Nat) (v:Value),look (JD k args) i=Ad v→k≤i∧args[i-k]? =Ad v
 | [],k,i,v,h=>by simp[JD,look] at h
 | u::r,k,i,v,h=>by
  rw[JD,Ds] at h
  split at h
  ·rename_i e;subst e;simp at h;subst h;simp
  ·rename_i e
   have:=Gv r (k+1) i v h;refine⟨Ab,?_⟩;rw[show i-k=(i-(k+1))+1 from Ab];simpa using this.2
variable{fn:Func}{f:FuncId}{R:Ending→World→Prop}
section
variable {P : Program} {n : Nat} {w0 w : World} {M : List Nat} {ops : Array Oper} {Q : Exit → Act → World → Prop} {rest : List Oper} {l l' : Fr} {H H' : List Ent} {d : Nat} {ty t : TypeId} {pos : String} {af : Array Edge} {v u : Value}
theorem Aa7 {c:Code}{args:List Value}(hf:P.funcs[f]? =Ad fn)(hb:fn.body=Ad c)(hn:fn.ntmps=n)(hle:Nat.ble (Ae args) n=Af)
  (hw:St w0 M H w) (h:WC P n w0 M c (bodyPost P fn R) (JD 0 args) H):Calls P f args.toArray w R:=by
 have hle':Ae args≤n:=by simpa using hle
 refine calls_of_wp hf hb (h _ w ⟨?_,rfl,λi v hi=>?_⟩ hw)
 ·simp[hn];omega
 ·have:=(Gv args 0 i v hi).2;simp only[Nat.sub_zero] at this;have hlt:i<Ae args:=(List.getElem?_eq_some_iff.1 this).1;rw[Array.getElem?_append_left (by simpa using hlt)];simpa using this
theorem RZ {c:Code}{args:List Value}(hf:P.funcs[f]? =Ad fn)(hb:fn.body=Ad c)(hn:fn.ntmps=n)(hle:Nat.ble (Ae args) n=Af)
  (h:WC P n w [] c (bodyPost P fn R) (JD 0 args) []):Calls P f args.toArray w R:=Aa7 hf hb hn hle (St.refl w []) h
theorem A5 (hr:∀a w,DU n l a→St w0 M H w→(results fn a.tmps).run P w = .ok v w)(h:∀w,St w0 M H w→R (.returned v) w):WK n w0 M (bodyPost P fn R .ret) l H:=
 λa w ha hw=>⟨ha.defers,v,hr a w ha hw,h w hw⟩
theorem MG {a:Act}(ha:DU n l a)(h:look l i=Ad v):a.tmps[i]?.getD undef=v:=by
 rw[ha.tm i v h];rfl
theorem CH (hr:fn.results = #[.tmp i])(h:look l i=Ad v):∀a w,DU n l a→St w0 M H w→(results fn a.tmps).run P w = .ok v w:=λa w ha hw=>by
 have e:=MG ha h;simp[results,hr,e]
theorem Gr {j:Nat}(hr:fn.results = #[.tmp i,.tmp j])(h:look l i=Ad v)(h2:look l j=Ad u):∀a w,DU n l a→St w0 M H w→(results fn a.tmps).run P w = .ok (.tuple #[v,u]) w:=λa w ha hw=>by
 have e:=MG ha h;have e2:=MG ha h2;simp[results,hr,e,e2]
theorem Yi (e:v=u):∀w,St w0 [] H w→PA w0 u (.returned v) w:=λw hw=>⟨by rw[e],hw.sub (List.nil_sublist _)⟩
theorem EW {args:Array Operand}{ats:Array TypeId}{o:Oper}{a:Act}{vs:List Value}(ho:o.op = .call { callee:=.value (.func f),args:=args,argTypes:=ats })
  (hcall:∀(as1:Array Value) (w:World),(callFunc f as1).run P w = .ok (.enter f as1) w) (hv:(args.map a.eval)=vs.toArray) (w:World):(execOp a.eval o).run P w = .ok (.enter f vs.toArray) w:=by
 simp[execOp,ho,resolve,Act.eval,Deferred.ofValue,invoke,hv,hcall]
def Jy (l:Fr):List Operand→Option (List Value)
 | []=>Ad []
 | x::r=>match ev l x,Jy l r with
  | some v,Ad vs=>Ad (v::vs)
  | _,_=>Ai
theorem Pt {a:Act}(ha:DU n l a):∀{xs:List Operand} {vs:List Value},Jy l xs=Ad vs→xs.map a.eval=vs
 | [],vs,h=>by simp[Jy] at h;subst h;rfl
 | x::r,vs,h=>by
  simp only[Jy] at h
  split at h
  ·rename_i v vs' h1 h2
   simp at h;subst h;simp[ha.eval h1,Pt ha h2]
  ·cases h
theorem HW {args:List Operand}{ats:Array TypeId}{vs:List Value}(hcall:∀(as1:Array Value) (w:World),(callFunc f as1).run P w = .ok (.enter f as1) w)(hv:Jy l args=Ad vs)
  (hc:∀w,St w0 M H w→Calls P f vs.toArray w (PA w u)) (hn:Nat.blt d n=Af) (h:WL P n w0 M ops Q rest ((d,u)::l) H) :
  WL P n w0 M ops Q ({ dst:=Ad d,op:=.call { callee:=.value (.func f),args:=args.toArray,argTypes:=ats },type:=ty,pos:=pos,after:=af,guard:=Ai }::rest) l H:=
 K8 (λa w ha hw=>EW rfl hcall (by simp[Pt ha hv]) w) (λw hw=>(hc w hw).mono λe w' ⟨he,hs⟩=>⟨u,H,he,by simpa using hw.call0 hs,h⟩) hn
end
end Go.Proofs.YtoegakndmanfoaaGreatDoor
namespace Go.Proofs.YtoegakndmanfoaaGreatDoor.Q
open Go Go.RowKit
set_option linter.unusedVariables false
set_option linter.unusedSectionVars false
variable{r:Rp}{i:Nat}{α:Type}{pos:String}{d:Nat}{rs:List Rp}{xs:List (List Rp)}{Z:Fz}{H2:List Ent}{j sz:Nat}{ats:Array TypeId}{ty:TypeId}{Φ:Rp→List Ent→Prop}{f:FuncId}{e:TypeId}{id:Nat}{S:Type}{fn:Func}{v:Value}{E:Fz→Prop}{b:Bool}{op:Op}{Hin:List Ent}{l1:List α}{af:Array Edge}
section
variable [I : Dfr]
section
variable (P : Program) (n : Nat) (c : Cx)
def WL (ops:Array Oper)(Q:Exit→Act→World→Prop)(rest:List Oper)(l:Fr)(H:List Ent):Prop:=∀a w Z,DU n l a Z→St c H Z w→wpList P ops Q rest a w
def WC (x:Code)(Q:Exit→Act→World→Prop)(l:Fr)(H:List Ent):Prop:=∀a w Z,DU n l a Z→St c H Z w→x.wp P Q a w
def WK (K:Act→World→Prop)(l:Fr)(H:List Ent):Prop:=∀a w Z,DU n l a Z→St c H Z w→K a w
def IX {S:Type}(inv:S→Prop)(fr:S→Fr)(hp:S→List Ent):Act→World→Prop:=λa w=>∃s Z,inv s∧DU n (fr s) a Z∧St c (hp s) Z w
def Cd (l:Fr)(H:List Ent)(o:Oper)(r:Rp):Prop:=∀a w Z,DU n l a Z→St c H Z w→∃v,r.p Z v∧(execOp a.eval o).run P w = .ok (.value v) w
end
def U9 (c:Cx)(Φ:Rp→List Ent→Prop):Ending→World→Prop:=λe w'=>∃r v H Z,e = .returned v∧Φ r H∧r.p Z v∧St c H Z w'
def Fn (P:Program)(E:Fz→Prop)(f:FuncId)(args:List Rp)(Hin:List Ent)(Φ:Rp→List Ent→Prop):Prop:=
 ∀w Z (vs:List Value),BH Z args vs→St ⟨w,Z,Hin.flatMap Ent.foot,E,Hin.flatMap Ent.gk⟩ Hin Z w→Calls P f vs.toArray w (U9 ⟨w,Z,Hin.flatMap Ent.foot,E,Hin.flatMap Ent.gk⟩ Φ)
abbrev Fn0 (P:Program)(E:Fz→Prop)(f:FuncId)(args:List Rp)(r:Rp):Prop:=Fn P E f args [] (λr' H=>r'=r∧H=[])
def Zd:List Rp→List Rp→Prop
 | [],[]=>True
 | a::as1,b::bs=>EJ a b∧Zd as1 bs
 | _,_=>False
theorem Zd.all {Z:Fz}:∀{rs rs':List Rp} {vs:List Value},Zd rs rs'→BH Z rs vs→BH Z rs' vs
 | [],[],[],_,_=>trivial
 | a::as1,b::bs,v::vs,⟨h1,h2⟩,⟨h3,h4⟩=>⟨h1 Z v h3,h2.all h4⟩
theorem Fn.args {P:Program}{rs':List Rp}(h:Fn P E f rs' Hin Φ)(hl:Zd rs rs'):Fn P E f rs Hin Φ:=λw Z vs hv hs=>h w Z vs (hl.all hv) hs
section
variable {P : Program} {n : Nat} {c : Cx} {ops : Array Oper} {Q : Exit → Act → World → Prop} {rest : List Oper} {l l' : Fr} {H H' : List Ent} {x y : Code} {K : Act → World → Prop}
theorem WC.sub (hl:EU l' l)(hH:H'.Sublist H)(h:WC P n c x Q l' H'):WC P n c x Q l H:=λa w Z ha hw=>h a w Z (ha.sub hl) (hw.sub hH)
theorem WK.sub (hl:EU l' l)(hH:H'.Sublist H)(h:WK n c K l' H'):WK n c K l H:=λa w Z ha hw=>h a w Z (ha.sub hl) (hw.sub hH)
theorem WL.sub (hl:EU l' l)(hH:H'.Sublist H)(h:WL P n c ops Q rest l' H'):WL P n c ops Q rest l H:=λa w Z ha hw=>h a w Z (ha.sub hl) (hw.sub hH)
theorem WL.front {i:Nat}{e:Ent}(hi:H[i]? =Ad e)(h:WL P n c ops Q rest l (e::H.eraseIdx i)):WL P n c ops Q rest l H:=λa w Z ha hw=>h a w Z ha (hw.front hi)
theorem St.freezeF {w:World}(h:St c H Z w)(hi:H[i]? =Ad (.row v e sz xs)):∃Z',Fz.le Z Z'∧St c (.fact v (B3 sz xs)::H.eraseIdx i) Z' w:=by
 obtain⟨Z',hz,hs,hr⟩:=h.freeze hi;exact⟨Z',hz,hs.add rfl rfl rfl (AeG _) (λ_ _=>rfl) (e':=.fact v (B3 sz xs)) hr (by simp[Ent.foot])⟩
theorem WK.freeze (hi:H[i]? =Ad (.row v e sz xs))(h:WK n c K l (.fact v (B3 sz xs)::H.eraseIdx i)):WK n c K l H:=λa w Z ha hw=>by
 obtain⟨Z',hz,hs⟩:=St.freezeF hw hi;exact h a w Z' (ha.mono hz) hs
theorem WC.freeze (hi:H[i]? =Ad (.row v e sz xs))(h:WC P n c x Q l (.fact v (B3 sz xs)::H.eraseIdx i)):WC P n c x Q l H:=λa w Z ha hw=>by
 obtain⟨Z',hz,hs⟩:=St.freezeF hw hi;exact h a w Z' (ha.mono hz) hs
theorem WL.freeze (hi:H[i]? =Ad (.row v e sz xs))(h:WL P n c ops Q rest l (.fact v (B3 sz xs)::H.eraseIdx i)):WL P n c ops Q rest l H:=λa w Z ha hw=>by
 obtain⟨Z',hz,hs⟩:=St.freezeF hw hi;exact h a w Z' (ha.mono hz) hs
def Up (H:List Ent)(q r:Rp):Prop:=∀(c:Cx) Z w v,St c H Z w→q.p Z v→r.p Z v
theorem Up.refl (r:Rp):Up H r r:=λ_ _ _ _ _ h=>h
theorem Up.le {q:Rp}(h:EJ q r):Up H q r:=λ_ Z _ v _ hp=>h Z v hp
theorem Up.fact (hi:H[i]? =Ad (.fact v r)):Up H (rv v) r:=λc Z w u hw hp=>by rw[show u=v from hp];exact hw.ent hi
def EA (H:List Ent):List Rp→List Rp→Prop
 | [],[]=>True
 | q::qs,r::rs=>Up H q r∧EA H qs rs
 | _,_=>False
theorem EA.refl:∀rs:List Rp,EA H rs rs
 | []=>trivial
 | r::rs=>⟨Up.refl r,EA.refl rs⟩
theorem EA.all {c:Cx}{Z:Fz}{w:World}(hw:St c H Z w):∀{qs rs:List Rp} {vs:List Value},EA H qs rs→BH Z qs vs→BH Z rs vs
 | [],[],[],_,_=>trivial
 | q::qs,r::rs,v::vs,⟨h1,h2⟩,⟨h3,h4⟩=>⟨h1 c Z w v hw h3,h2.all hw h4⟩
theorem Up.agg {qs:List Rp}(h:EA H qs rs):Up H (BL qs) (BL rs):=λc Z w v hw ⟨us,e,hu⟩=>⟨us,e,h.all hw hu⟩
theorem DU.up {a:Act}{w:World}(ha:DU n l a Z)(hw:St c H Z w){q:Rp}(hd:look l d=Ad q)(hr:Up H q r):DU n ((d,r)::l) a Z:=
 ⟨ha.size,ha.defers,λi s hi=>by
  rw[Ds] at hi
  split at hi
  ·rename_i e;subst e;simp at hi;subst hi
   obtain⟨u,hu,hp⟩:=ha.tm d _ hd;exact⟨u,hu,hr c Z w u hw hp⟩
  ·exact ha.tm i s hi⟩
theorem WK.up {d:Nat}{q r:Rp}(hd:look l d=Ad q)(hr:Up H q r)(h:WK n c K ((d,r)::l) H):WK n c K l H:=λa w Z ha hw=>h a w Z (ha.up hw hd hr) hw
theorem WC.up {d:Nat}{q r:Rp}(hd:look l d=Ad q)(hr:Up H q r)(h:WC P n c x Q ((d,r)::l) H):WC P n c x Q l H:=λa w Z ha hw=>h a w Z (ha.up hw hd hr) hw
theorem WL.up {d:Nat}{q r:Rp}(hd:look l d=Ad q)(hr:Up H q r)(h:WL P n c ops Q rest ((d,r)::l) H):WL P n c ops Q rest l H:=λa w Z ha hw=>h a w Z (ha.up hw hd hr) hw
theorem St.upBlk {w:World}(h:St c H Z w){b:Nat}{cs cs':List Rp}(hi:H[i]? =Ad (.blk b cs e))(hu:EA H cs cs'):St c (H.set i (.blk b cs' e)) Z w:=
 h.set hi rfl rfl rfl (AeG _) (λ_ _ _=>rfl) (by obtain⟨us,h1,h2⟩:=h.ent hi;exact⟨us,h1,hu.all h h2⟩) (by simp[Ent.foot])
theorem WK.upBlk {i b:Nat}{cs cs':List Rp}{e:TypeId}(hi:H[i]? =Ad (.blk b cs e))(hu:EA H cs cs')(h:WK n c K l (H.set i (.blk b cs' e))):WK n c K l H:=λa w Z ha hw=>h a w Z ha (hw.upBlk hi hu)
theorem WC.upBlk {i b:Nat}{cs cs':List Rp}{e:TypeId}(hi:H[i]? =Ad (.blk b cs e))(hu:EA H cs cs')(h:WC P n c x Q l (H.set i (.blk b cs' e))):WC P n c x Q l H:=λa w Z ha hw=>h a w Z ha (hw.upBlk hi hu)
theorem WL.upBlk {i b:Nat}{cs cs':List Rp}{e:TypeId}(hi:H[i]? =Ad (.blk b cs e))(hu:EA H cs cs')(h:WL P n c ops Q rest l (H.set i (.blk b cs' e))):WL P n c ops Q rest l H:=λa w Z ha hw=>h a w Z ha (hw.upBlk hi hu)
theorem B0 (h:WC P n c x (Exit.then (λa w=>y.wp P Q a w) Q) l H):WC P n c (x.seq y) Q l H:=λa w Z ha hw=>wp_seq (h a w Z ha hw)
theorem EV (inv:S→Prop)(fr:S→Fr)(hp:S→List Ent)(h:WC P n c x (Exit.then (IX n c inv fr hp) Q) l H)(h2:∀s,inv s→WC P n c y Q (fr s) (hp s)) :
  WC P n c (x.seq y) Q l H:=λa w Z ha hw=>wp_seq (wp_mono (h a w Z ha hw) λe a w q=>by
   cases e with
   | normal=>obtain⟨s,Z,hi,hs,ht⟩:=q;exact h2 s hi a w Z hs ht
   | _=>exact q)
theorem AP {inv:S→Prop}{fr:S→Fr}{hp:S→List Ent}(s:S)(hi:inv s)(hl:EU (fr s) l)(hH:(hp s).Sublist H):WK n c (IX n c inv fr hp) l H:=
 λ_ _ Z ha hw=>⟨s,Z,hi,ha.sub hl,hw.sub hH⟩
theorem AV (h:WK n c K l H):WK n c (Exit.then K Q .normal) l H:=h
theorem A0 (h:WK n c (Q (.exit id)) l H):WK n c (Exit.then K Q (.exit id)) l H:=h
theorem AA (h:WK n c (Q .ret) l H):WK n c (Exit.then K Q .ret) l H:=h
theorem BZ (h:WK n c (Q .normal) l H):WK n c (Exit.inBlock id Q .normal) l H:=h
theorem CV (h:WK n c (Q .ret) l H):WK n c (Exit.inBlock id Q .ret) l H:=h
theorem DW (h:WC P n c y Q l H):WK n c (λa w=>y.wp P Q a w) l H:=h
theorem BC (h:WK n c (Q .normal) l H):WC P n c .skip Q l H:=λa w Z ha hw=>wp_skip (h a w Z ha hw)
theorem BF (h:WK n c (Q (.exit id)) l H):WC P n c (.exit id) Q l H:=λa w Z ha hw=>wp_exit (h a w Z ha hw)
theorem CG (h:WK n c (Q .ret) l H):WC P n c .ret Q l H:=λa w Z ha hw=>wp_ret (h a w Z ha hw)
theorem A6 (h:WC P n c x (Exit.inBlock id Q) l H):WC P n c (.block id x) Q l H:=λa w Z ha hw=>wp_block (h a w Z ha hw)
theorem Bk (h:WK n c (Q .normal) l H):WK n c (Exit.inBlock id Q (.exit id)) l H:=λa w Z ha hw=>by
 show if id=id then _ else _
 rw[AeX rfl];exact h a w Z ha hw
theorem JK {id':Nat}(hne:Nat.beq id' id=Ah)(h:WK n c (Q (.exit id')) l H):WK n c (Exit.inBlock id Q (.exit id')) l H:=λa w Z ha hw=>by
 show if id'=id then _ else _
 rw[AeN (λe=>by subst e;simp at hne)];exact h a w Z ha hw
theorem OH {o:Operand}(ho:ev l o=Ad (rB b))(h1:b=Af→WC P n c x Q l H)(h2:b=Ah→WC P n c y Q l H):WC P n c (.cond o x y) Q l H:=
 λa w Z ha hw=>wp_cond_split (ha.eval ho) (λe=>h1 e a w Z ha hw) (λe=>h2 e a w Z ha hw)
theorem Be {o:Operand}(ho:ev l o=Ad (rB b))(hb:b=Af)(h:WC P n c x Q l H):WC P n c (.cond o x y) Q l H:=
 λa w Z ha hw=>by subst hb;exact wp_cond_true (ha.eval ho) (h a w Z ha hw)
theorem AM {o:Operand}(ho:ev l o=Ad (rB b))(hb:b=Ah)(h:WC P n c y Q l H):WC P n c (.cond o x y) Q l H:=
 λa w Z ha hw=>by subst hb;exact wp_cond_false (ha.eval ho) (h a w Z ha hw)
theorem OG (inv:S→Prop)(fr:S→Fr)(hp:S→List Ent)(μ:S→Nat)(s0:S)(h0:inv s0)(hl:EU (fr s0) l)(hH:(hp s0).Sublist H)
  (round:∀s,inv s→WC P n c x (Exit.then (IX n c (λs'=>inv s'∧μ s'<μ s) fr hp) Q) (fr s) (hp s)):WC P n c (.loop x) Q l H:=λa w Z ha hw=>by
 refine wp_loop_ghost (λk a w=>∃s Z,μ s=k∧inv s∧DU n (fr s) a Z∧St c (hp s) Z w) (μ s0) ⟨s0,Z,rfl,h0,ha.sub hl,hw.sub hH⟩ ?_;rintro k a w ⟨s,Z,rfl,hi,ha,hw⟩;refine wp_mono (round s hi a w Z ha hw) λe a' w' q=>?_
 cases e with
 | normal=>
  obtain⟨s',Z',⟨hi',hlt⟩,ha',hw'⟩:=q;exact⟨μ s',hlt,s',Z',rfl,hi',ha',hw'⟩
 | _=>exact q
theorem AF {ops:List Oper}(h:WL P n c ops.toArray Q ops l H):WC P n c (.region id ops.toArray Ah) Q l H:=λa w Z ha hw=>wp_region_lit (h a w Z ha hw)
theorem AL (h:WK n c (Q .normal) l H):WL P n c ops Q [] l H:=λa w Z ha hw=>wpList_nil (h a w Z ha hw)
theorem sN:([]:List α).Sublist []:=List.Sublist.slnil
theorem sC {a:α}{l2:List α}(h:l1.Sublist l2):(a::l1).Sublist (a::l2):=List.Sublist.cons_cons a h
theorem sS {a:α}{l2:List α}(h:l1.Sublist l2):l1.Sublist (a::l2):=List.Sublist.cons a h
theorem CM (h:WC P n c y Q l H):WK n c (Exit.then (λa w=>y.wp P Q a w) Q .normal) l H:=AV (DW h)
theorem Bu (h:WC P n c y Q l H):WL P n c ops (Exit.then (λa w=>y.wp P Q a w) Q) [] l H:=AL (CM h)
theorem A3 {ops:List Oper}(h:WL P n c ops.toArray (Exit.then (λa w=>y.wp P Q a w) Q) ops l H):WC P n c ((Code.region id ops.toArray Ah).seq y) Q l H:=B0 (AF h)
theorem CZ {os:List Oper}(h:WL P n c os.toArray (Exit.then (λa w=>y.wp P Q a w) Q) os l H):WL P n c ops (Exit.then (λa w=>((Code.region id os.toArray Ah).seq y).wp P Q a w) Q) [] l H:=Bu (A3 h)
def rle:List (Nat×List Ent)→List (List Ent)
 | []=>[]
 | p::r=>Au p.1 p.2++rle r
theorem Ew {a:Act}(ha:DU n l a Z)(hj:DP ops j=Ad d)(hv:look l d=Ad (rB b)):yielded ops a.tmps j=Ad b:=by
 unfold DP at hj;obtain⟨v,h1,h2⟩:=ha.tm d _ hv;rw[show v = .bool b from h2] at h1;simp[yielded,hj,h1]
theorem J5 {a:Act}(ha:DU n l a Z)(hj:DP ops j=Ad d)(hv:look l d=Ad (rv undef)):yielded ops a.tmps j=Ai:=by
 unfold DP at hj;obtain⟨v,h1,h2⟩:=ha.tm d _ hv;rw[show v=undef from h2] at h1;simp[yielded,hj,h1,undef]
theorem Em {d:Option Nat}{dj:Nat}{want:Bool}(hj:DP ops j=Ad dj)(hv:look l dj=Ad (rB b))(hb:b=want)
  (h:WL P n c ops Q ({ dst:=d,op:=op,type:=ty,pos:=pos,after:=af,guard:=Ai }::rest) l H) :
  WL P n c ops Q ({ dst:=d,op:=op,type:=ty,pos:=pos,after:=af,guard:=Ad (j,want) }::rest) l H:=λa w Z ha hw=>by
 have h1:=h a w Z ha hw;have hy:=Ew ha hj hv;subst hb;simp only[wpList,Region.wanted,hy,beq_self_eq_true,if_true] at h1 ⊢;exact h1
theorem GD {dj:Nat}{want:Bool}(hj:DP ops j=Ad dj)(hv:look l dj=Ad (rB b))(hb:b = !want)(hn:Nat.blt d n=Af)
  (h:WL P n c ops Q rest ((d,rv undef)::l) H) :
  WL P n c ops Q ({ dst:=Ad d,op:=op,type:=ty,pos:=pos,after:=af,guard:=Ad (j,want) }::rest) l H:=λa w Z ha hw=>by
 have hy:=Ew ha hj hv;subst hb;refine wpList_skip ?_ (h _ w Z (ha.put hn rfl) hw);simp[Region.wanted,hy]
theorem Vk {dj:Nat}{want:Bool}(hj:DP ops j=Ad dj)(hv:look l dj=Ad (rv undef))(hn:Nat.blt d n=Af)
  (h:WL P n c ops Q rest ((d,rv undef)::l) H) :
  WL P n c ops Q ({ dst:=Ad d,op:=op,type:=ty,pos:=pos,after:=af,guard:=Ad (j,want) }::rest) l H:=λa w Z ha hw=>by
 have hy:=J5 ha hj hv;refine wpList_skip ?_ (h _ w Z (ha.put hn rfl) hw);simp[Region.wanted,hy]
theorem EB (hr:Cd P n c l H { dst:=Ad d,op:=op,type:=ty,pos:=pos,after:=af,guard:=Ai } r)
  (hn:Nat.blt d n=Af) (h:WL P n c ops Q rest ((d,r)::l) H):WL P n c ops Q ({ dst:=Ad d,op:=op,type:=ty,pos:=pos,after:=af,guard:=Ai }::rest) l H:=λa w Z ha hw=>
 wpList_plain rfl λK hK=>by
  obtain⟨v,hv,he⟩:=hr a w Z ha hw;unfold Oper.wp;rw[he];exact hK _ _ (h _ w Z (ha.put hn hv) hw)
theorem K7
  (hr:∀a w Z,DU n l a Z→St c H Z w→∃v w' r H' Z',(execOp a.eval { dst:=Ad d,op:=op,type:=ty,pos:=pos,after:=af,guard:=Ai }).run P w = .ok (.value v) w'∧Fz.le Z Z'∧r.p Z' v∧St c H' Z' w'∧WL P n c ops Q rest ((d,r)::l) H')
  (hn:Nat.blt d n=Af):WL P n c ops Q ({ dst:=Ad d,op:=op,type:=ty,pos:=pos,after:=af,guard:=Ai }::rest) l H:=λa w Z ha hw=>
 wpList_plain rfl λK hK=>by
  obtain⟨v,w',r,H',Z',h1,hz,hv,h2,h3⟩:=hr a w Z ha hw;unfold Oper.wp;rw[h1];exact hK _ _ (h3 _ w' Z' ((ha.mono hz).put hn hv) h2)
theorem Vj
  (hr:∀a w Z,DU n l a Z→St c H Z w→∃w' H',(execOp a.eval { dst:=Ai,op:=op,type:=ty,pos:=pos,after:=af,guard:=Ai }).run P w = .ok .skip w'∧St c H' Z w'∧WL P n c ops Q rest l H') :
  WL P n c ops Q ({ dst:=Ai,op:=op,type:=ty,pos:=pos,after:=af,guard:=Ai }::rest) l H:=λa w Z ha hw=>
 wpList_plain rfl λK hK=>by
  obtain⟨w',H',h1,h2,h3⟩:=hr a w Z ha hw;unfold Oper.wp;rw[h1];exact hK _ _ (h3 _ w' Z (ha.put_none _) h2)
theorem K8 {args:Act→Array Value}
  (hr:∀a w Z,DU n l a Z→St c H Z w→(execOp a.eval { dst:=Ad d,op:=op,type:=ty,pos:=pos,after:=af,guard:=Ai }).run P w = .ok (.enter f (args a)) w∧
   Calls P f (args a) w (λe w'=>∃v r H' Z',e = .returned v∧Fz.le Z Z'∧r.p Z' v∧St c H' Z' w'∧WL P n c ops Q rest ((d,r)::l) H'))
  (hn:Nat.blt d n=Af):WL P n c ops Q ({ dst:=Ad d,op:=op,type:=ty,pos:=pos,after:=af,guard:=Ai }::rest) l H:=λa w Z ha hw=>
 wpList_plain rfl λK hK=>by
  obtain⟨h0,hc⟩:=hr a w Z ha hw;unfold Oper.wp;rw[h0];refine hc.mono ?_;rintro e w' ⟨v,r,H',Z',rfl,hz,hv,h2,h3⟩;exact hK _ _ (h3 _ w' Z' ((ha.mono hz).put hn hv) h2)
def Jy (l:Fr):List Operand→Option (List Rp)
 | []=>Ad []
 | x::r=>match ev l x,Jy l r with
  | some v,Ad vs=>Ad (v::vs)
  | _,_=>Ai
theorem E9 {a:Act}{Z:Fz}(ha:DU n l a Z):∀{xs:List Operand} {rs:List Rp},Jy l xs=Ad rs→BH Z rs (xs.map a.eval)
 | [],rs,h=>by simp[Jy] at h;subst h;trivial
 | x::r,rs,h=>by
  simp only[Jy] at h
  split at h
  ·rename_i v vs' h1 h2
   simp at h;subst h;exact⟨ha.ev h1,E9 ha h2⟩
  ·cases h
theorem EW {args:List Operand}{o:Oper}{a:Act}(ho:o.op = .call { callee:=.value (.func f),args:=args.toArray,argTypes:=ats })
  (hcall:∀(as1:Array Value) (w:World),(callFunc f as1).run P w = .ok (.enter f as1) w) (w:World):(execOp a.eval o).run P w = .ok (.enter f (args.map a.eval).toArray) w:=by
 simp[execOp,ho,resolve,Act.eval,Deferred.ofValue,invoke,hcall]
def Kt:List Rp→List Rp→Prop
 | [],[]=>True
 | r::rs,q::qs=>EJ r q∧Kt rs qs
 | _,_=>False
theorem Kt.refl:∀rs:List Rp,Kt rs rs
 | []=>trivial
 | r::rs=>⟨EJ.refl r,Kt.refl rs⟩
theorem Kt.all {Z:Fz}:∀{rs qs:List Rp} {vs:List Value},Kt rs qs→BH Z rs vs→BH Z qs vs
 | [],[],[],_,_=>trivial
 | r::rs,q::qs,v::vs,⟨h1,h2⟩,⟨h3,h4⟩=>⟨h1 Z v h3,h2.all h4⟩
theorem Fn.sub {args args':List Rp}{Φ':Rp→List Ent→Prop}(h:Fn P E f args' Hin Φ)(ha:Kt args args')(hΦ:∀r H,Φ r H→Φ' r H):Fn P E f args Hin Φ':=λw Z vs hv hs=>
 (h w Z vs (ha.all hv) hs).mono λe w' ⟨r,v,H,Z',he,hp,hr,ht⟩=>⟨r,v,H,Z',he,hΦ r H hp,hr,ht⟩
theorem HW {args:List Operand}{Hr:List Ent}(hcall:∀(as1:Array Value) (w:World),(callFunc f as1).run P w = .ok (.enter f as1) w)(hv:Jy l args=Ad rs)
  (hp:H.Perm (Hin++Hr)) (hc:Fn P c.E f rs Hin Φ) (hn:Nat.blt d n=Af) (h:∀r Ho,Φ r Ho→WL P n c ops Q rest ((d,r)::l) (Ho++Hr)) :
  WL P n c ops Q ({ dst:=Ad d,op:=.call { callee:=.value (.func f),args:=args.toArray,argTypes:=ats },type:=ty,pos:=pos,after:=af,guard:=Ai }::rest) l H:=
 K8 (args:=λa=>(args.map a.eval).toArray) (λa w Z ha hw=>⟨EW rfl hcall w,by
  have hw2:=hw.perm hp;refine(hc w Z _ (E9 ha hv) hw2.enter).mono ?_;rintro e w' ⟨r,v,Ho,Z',he,hΦ,hr,hs⟩;exact⟨v,r,Ho++Hr,Z',he,hs.le,hr,hw2.call hs,h r Ho hΦ⟩⟩) hn
theorem ES {args:List Operand}{r':Rp}(hcall:∀(as1:Array Value) (w:World),(callFunc f as1).run P w = .ok (.enter f as1) w)(hv:Jy l args=Ad rs)
  (hc:Fn0 P c.E f rs r') (hr:r'=r) (hn:Nat.blt d n=Af) (h:WL P n c ops Q rest ((d,r)::l) H) :
  WL P n c ops Q ({ dst:=Ad d,op:=.call { callee:=.value (.func f),args:=args.toArray,argTypes:=ats },type:=ty,pos:=pos,after:=af,guard:=Ai }::rest) l H:=
 HW (Hin:=[]) (Hr:=H) hcall hv (Ae5 _) hc hn (by rintro _ _ ⟨rfl,rfl⟩;subst hr;exact h)
theorem Gv:∀{Z:Fz} (rs:List Rp) (vs:List Value) (k:Nat),BH Z rs vs→∀i r,look ((rs.zipIdx k).map λp=>(p.2,p.1)) i=Ad r→k≤i∧∃v,vs[i-k]? =Ad v∧r.p Z v
 | _,[],[],k,_,i,r,h=>by simp[look] at h
 | Z,q::rs,v::vs,k,⟨h1,h2⟩,i,r,h=>by
  simp only[List.zipIdx_cons,AeO] at h;rw[Ds] at h
  split at h
  ·rename_i e;subst e;simp at h;subst h;exact⟨AeG _,v,Aj,h1⟩
  ·rename_i e
   obtain⟨h3,u,h4,h5⟩:=Gv rs vs (k+1) h2 i r h;refine⟨Ab,u,?_,h5⟩;rw[show i-k=(i-(k+1))+1 from Ab];simpa using h4
def JD (rs:List Rp):Fr:=(rs.zipIdx 0).map λp=>(p.2,p.1)
theorem enter {x:Code}{args:List Rp}(hf:P.funcs[f]? =Ad fn)(hb:fn.body=Ad x)(hn:fn.ntmps=n)(hle:Nat.ble (Ae args) n=Af)
  (h:∀w Z,@WC dfr0 P n ⟨w,Z,Hin.flatMap Ent.foot,E,Hin.flatMap Ent.gk⟩ x (bodyPost P fn (U9 ⟨w,Z,Hin.flatMap Ent.foot,E,Hin.flatMap Ent.gk⟩ Φ)) (JD args) Hin):Fn P E f args Hin Φ:=λw Z vs hv hs=>by
 have hle':Ae args≤n:=by simpa using hle
 have hl:=hv.length;refine calls_of_wp hf hb (h w Z _ w Z (DU.mk (I:=dfr0) ?_ rfl λi r hi=>?_) hs)
 ·simp[hn];omega
 ·obtain⟨_,v,h1,h2⟩:=Gv args vs 0 hv i r hi;simp only[Nat.sub_zero] at h1;have hlt:i<Ae vs:=(List.getElem?_eq_some_iff.1 h1).1;refine⟨v,?_,h2⟩;rw[Array.getElem?_append_left (by simpa using hlt)];simpa using h1
def QU (P:Program)(n:Nat)(c:Cx)(l:Fr)(H:List Ent)(fn:Func)(r:Rp):Prop:=∀a w Z,DU n l a Z→St c H Z w→∃v,r.p Z v∧(results fn a.tmps).run P w = .ok v w
theorem A5 (hr:@QU dfr0 P n c l H fn r)(hp:H2.Sublist H)(h:Φ r H2):@WK dfr0 n c (bodyPost P fn (U9 c Φ) .ret) l H:=
 λa w Z ha hw=>by
  obtain⟨v,hv,he⟩:=hr a w Z ha hw;exact⟨DU.defers (I:=dfr0) ha,v,he,r,v,H2,Z,rfl,h,hv,hw.sub hp⟩
theorem Ex (hr:@QU dfr0 P n c l H fn r)(hp:H2.Sublist H)(h:Φ r H2):@WK dfr0 n c (bodyPost P fn (U9 c Φ) .normal) l H:=
 λa w Z ha hw=>by
  obtain⟨v,hv,he⟩:=hr a w Z ha hw;exact⟨DU.defers (I:=dfr0) ha,v,he,r,v,H2,Z,rfl,h,hv,hw.sub hp⟩
theorem XJ (hp:H.Perm H2)(h:WK n c K l H2):WK n c K l H:=λa w Z ha hw=>h a w Z ha (hw.perm hp)
def VB (P:Program)(a:Act):ResultVar→Sem Value
 | .tmp t=>pure (a.tmps.getD t undef)
 | .cell b t=>do loadVar t (← asAddr (a.tmps.getD b undef))
def RV (P:Program)(n:Nat)(c:Cx)(l:Fr)(H:List Ent)(x:ResultVar)(r:Rp):Prop:=∀a w Z,DU n l a Z→St c H Z w→∃v,r.p Z v∧(VB P a x).run P w = .ok v w
theorem Yg (h:look l i=Ad r):RV P n c l H (.tmp i) r:=λa w Z ha _=>by
 obtain⟨v,h1,h2⟩:=ha.tm i r h;exact⟨v,h2,by simp[VB,Array.getD_eq_getD_getElem?,h1]⟩
theorem Ia (fn:Func)(a:Act):results fn a.tmps=(do
  let vs ← fn.results.mapM (VB P a)
  pure (if h:vs.size=1 then vs[0] else .tuple vs)):=by
 unfold results
 congr 1
theorem LP (hr:fn.results = #[]):QU P n c l H fn (rv (.tuple #[])):=λa w Z ha _=>⟨_,rfl,by simp[results,hr]⟩
theorem CH {x:ResultVar}(hr:fn.results = #[x])(h:RV P n c l H x r):QU P n c l H fn r:=λa w Z ha hw=>by
 obtain⟨v,h1,h2⟩:=h a w Z ha hw;exact⟨v,h1,by simp[Ia (P:=P),hr,h2]⟩
theorem Gr {x y:ResultVar}{s:Rp}(hr:fn.results = #[x,y])(h:RV P n c l H x r)(h':RV P n c l H y s):QU P n c l H fn (DT [r,s]):=λa w Z ha hw=>by
 obtain⟨v,h1,h2⟩:=h a w Z ha hw;obtain⟨u,h3,h4⟩:=h' a w Z ha hw;exact⟨.tuple #[v,u],⟨[v,u],rfl,h1,h3,trivial⟩,by simp[Ia (P:=P),hr,h2,h4]⟩
theorem Hc {x y z:ResultVar}{s t:Rp}(hr:fn.results = #[x,y,z])(h:RV P n c l H x r)(h':RV P n c l H y s)(h'':RV P n c l H z t):QU P n c l H fn (DT [r,s,t]):=λa w Z ha hw=>by
 obtain⟨v,h1,h2⟩:=h a w Z ha hw;obtain⟨u,h3,h4⟩:=h' a w Z ha hw;obtain⟨q,h5,h6⟩:=h'' a w Z ha hw;exact⟨.tuple #[v,u,q],⟨[v,u,q],rfl,h1,h3,h5,trivial⟩,by simp[Ia (P:=P),hr,h2,h4,h6]⟩
theorem r_4 {x y z k:ResultVar}{s t q:Rp}(hr:fn.results = #[x,y,z,k])(h:RV P n c l H x r)(h':RV P n c l H y s)(h2:RV P n c l H z t)(h3:RV P n c l H k q):QU P n c l H fn (DT [r,s,t,q]):=λa w Z ha hw=>by
 obtain⟨v,e1,e2⟩:=h a w Z ha hw;obtain⟨u,e3,e4⟩:=h' a w Z ha hw;obtain⟨p,e5,e6⟩:=h2 a w Z ha hw;obtain⟨m,e7,e8⟩:=h3 a w Z ha hw;exact⟨.tuple #[v,u,p,m],⟨[v,u,p,m],rfl,e1,e3,e5,e7,trivial⟩,by simp[Ia (P:=P),hr,e2,e4,e6,e8]⟩
theorem Zj {l':Fr}{H':List Ent}(hl:l=l')(hH:H=H')(h:WC P n c x Q l' H'):WC P n c x Q l H:=by subst hl;subst hH;exact h
theorem Aba {l':Fr}{H':List Ent}(hl:l=l')(hH:H=H')(h:WK n c K l' H'):WK n c K l H:=by subst hl;subst hH;exact h
theorem JL {H':List Ent}(hH:H=H')(h:WK n c K l H'):WK n c K l H:=by subst hH;exact h
theorem XO (hp:H.Perm H2)(h:WC P n c x Q l H2):WC P n c x Q l H:=λa w Z ha hw=>h a w Z ha (hw.perm hp)
def Mid (n:Nat)(c:Cx)(l:Fr)(H:List Ent):Act→World→Prop:=λa w=>∃Z,DU n l a Z∧St c H Z w
theorem AQ (l1:Fr)(H1:List Ent)(h:WC P n c x (Exit.then (Mid n c l1 H1) Q) l H)(h2:WC P n c y Q l1 H1):WC P n c (x.seq y) Q l H:=λa w Z ha hw=>
 wp_seq (wp_mono (h a w Z ha hw) λe a w q=>by
  cases e with
  | normal=>obtain⟨Z,h3,h4⟩:=q;exact h2 a w Z h3 h4
  | _=>exact q)
theorem M8 {l1:Fr}{H1:List Ent}(hl:EU l1 l)(hH:H1.Sublist H):WK n c (Mid n c l1 H1) l H:=λ_ _ Z ha hw=>⟨Z,ha.sub hl,hw.sub hH⟩
def YN (id:Nat)(K:Act→World→Prop)(Q:Exit→Act→World→Prop):Exit→Act→World→Prop
 | .exit i,a,w=>if i=id then K a w else Q (.exit i) a w
 | e,a,w=>Q e a w
theorem By (h:WK n c K l H):WK n c (YN id K Q (.exit id)) l H:=λa w Z ha hw=>by
 show if id=id then _ else _
 rw[AeX rfl];exact h a w Z ha hw
theorem Br (h:WK n c (Q .ret) l H):WK n c (YN id K Q .ret) l H:=h
theorem BE {V:Type}(id:Nat)(inv:S→Prop)(fr:S→Fr)(hp:S→List Ent)(μ:S→Nat)(s0:S)(h0:inv s0)(hl:EU (fr s0) l)(hH:(hp s0).Sublist H)(iv:V→Prop)(fv:V→Fr)(hv:V→List Ent)
  (round:∀s,inv s→WC P n c x (Exit.then (IX n c (λs'=>inv s'∧μ s'<μ s) fr hp) (YN id (IX n c iv fv hv) Q)) (fr s) (hp s)) (hexit:∀v,iv v→WK n c (Q (.exit id)) (fv v) (hv v)):WC P n c (.loop x) Q l H:=λa w Z ha hw=>
 wp_mono (OG (Q:=YN id (IX n c iv fv hv) Q) inv fr hp μ s0 h0 hl hH round a w Z ha hw) λe a w q=>by
  cases e with
  | exit i=>
   by_cases hi:i=id
   ·subst hi;have q':if i=i then IX n c iv fv hv a w else Q (.exit i) a w:=q
    rw[AeX rfl] at q';obtain⟨v,Z,h1,h2,h3⟩:=q';exact hexit v h1 a w Z h2 h3
   ·have q':if i=id then IX n c iv fv hv a w else Q (.exit i) a w:=q
    rw[AeN hi] at q';exact q'
  | _=>exact q
theorem Qd {lb:Nat}(h:WK n c (Q .normal) l H):WC P n c (.label lb) Q l H:=λa w Z ha hw=>wp_label (h a w Z ha hw)
theorem Qc (h:WC P n c x (Exit.noGoto Q) l H):WC P n c (.scope x) Q l H:=λa w Z ha hw=>wp_scope_straight (h a w Z ha hw)
theorem Jf (h:WK n c (Q .ret) l H):WK n c (Exit.noGoto Q .ret) l H:=h
end
theorem Fn0.of_old {P:Program}{vs:List Value}(h:∀w Z,PC Z w→E Z→Calls P f vs.toArray w (PA w v)):Fn0 P E f (vs.map rv) (rv v):=λw Z us hu hs=>by
 rw[BH.eq_rv hu];refine(h w Z hs.frz hs.env).mono λe w' ⟨he,ht⟩=>⟨rv v,v,[],Z,he,⟨rfl,rfl⟩,rfl,⟨ht.os,ht.tape,ht.output,ht.size,ht.old,Aj,Aj,Aj,⟨λb o hb=>?_,λk i b hb=>Nat.lt_of_lt_of_le (hs.frz.nm k i b hb) ht.size⟩,Fz.le.refl _,λ_ _ e=>.inl e,Aj,hs.env,hs.emono,Lh.none rfl⟩⟩
 rw[ht.old b (hs.frz.lt hb) Aj];exact hs.frz b o hb
end
end Go.Proofs.YtoegakndmanfoaaGreatDoor.Q
namespace Go.Proofs.YtoegakndmanfoaaGreatDoor
def OP (c:Int):Bool:=Ac (97≤c)&&Ac (c≤122)
def Pw (c:Int):Bool:=Ac (48≤c)&&Ac (c≤57)
def Gi (c:Int):Bool:=OP c||Pw c||(Ac (65≤c)&&Ac (c≤90))||decide (c=45)||decide (c=95)||decide (c=46)||decide (c=58)||decide (c=47)
def Gp (p:List UInt8)(i:Int):Int:=((p[i.toNat]?).getD 0).toNat
def Dw (f:Nat→UInt8→Bool):Nat→List UInt8→Bool
 | _,[]=>Af
 | i,u::r=>f i u&&Dw f (i+1) r
def LW (_:Nat)(u:UInt8):Bool:=Gi u.toNat
def N0 (p:List UInt8):Bool:=Dw LW 0 p&&Ac (1≤Ae p)&&Ac (Ae p≤64)
variable{p:List UInt8}{k:Nat}{u:UInt8}
theorem Oo (h:p[k]? =Ad u):p.drop k=u::p.drop (k+1):=by
 obtain⟨h1,h2⟩:=List.getElem?_eq_some_iff.1 h;rw[List.drop_eq_getElem_cons h1,h2]
variable{f:Nat→UInt8→Bool}
theorem ZZ (hi:k≤Ae p∧Dw f 0 p=Dw f k (p.drop k))(h:p[k]? =Ad u)(ht:f k u=Ah):Dw f 0 p=Ah:=by
 rw[hi.2,Oo h];simp[Dw,ht]
theorem VE (hi:k≤Ae p∧Dw f 0 p=Dw f k (p.drop k))(h:p[k]? =Ad u)(ht:f k u=Af) :
  (k+1≤Ae p∧Dw f 0 p=Dw f (k+1) (p.drop (k+1)))∧Ae p-(k+1)<Ae p-k:=by
 have hk:k<Ae p:=(List.getElem?_eq_some_iff.1 h).1;refine⟨⟨hk,?_⟩,Ab⟩;rw[hi.2,Oo h];simp[Dw,ht]
theorem Yh (hi:k≤Ae p∧Dw f 0 p=Dw f k (p.drop k))(h:Ae p≤k):Dw f 0 p=Af:=by
 rw[hi.2,List.drop_of_length_le h];rfl
theorem SX {c wd:Nat}(hl:u.toNat<128→c=u.toNat∧wd=1)(hh:128≤u.toNat→128≤c):Gi c=LW k u:=by
 rcases Nat.lt_or_ge u.toNat 128 with h | h
 ·rw[(hl h).1];rfl
 ·have h2:=hh h;have e:∀m:Nat,128≤m→Gi m=Ah:=λm hm=>by
   simp[Gi,OP,Pw];omega
  rw[e c h2];exact(e _ h).symm
theorem YE {c wd:Nat}(hi:k≤Ae p∧Dw LW 0 p=Dw LW k (p.drop k))(h:p[k]? =Ad u)(hl:u.toNat<128→c=u.toNat∧wd=1)(hh:128≤u.toNat→128≤c)
  (ht:(!Gi c)=Ah):(k+wd≤Ae p∧Dw LW 0 p=Dw LW (k+wd) (p.drop (k+wd)))∧Ae p-(k+wd)<Ae p-k:=by
 have ht':Gi c=Af:=by simpa using ht
 rcases Nat.lt_or_ge u.toNat 128 with hu | hu
 ·rw[(hl hu).2];rw[SX (k:=k) hl hh] at ht';exact VE hi h ht'
 ·have h2:=hh hu;simp[Gi,OP,Pw] at ht';omega
theorem Ab5 {c wd:Nat}(hi:k≤Ae p∧Dw LW 0 p=Dw LW k (p.drop k))(h:p[k]? =Ad u)(hl:u.toNat<128→c=u.toNat∧wd=1)(hh:128≤u.toNat→128≤c)
  (ht:(!Gi c)=Af):N0 p=Ah:=by
 rw[SX (k:=k) hl hh] at ht;simp[N0,ZZ hi h (by simpa using ht)]
theorem Aa0 (hi:k≤Ae p∧Dw LW 0 p=Dw LW k (p.drop k))(h:Ae p≤k):N0 p=((Ac ((1:Int)≤Ae p))&&(Ac ((Ae p:Int)≤64))):=by
 simp[N0,Yh hi h];grind
open Go
set_option linter.unusedVariables false
abbrev AE:=List UInt8
def ofI (l:List Int):List UInt8:=l.map λx=>Ar x.toNat
def CO (k:IntKind)(x:Int):Bool:=Ac (k.min≤x)&&Ac (x≤k.max)
def Do (i n:Int):Bool:=Ac (0≤i)&&Ac (i<n)
def N9 (i n:Int):Bool:=Ac (0≤i)&&Ac (i≤n)
def I0 (b n:Nat):Bool:=Ac (n*b≤140737488355328)
def imp (a b:Bool):Bool:=!a||b
def Bt {α:Type}(p:Bool)(x:Option α):Option α:=bif p then x else Ai
def BR {α:Type}(p:Bool)(x y:Option α):Option α:=bif p then x else y
def N1 {α β:Type}(a:α)(k:α→Option β):Option β:=k a
def BG {α β:Type}(a:Option α)(k:α→Option β):Option β:=match a with
 | some x=>k x
 | none=>Ai
theorem Pg {x:Int}(h:CO .i64 x=Af) : -9223372036854775808≤x∧x≤9223372036854775807:=by simpa[CO,IntKind.min,IntKind.max,IntKind.signed,IntKind.bits] using h
theorem Nd {x:Int}(h:-9223372036854775808≤x)(h':x≤9223372036854775807):CO .i64 x=Af:=by simpa[CO,IntKind.min,IntKind.max,IntKind.signed,IntKind.bits] using And.intro h h'
theorem DJ {i n:Int}(h:Do i n=Af):0≤i∧i<n:=by simpa[Do] using h
theorem Ab4 {i n:Int}(h:0≤i)(h':i<n):Do i n=Af:=by simp[Do,h,h']
theorem EH {i n:Int}(h:N9 i n=Af):0≤i∧i≤n:=by simpa[N9] using h
def ov {α:Type}[Inhabited α](a:Option α):α:=a.getD default
section
variable {α β : Type} {p q : Bool} {x y : Option α} {r : α} {s : β}
theorem QN (h:Bt p x=Ad r):p=Af∧x=Ad r:=by
 cases p
 ·cases h
 ·exact⟨rfl,h⟩
theorem Ac3 (hp:p=Af)(h:BR p x y=Ad r):x=Ad r:=by subst hp;exact h
theorem Ac4 (hp:p=Ah)(h:BR p x y=Ad r):y=Ad r:=by subst hp;exact h
theorem Ac8 {a:β}{k:β→Option α}(h:N1 a k=Ad r):∃b,b=a∧k b=Ad r:=⟨a,rfl,h⟩
theorem Abr {a:Option β}{k:β→Option α}(h:BG a k=Ad r):∃b,a=Ad b∧k b=Ad r:=by
 cases a with
 | none=>cases h
 | some b=>exact⟨b,rfl,h⟩
theorem E1 [Inhabited β]{a:Option β}(h:a.isSome=Af):a=Ad (ov a):=by
 cases a with
 | none=>cases h
 | some b=>rfl
theorem ZX {a b:α}(h:Ad a=Ad b):a=b:=by cases h;rfl
theorem Dt (h:imp p q=Af)(hp:p=Af):q=Af:=by subst hp;simpa[imp] using h
theorem C2 (h:imp (!p) q=Af)(hp:p=Ah):q=Af:=by subst hp;simpa[imp] using h
theorem Z7 (h:p=Af):Bt p x=x:=by subst h;rfl
theorem Gz (h:p=Af):BR p x y=x:=by subst h;rfl
theorem Dz (h:p=Ah):BR p x y=y:=by subst h;rfl
theorem Zs {a:Option β}{k:β→Option α}{b:β}(h:a=Ad b):BG a k=k b:=by subst h;rfl
theorem D3 {e:Int}(h:-9223372036854775808≤e)(h':e≤9223372036854775807):Bt (CO .i64 e) x=x:=Z7 (Nd h h')
theorem Pz {i n:Int}(h:0≤i)(h':i<n):Bt (Do i n) x=x:=Z7 (Ab4 h h')
end
inductive Out (R V:Type) where
 | ret (r:R)
 | go (v:V)
 deriving DecidableEq
inductive Stp (S O:Type) where
 | next (s:S)
 | out (o:O)
 deriving DecidableEq
def Dc {S O:Type}(body:S→Option (Stp S O)):Nat→S→Option O
 | 0,_=>Ai
 | n+1,s=>match body s with
  | none=>Ai
  | some (.next s')=>Dc body n s'
  | some (.out o)=>Ad o
def Dp {R V:Type}(K:V→Option R):Out R V→Option R
 | .ret r=>Ad r
 | .go v=>K v
def Tp {S O:Type}(body:S→Option (Stp S O))(m:Nat)(o:O):Stp S O→Prop
 | .next s'=>Dc body m s'=Ad o
 | .out o'=>o'=o
section
variable {S R V : Type} {body : S → Option (Stp S (Out R V))} {n m : Nat} {s s' : S} {o : Out R V} {t : Stp S (Out R V)} {K : V → Option R} {r q : R} {v : V}
theorem CF {O:Type}{body:S→Option (Stp S O)}{o:O}(h:Dc body n s=Ad o):∃m,n=m+1∧∃t,body s=Ad t∧Tp body m o t:=by
 cases n with
 | zero=>cases h
 | succ m=>
  refine⟨m,rfl,?_⟩;rw[Dc] at h
  cases hb:body s with
  | none=>rw[hb] at h;cases h
  | some t=>
   rw[hb] at h;refine⟨t,rfl,?_⟩
   cases t with
   | next s'=>exact h
   | out o'=>exact ZX h
theorem BD (h:Ad (Stp.next s')=Ad t)(ht:Tp body m o t):Dc body m s'=Ad o:=by cases h;exact ht
theorem Cw (h:Ad (Stp.out (Out.go v))=Ad t)(ht:Tp body m o t)(hK:Dp K o=Ad r):K v=Ad r:=by
 cases h
 have e:Out.go v=o:=ht;subst e;exact hK
theorem Cc (h:Ad (Stp.out (Out.ret q))=Ad t)(ht:Tp body m o t)(hK:Dp K o=Ad r):Ad q=Ad r:=by
 cases h
 have e:Out.ret q=o:=ht;subst e;exact hK
theorem Zv {b:Bool}(h:b=Af):(!b)=Ah:=by subst h;rfl
end
def A8 {α:Type}[Inhabited α](xs:List α)(i:Int):α:=(xs[i.toNat]?).getD default
theorem Ea {α:Type}{j:Int}{xs ys:List α}{y:α}(h:Do j (Ae xs:Int)=Af)(e:ys=xs.set k y):Do j (Ae ys:Int)=Af:=by rw[e,List.length_set];exact h
abbrev MN (a b:List UInt8):Bool:=Op.bytesLess a b
end Go.Proofs.YtoegakndmanfoaaGreatDoor
namespace Go.Proofs.YtoegakndmanfoaaGreatDoor.Q
open Go Go.RowKit
set_option linter.unusedVariables false
set_option linter.unusedSimpArgs false
set_option linter.unusedSectionVars false
variable{k:IntKind}{p:List UInt8}
section
variable [I : Dfr]
theorem K6:∀{k:IntKind} {x:Int},CO k x=Af→k.wrap x=x
 | .i8,x,h=>IntWalk.i8_in x (by simpa[CO,IntKind.min,IntKind.max,IntKind.signed,IntKind.bits] using h)
 | .i16,x,h=>IntWalk.i16_in x (by simpa[CO,IntKind.min,IntKind.max,IntKind.signed,IntKind.bits] using h)
 | .i32,x,h=>IntWalk.i32_in x (by simpa[CO,IntKind.min,IntKind.max,IntKind.signed,IntKind.bits] using h)
 | .i64,x,h=>IntWalk.i64_in x (by simpa[CO,IntKind.min,IntKind.max,IntKind.signed,IntKind.bits] using h)
 | .u8,x,h=>IntWalk.u8_in x (by simpa[CO,IntKind.min,IntKind.max,IntKind.signed,IntKind.bits] using h)
 | .u16,x,h=>IntWalk.u16_in x (by simpa[CO,IntKind.min,IntKind.max,IntKind.signed,IntKind.bits] using h)
 | .u32,x,h=>IntWalk.u32_in x (by simpa[CO,IntKind.min,IntKind.max,IntKind.signed,IntKind.bits] using h)
 | .u64,x,h=>IntWalk.u64_in x (by simpa[CO,IntKind.min,IntKind.max,IntKind.signed,IntKind.bits] using h)
theorem E0 {P:Program}{Z:Fz}{v:Value}{f:Sem Next}{w:World}(h:f.run P w = .ok (.value v) w):∃u,(rv v).p Z u∧f.run P w = .ok (.value u) w:=⟨v,rfl,h⟩
section
variable {P : Program} {n : Nat} {c : Cx} {l : Fr} {H : List Ent} {d : Option Nat} {x y z3 : Operand} {ty t t' : TypeId} {pos : String} {af : Array Edge} {g : Option (Nat × Bool)} {v u : Value} {r : Rp}
theorem Bl (h:ev l x=Ad r):Cd P n c l H { dst:=d,op:=.move x,type:=ty,pos:=pos,after:=af,guard:=g } r:=λa w Z ha _=>⟨a.eval x,ha.ev h,by simp[execOp]⟩
theorem DF (h:ev l x=Ad r):Cd P n c l H { dst:=d,op:=.assign x,type:=ty,pos:=pos,after:=af,guard:=g } r:=λa w Z ha _=>⟨a.eval x,ha.ev h,by simp[execOp]⟩
theorem Gh {b:Bool}(hc:ev l z3=Ad (rB b))(hb:b=Af)(h:ev l x=Ad r):Cd P n c l H { dst:=d,op:=.pick z3 x y,type:=ty,pos:=pos,after:=af,guard:=g } r:=λa w Z ha _=>⟨a.eval x,ha.ev h,by
 subst hb;simp[execOp,ha.eval hc,asBool]⟩
theorem DD {b:Bool}(hc:ev l z3=Ad (rB b))(hb:b=Ah)(h:ev l y=Ad r):Cd P n c l H { dst:=d,op:=.pick z3 x y,type:=ty,pos:=pos,after:=af,guard:=g } r:=λa w Z ha _=>⟨a.eval y,ha.ev h,by
 subst hb;simp[execOp,ha.eval hc,asBool]⟩
theorem Gt {rs:List Rp}{i:Nat}(h:ev l x=Ad (DT rs))(hi:rs[i]? =Ad r):Cd P n c l H { dst:=d,op:=.extract x i,type:=ty,pos:=pos,after:=af,guard:=g } r:=λa w Z ha _=>by
 obtain⟨us,hu,hus⟩:=ha.ev h;obtain⟨v,hv,hp⟩:=hus.at hi;exact⟨v,hp,by simp[execOp,hu,Instr.extract,hv]⟩
theorem MP {b:Bool}(h:ev l x=Ad (rB b)):Cd P n c l H { dst:=d,op:=.unOp .not t x,type:=ty,pos:=pos,after:=af,guard:=g } (rB (!b)):=λa w Z ha _=>E0<|by
 simp[execOp,ha.eval h,Op.unary]
section
variable {k : IntKind} {p q : Int} (hx : ev l x = Ad (rI k p)) (hy : ev l y = Ad (rI k q))
include hx hy
theorem Qy (hz:CO k (p+q)=Af):Cd P n c l H { dst:=d,op:=.binOp .add t x y t',type:=ty,pos:=pos,after:=af,guard:=g } (rv (.int k (p+q))):=λa w Z ha _=>E0<|by
 simp[execOp,ha.eval hx,ha.eval hy,C1,binOp,Op.intArith,K6 hz]
theorem IF (hz:CO k (p-q)=Af):Cd P n c l H { dst:=d,op:=.binOp .sub t x y t',type:=ty,pos:=pos,after:=af,guard:=g } (rv (.int k (p-q))):=λa w Z ha _=>E0<|by
 simp[execOp,ha.eval hx,ha.eval hy,C1,binOp,Op.intArith,K6 hz]
theorem Abw (hz:CO k (p*q)=Af):Cd P n c l H { dst:=d,op:=.binOp .mul t x y t',type:=ty,pos:=pos,after:=af,guard:=g } (rv (.int k (p*q))):=λa w Z ha _=>E0<|by
 simp[execOp,ha.eval hx,ha.eval hy,C1,binOp,Op.intArith,K6 hz]
theorem R9:Cd P n c l H { dst:=d,op:=.binOp .add t x y t',type:=ty,pos:=pos,after:=af,guard:=g } (rI k (k.wrap (p+q))):=λa w Z ha _=>E0<|by
 simp[execOp,ha.eval hx,ha.eval hy,C1,binOp,Op.intArith]
theorem VQ:Cd P n c l H { dst:=d,op:=.binOp .sub t x y t',type:=ty,pos:=pos,after:=af,guard:=g } (rI k (k.wrap (p-q))):=λa w Z ha _=>E0<|by
 simp[execOp,ha.eval hx,ha.eval hy,C1,binOp,Op.intArith]
theorem Aai:Cd P n c l H { dst:=d,op:=.binOp .mul t x y t',type:=ty,pos:=pos,after:=af,guard:=g } (rI k (k.wrap (p*q))):=λa w Z ha _=>E0<|by
 simp[execOp,ha.eval hx,ha.eval hy,C1,binOp,Op.intArith]
theorem Zu (hq:q≠0)(hz:CO k (p.tdiv q)=Af):Cd P n c l H { dst:=d,op:=.binOp .quo t x y t',type:=ty,pos:=pos,after:=af,guard:=g } (rI k (p.tdiv q)):=λa w Z ha _=>E0<|by
 simp[execOp,ha.eval hx,ha.eval hy,C1,binOp,Op.intDiv,hq,K6 hz]
theorem Ob (hq:q≠0):Cd P n c l H { dst:=d,op:=.binOp .rem t x y t',type:=ty,pos:=pos,after:=af,guard:=g } (rI k (p.tmod q)):=λa w Z ha _=>E0<|by
 simp[execOp,ha.eval hx,ha.eval hy,C1,binOp,Op.intDiv,hq]
theorem VS:Cd P n c l H { dst:=d,op:=.binOp .lss t x y t',type:=ty,pos:=pos,after:=af,guard:=g } (rv (.bool (Ac (p<q)))):=λa w Z ha _=>E0<|by
 simp[execOp,ha.eval hx,ha.eval hy,C1,binOp,Op.intCmp]
theorem Qw:Cd P n c l H { dst:=d,op:=.binOp .leq t x y t',type:=ty,pos:=pos,after:=af,guard:=g } (rv (.bool (Ac (p≤q)))):=λa w Z ha _=>E0<|by
 simp[execOp,ha.eval hx,ha.eval hy,C1,binOp,Op.intCmp]
theorem OX:Cd P n c l H { dst:=d,op:=.binOp .gtr t x y t',type:=ty,pos:=pos,after:=af,guard:=g } (rv (.bool (Ac (q<p)))):=λa w Z ha _=>E0<|by
 simp[execOp,ha.eval hx,ha.eval hy,C1,binOp,Op.intCmp]
theorem R8:Cd P n c l H { dst:=d,op:=.binOp .geq t x y t',type:=ty,pos:=pos,after:=af,guard:=g } (rv (.bool (Ac (q≤p)))):=λa w Z ha _=>E0<|by
 simp[execOp,ha.eval hx,ha.eval hy,C1,binOp,Op.intCmp]
theorem Qx:Cd P n c l H { dst:=d,op:=.binOp .eql t x y t',type:=ty,pos:=pos,after:=af,guard:=g } (rv (.bool (Ac (p=q)))):=λa w Z ha _=>E0<|by
 have e:(p ==q)=Ac (p=q):=by rw[Aff];simp
 simp[execOp,ha.eval hx,ha.eval hy,C1,binOp,Op.intCmp,e]
theorem TN:Cd P n c l H { dst:=d,op:=.binOp .neq t x y t',type:=ty,pos:=pos,after:=af,guard:=g } (rv (.bool (!Ac (p=q)))):=λa w Z ha _=>E0<|by
 have e:(p !=q) = !Ac (p=q):=by rw[Aff];simp
 simp[execOp,ha.eval hx,ha.eval hy,C1,binOp,Op.intCmp,e]
end
section
variable {p q : List UInt8} (hx : ev l x = Ad (rS p)) (hy : ev l y = Ad (rS q))
include hx hy
theorem VR (hz:CO .i64 ((Ae p:Int)+(Ae q:Int))=Af):Cd P n c l H { dst:=d,op:=.binOp .add t x y t',type:=ty,pos:=pos,after:=af,guard:=g } (rv (.string (B (p++q)))):=λa w Z ha _=>E0<|by
 have : ¬ ((((B p).size+(B q).size:Nat):Int) > IntKind.i64.max):=by rw[G3,G3];have:=(Pg hz).2;simp[IntKind.max,IntKind.signed,IntKind.bits];omega
 simp only[execOp,ha.eval hx,ha.eval hy,Sem.run_bind,Gb,binOp,Op.stringOp,this,if_false,QV];simp
theorem Abv:Cd P n c l H { dst:=d,op:=.binOp .leq t x y t',type:=ty,pos:=pos,after:=af,guard:=g } (rv (.bool (Op.bytesLess p q||decide (p=q)))):=λa w Z ha _=>E0<|by
 have e:(p ==q)=Ac (p=q):=by rw[Aff];simp
 simp[execOp,ha.eval hx,ha.eval hy,Gb,binOp,Op.stringOp,HO,e]
theorem Zt:Cd P n c l H { dst:=d,op:=.binOp .eql t x y t',type:=ty,pos:=pos,after:=af,guard:=g } (rv (.bool (Ac (p=q)))):=λa w Z ha _=>E0<|by
 have e:(p ==q)=Ac (p=q):=by rw[Aff];simp
 simp[execOp,ha.eval hx,ha.eval hy,Gb,binOp,Op.stringOp,HO,e]
theorem NZ:Cd P n c l H { dst:=d,op:=.binOp .neq t x y t',type:=ty,pos:=pos,after:=af,guard:=g } (rv (.bool (!Ac (p=q)))):=λa w Z ha _=>E0<|by
 have e:(p ==q)=Ac (p=q):=by rw[Aff];simp
 simp[execOp,ha.eval hx,ha.eval hy,Gb,binOp,Op.stringOp,HO,e]
end
theorem MR {k':IntKind}{m:Int}(hs:∃s,P.underlying t=Ad s)(hd:P.underlying t'=Ad (.int k'))(h:ev l x=Ad (rI k m))(hz:CO k' m=Af) :
  Cd P n c l H { dst:=d,op:=.convert t t' x,type:=ty,pos:=pos,after:=af,guard:=g } (rI k' m):=λa w Z ha _=>E0<|by
 obtain⟨s,hs⟩:=hs;simp[execOp,ha.eval h,convert,run_underlying hs,run_underlying hd,Conv.intToInt,K6 hz]
theorem DE {k':IntKind}{m:Int}(hs:∃s,P.underlying t=Ad s)(hd:P.underlying t'=Ad (.int k'))(h:ev l x=Ad (rI k m)) :
  Cd P n c l H { dst:=d,op:=.convert t t' x,type:=ty,pos:=pos,after:=af,guard:=g } (rI k' (k'.wrap m)):=λa w Z ha _=>E0<|by
 obtain⟨s,hs⟩:=hs;simp[execOp,ha.eval h,convert,run_underlying hs,run_underlying hd,Conv.intToInt]
theorem Mb (ht:P.underlying t=Ad .string)(h:ev l x=Ad (rS p)):Cd P n c l H { dst:=d,op:=.call { callee:=.builtin .len,args:=#[x],argTypes:=#[t] },type:=ty,pos:=pos,after:=af,guard:=g } (rv (.int .i64 (Ae p))):=λa w Z ha _=>E0<|by
 simp[execOp,resolve,invoke,builtin,ha.eval h,Builtin.len_,run_underlying ht,goInt,G3]
theorem Od {i:Int}(ht:P.underlying t=Ad .string)(h:ev l x=Ad (rS p))(hi:ev l y=Ad (rI k i))(hg:Do i (Ae p:Int)=Af) :
  Cd P n c l H { dst:=d,op:=.index t x y,type:=ty,pos:=pos,after:=af,guard:=g } (rI .u8 (Gp p i)):=λa w Z ha _=>E0<|by
 have h0:=(DJ hg).1;have hl:i.toNat<Ae p:=by have:=(DJ hg).2;omega
 have hc:p[i.toNat]? =Ad p[i.toNat]:=Ae3 hl;have e:Gp p i=p[i.toNat].toNat:=by simp[Gp,hc]
 simp[execOp,ha.eval h,ha.eval hi,Instr.index,asIntOf,run_underlying ht,h0,Z9,hc,e]
theorem Ic {i:Int}(ht:P.underlying t=Ad .string)(h:ev l x=Ad (rS p))(hi:ev l y=Ad (rI k i))(hg:N9 i (Ae p:Int)=Af) :
  Cd P n c l H { dst:=d,op:=.slice t x (Ad y) Ai Ai,type:=ty,pos:=pos,after:=af,guard:=g } (rv (.string (B (p.drop i.toNat)))):=λa w Z ha _=>E0<|by
 have h0:=(EH hg).1;have h1:=(EH hg).2;have e:Aq ((B p).size-i.toNat) (Ap i.toNat p)=Ap i.toNat p:=by rw[List.take_of_length_le];simp[G3]
 simp[execOp,ha.eval h,ha.eval hi,Instr.sliceAt,Instr.slice,run_underlying ht,Instr.sliceBounds,CS (m:=(B p).size) _ _ h0 (by rw[G3];exact h1),Oy,e]
theorem Gs {i:Int}(ht:P.underlying t=Ad .string)(h:ev l x=Ad (rS p))(hi:ev l y=Ad (rI k i))(hg:N9 i (Ae p:Int)=Af) :
  Cd P n c l H { dst:=d,op:=.slice t x Ai (Ad y) Ai,type:=ty,pos:=pos,after:=af,guard:=g } (rv (.string (B (p.take i.toNat)))):=λa w Z ha _=>E0<|by
 have h0:=(EH hg).1;have h1:=(EH hg).2;simp[execOp,ha.eval h,ha.eval hi,Instr.sliceAt,Instr.slice,run_underlying ht,Instr.sliceBounds,CS (m:=(B p).size) _ _ h0 (by rw[G3];exact h1),Oy]
theorem SG {sz:Nat}{xs:List (List Rp)}{e:TypeId}(ht:P.underlying t=Ad (.slice e))(h:ev l x=Ad (B3 sz xs)):Cd P n c l H { dst:=d,op:=.call { callee:=.builtin .len,args:=#[x],argTypes:=#[t] },type:=ty,pos:=pos,after:=af,guard:=g } (rI .i64 (Ae xs)):=λa w Z ha _=>by
 obtain⟨A,cap,e1,_⟩:=ha.ev h;exact E0<|by simp[execOp,resolve,invoke,builtin,e1,Builtin.len_,run_underlying ht,goInt]
end
end
end Go.Proofs.YtoegakndmanfoaaGreatDoor.Q
namespace Go.Proofs.YtoegakndmanfoaaGreatDoor
open Go Go.RowKit
set_option linter.unusedVariables false
theorem Z5 (p:List UInt8)(i:Nat)(u:UInt8)(h:p[i]? =Ad u):(B p).get! i=u:=by
 have h':i<Ae p:=(List.getElem?_eq_some_iff.1 h).1;have h2:p[i]=u:=(List.getElem?_eq_some_iff.1 h).2;subst h2;show(B p).data[i]! =_;simp[B,getElem!_pos,h']
theorem Oq (p:List UInt8)(i:Nat)(u:UInt8)(h:p[i]? =Ad u)(hu:u.toNat<128):Utf8.decode (B p) i=(u.toNat,1):=by
 have e:=Z5 p i u h;simp[Utf8.decode,e,hu]
theorem Ot (p:List UInt8)(i:Nat)(u:UInt8)(h:p[i]? =Ad u)(hu:128≤u.toNat):128≤(Utf8.decode (B p) i).1∧1≤(Utf8.decode (B p) i).2:=by
 have e:=Z5 p i u h;simp only[Utf8.decode,Nat.add_zero,e];rw[AeN Ab]
 split
 ·split
  ·exact⟨by assumption,Aj⟩
  ·exact⟨Al,Al⟩
 ·split
  ·split
   ·rename_i h1;simp at h1;exact⟨by have:=h1.1;simp only;omega,Aj⟩
   ·exact⟨Al,Al⟩
  ·split
   ·split
    ·rename_i h1;simp at h1;exact⟨by have:=h1.1;simp only;omega,Aj⟩
    ·exact⟨Al,Al⟩
   ·exact⟨Al,Al⟩
variable{p:List UInt8}{w:World}
section
variable {P : Program} {n : Nat} {w0 : World} {M : List Nat} {ops : Array Oper} {Q : Exit → Act → World → Prop} {rest : List Oper} {l : Fr} {H H' : List Ent} {d : Nat} {x y c : Operand} {ty t t' e : TypeId} {pos : String} {af : Array Edge} {g : Option (Nat × Bool)} {v u : Value}
theorem T6 (hu:P.underlying t=Ad .string)(hx:ev l x=Ad (.string (B p)))(hn:Nat.blt d n=Af)
  (h:∀b,WL P n w0 M ops Q rest ((d,.pointer (Ad ⟨b,0,Ai⟩))::l) (.blk b (.stringIter (B p) 0)::H)) :
  WL P n w0 M ops Q ({ dst:=Ad d,op:=.range t x,type:=ty,pos:=pos,after:=af,guard:=Ai }::rest) l H:=
 K7 (λa w ha hw=>⟨_,w.alloc (.stringIter (B p) 0),_,by simp[execOp,ha.eval hx,Instr.range,run_underlying hu],hw.alloc _,h w.heap.size⟩) hn
theorem St.setObj (h:St w0 M H w){i b:Nat}{o o':Obj}(hi:H[i]? =Ad (.blk b o)):St w0 M (H.set i (.blk b o')) { w with heap:=w.heap.setIfInBounds b o' }:=by
 have hb:w.heap[b]? =Ad o:=h.ent hi;have hlt:b<w.heap.size:=(Array.getElem?_eq_some_iff.1 hb).1;refine h.set hi rfl rfl rfl Aj (λk _ hk=>?_) ?_ (by simp[Ent.foot])
 ·simp only[Ent.foot,AeY] at hk;simp only[Array.getElem?_setIfInBounds];rw[AeN (λe=>hk e.symm)]
 ·show(w.heap.setIfInBounds b o')[b]? =Ad o';simp[hlt]
theorem Vm {i b k:Nat}(hx:ev l x=Ad (.pointer (Ad ⟨b,0,Ai⟩)))(hi:H[i]? =Ad (.blk b (.stringIter (B p) k)))(hn:Nat.blt d n=Af)
  (hend:Ae p≤k→WL P n w0 M ops Q rest ((d,.tuple #[.bool Ah])::l) H)
  (hgo:∀(u:UInt8) (c wd:Nat),p[k]? =Ad u→(u.toNat<128→c=u.toNat∧wd=1)→(128≤u.toNat→128≤c)→1≤wd→
   WL P n w0 M ops Q rest ((d,.tuple #[.bool Af,.int .i64 k,.int .i32 c])::l) (H.set i (.blk b (.stringIter (B p) (k+wd))))) :
  WL P n w0 M ops Q ({ dst:=Ad d,op:=.next x Af,type:=ty,pos:=pos,after:=af,guard:=Ai }::rest) l H:=
 K7 (λa w ha hw=>by
  have hb:w.heap[b]? =Ad (.stringIter (B p) k):=hw.ent hi
  by_cases hlt:k<Ae p
  ·have hu:p[k]? =Ad p[k]:=Ae3 hlt;have hs:k<(B p).size:=by rw[G3];exact hlt
   refine⟨_,{ w with heap:=w.heap.setIfInBounds b (.stringIter (B p) (k+(Utf8.decode (B p) k).2)) },_,?_,hw.setObj hi,hgo p[k] (Utf8.decode (B p) k).1 (Utf8.decode (B p) k).2 hu ?_ ?_ ?_⟩
   ·simp[execOp,ha.eval hx,Instr.next,getObj,setObj,Sem.run,hb,hs,goInt]
   ·intro h;rw[Oq p k _ hu h];exact⟨rfl,rfl⟩
   ·intro h;exact(Ot p k _ hu h).1
   ·rcases Nat.lt_or_ge (p[k]).toNat 128 with h | h
    ·rw[Oq p k _ hu h];exact AeG 1
    ·exact(Ot p k _ hu h).2
  ·have hs : ¬ k<(B p).size:=by rw[G3];exact hlt
   exact⟨_,w,H,by simp[execOp,ha.eval hx,Instr.next,getObj,Sem.run,hb,hs],hw,hend Ab⟩) hn
end
section
variable {P : Program} {n : Nat} {w0 : World} {M : List Nat} {ops : Array Oper} {Q : Exit → Act → World → Prop} {rest : List Oper} {l : Fr} {H H' : List Ent} {x y c : Operand} {ty t t' e : TypeId} {pos : String} {af : Array Edge} {g : Option (Nat × Bool)} {v u : Value}
theorem Od {d:Option Nat}{k:IntKind}{i:Int}(ht:P.underlying t=Ad .string)(h:ev l x=Ad (.string (B p)))(hi:ev l y=Ad (.int k i))(h0:0≤i)(h1:i<Ae p) :
  Cd P n w0 M l H { dst:=d,op:=.index t x y,type:=ty,pos:=pos,after:=af,guard:=g } (.int .u8 (Gp p i)):=by
 have hl:i.toNat<Ae p:=Ab
 have hc:p[i.toNat]? =Ad p[i.toNat]:=Ae3 hl;have e:Gp p i=p[i.toNat].toNat:=by simp[Gp,hc]
 rw[e];exact TP ht h hi h0 hc
theorem Aby {d:Option Nat}{f:FuncId}{args:List Operand}{ats:Array TypeId}{vs:List Value}(hv:Jy l args=Ad vs)(hcall:∀w,(callFunc f vs.toArray).run P w = .ok (.value v) w) :
  Cd P n w0 M l H { dst:=d,op:=.call { callee:=.value (.func f),args:=args.toArray,argTypes:=ats },type:=ty,pos:=pos,after:=af,guard:=g } v:=λa w ha hw=>by
 have e:(args.toArray.map a.eval)=vs.toArray:=by simp[Pt ha hv]
 simp only[execOp,resolve,Sem.run_bind,Sem.run_pure,Result.andThen_ok,e,Act.eval,Deferred.ofValue,invoke];simpa using hcall w
theorem N8 {f : FuncId} {fn : Func} (hf : P.funcs[f]? = Ad fn) (hname : (fn.name == "runtime.NumGoroutine") = Ah) (hb : fn.body.isNone = Af) (hn : Extern.findNext fn = Ai) (he : Extern.find fn = Ad Extern.BytealgIndexByte.indexByte)
  (p:List UInt8) (m:Int) (w:World):(callFunc f [.string (B p),.int .u8 m].toArray).run P w = .ok (.value (.int .i64 (Lib.indexByte p m.toNat.toUInt8))) w:=by
 rw[run_callFunc_extern hf hname hb hn he,Lib.run_indexByteString];rfl
variable (P n w0 M) in
def WQ (opsA:Array Oper)(K:Act→World→Prop)(rest:List Oper)(l:Fr)(H:List Ent):Prop:=∀a,DU n l a→wpQuiet P opsA (St w0 M H) (λa'=>∀w',St w0 M H w'→K a' w') rest a
variable {K : Act → World → Prop}
end
def SlR (sz:Nat)(w:World)(v:Value)(vs:List (List Value)):Prop:=
 ∃A cap,v = .slice A (Ae vs) cap∧Ae vs≤cap∧(cap≤maxLen∧(A=Ai→cap=0))∧∀i c,vs[i]? =Ad c→Ae c=sz∧∃a:Addr,A=Ad a∧a.spot=Ai∧a.block<w.heap.size∧∀j u,c[j]? =Ad u→w.cell? ⟨a.block,a.off+(i*sz+j),Ai⟩=Ad u
def Off (M:List Nat)(v:Value):Prop:=∀a n c,v = .slice (Ad a) n c→a.block ∉ M
theorem Off.nil (v:Value):Off [] v:=λ_ _ _ _=>by simp
theorem SlR.nil (sz:Nat)(w:World):SlR sz w (.slice Ai 0 0) []:=⟨Ai,0,rfl,AeG _,⟨by simp[maxLen],λ_=>rfl⟩,λi c h=>by simp at h⟩
def EL (sz:Nat)(v:Value)(i off:Nat):Value:=match v with
 | .slice (Ad a) _ _=>.pointer (Ad ⟨a.block,a.off+(i*sz+off),Ai⟩)
 | _=>undef
section
variable {P : Program} {n : Nat} {w0 : World} {M : List Nat} {ops : Array Oper} {Q : Exit → Act → World → Prop} {rest : List Oper} {l : Fr} {H H' : List Ent} {d : Option Nat} {x y c : Operand} {ty t t' e : TypeId} {pos : String} {af : Array Edge} {g : Option (Nat × Bool)} {v u : Value} {sz : Nat} {vs : List (List Value)}
theorem Ez {d len:Nat}{parts:Array (Nat×Operand)}{cs:List Value}(ht:P.underlying t=Ad (.slice e))(hz:∀w,(sizeOf e).run P w = .ok sz w)
  (hrun:∀a w,DU n l a→(Instr.buildSlice t len (parts.map λ(i,x)=>(i,a.eval x))).run P w = .ok (.slice (Ad ⟨w.heap.size,0,Ai⟩) len len) (w.alloc (.cells cs.toArray e))) (hl:Ae cs=len*sz) (hm:len≤maxLen) (hn:Nat.blt d n=Af)
  (h:∀b,WL P n w0 M ops Q rest ((d,.slice (Ad ⟨b,0,Ai⟩) len len)::l) (.row (.slice (Ad ⟨b,0,Ai⟩) len len) e sz len cs::H)) :
  WL P n w0 M ops Q ({ dst:=Ad d,op:=.buildSlice t len parts,type:=ty,pos:=pos,after:=af,guard:=Ai }::rest) l H:=
 K7 (λa w ha hw=>by
  have hw2:=hw.alloc (.cells cs.toArray e);refine⟨_,w.alloc (.cells cs.toArray e),.row (.slice (Ad ⟨w.heap.size,0,Ai⟩) len len) e sz len cs::H,by simp[execOp,hrun a w ha],?_,h w.heap.size⟩;refine⟨hw2.os,hw2.tape,hw2.output,hw2.size,hw2.old,?_,?_,?_⟩
  ·intro en he;rcases List.mem_cons.1 he with rfl | he
   ·refine⟨hl,.inr ⟨w.heap.size,len,cs.toArray,rfl,AeR _,heap_alloc_new w _,AeG _,hm,by simpa using hl,?_⟩⟩;rw[← hl];simp
   ·exact hw2.has en (by simp[he])
  ·intro en he k hk;rcases List.mem_cons.1 he with rfl | he
   ·exact hw2.own (.blk w.heap.size (.cells cs.toArray e)) Aj k (by simpa[Ent.foot,Value.ownBlock] using hk)
   ·exact hw2.own en (by simp[he]) k hk
  ·have hd:=List.pairwise_cons.1 hw2.dis;refine List.pairwise_cons.2 ⟨λen he k hk=>hd.1 en he k (by simpa[Ent.foot,Value.ownBlock] using hk),hd.2⟩) hn
end
set_option linter.unusedSimpArgs false
section
variable {P : Program} {n : Nat} {w0 : World} {M : List Nat} {ops : Array Oper} {Q : Exit → Act → World → Prop} {rest : List Oper} {l : Fr} {H H' : List Ent} {x y : Operand} {ty t t' e : TypeId} {pos : String} {af : Array Edge} {g : Option (Nat × Bool)} {v u : Value} {i sz m : Nat} {xs : List Value}
theorem NW (h:(Ent.row v e sz m xs).holds w):Ae xs=m*sz∧((v = .slice Ai 0 0∧m=0)∨∃b cap cur,v = .slice (Ad ⟨b,0,Ai⟩) m cap∧w.heap[b]? =Ad (.cells cur e (0,0))∧m≤cap∧cap≤maxLen∧cur.size=cap*sz∧cur.toList.take (m*sz)=xs):=by
 obtain⟨h1,h2⟩:=h;refine⟨h1,?_⟩;rcases h2 with h2 | ⟨b,cap,cur,e1,_,e2,e3,e4,e5,e6⟩
 ·exact .inl h2
 ·exact .inr ⟨b,cap,cur,e1,e2,e3,e4,e5,e6⟩
theorem VD {b c j:Nat}(h:(Ent.row (.slice (Ad ⟨b,0,Ai⟩) m c) e sz m xs).holds w)(hj:xs[j]? =Ad u):w.cell? ⟨b,j,Ai⟩=Ad u:=by
 obtain⟨h1,h2⟩:=NW h;rcases h2 with⟨h2,_⟩ | ⟨b',cap,cur,e1,e2,_,_,_,e6⟩
 ·cases h2
 ·simp only[Value.slice.injEq,Option.some.injEq,Addr.mk.injEq,and_true,true_and] at e1;obtain⟨rfl,rfl⟩:=e1;rw[cell_of_row w b j cur e (0,0) e2];rw[← e6,AeF] at hj
  split at hj
  ·simpa using hj
  ·cases hj
def Rds (sz:Nat)(w:World)(v:Value)(m:Nat)(ys:List Value):Prop:=
 (Ae ys)=m*sz∧((v = .slice Ai 0 0∧m=0)∨∃ (a:Addr) (c:Nat),v = .slice (Ad a) m c∧∀j u,ys[j]? =Ad u→w.cell? (a.add j)=Ad u)
theorem Rds.of_row (h:(Ent.row v e sz m xs).holds w):Rds sz w v m xs:=by
 obtain⟨h1,h2⟩:=NW h;refine⟨h1,?_⟩;rcases h2 with⟨rfl,rfl⟩ | ⟨b,cap,cur,rfl,_⟩
 ·exact .inl ⟨rfl,rfl⟩
 ·refine .inr ⟨_,_,rfl,λj u hj=>?_⟩;rw[Iz,AeK];exact VD h hj
theorem EP {z:Value}{inf:TypeInfo}{bytes:Nat}{ys:List Value}{k:Nat}(ty:TypeId)(ht:P.underlying t=Ad (.slice e))(hinf:P.info? e=Ad inf)(hz:inf.zero=Ad z)(hsize:inf.size=sz)(hby:inf.bytes=bytes)(hzs:z.cells.size=sz)(hsz:0<sz)
  (hown:w.ownsRow 0 e sz v m xs) (hr:Rds sz w u k ys) (h1:∀y∈ys,y.oneCell'=Af) (hb:(m+k)*bytes≤140737488355328) (hc:m+k≤maxLen) :
  ∃v' w',(Builtin.append_ #[t,t] ty #[v,u]).run P w = .ok v' w'∧w'.ownsRow 0 e sz v' (m+k) (xs++ys)∧w.grownBy w' v.ownBlock∧(v'.ownBlock=v.ownBlock∨∀b,v'.ownBlock=Ad b→w.heap.size≤b):=by
 obtain⟨hl,hr⟩:=hr;rcases hr with⟨rfl,rfl⟩ | ⟨a,c,rfl,hnews⟩
 ·have:ys=[]:=AeT (by simpa using hl);subst this;exact⟨v,w,run_append_owned_none (w:=w) (base:=0) t ty e inf sz ht hinf v m xs hown,by simpa using hown,⟨rfl,rfl,rfl,AeG _,λ_ _ _=>rfl⟩,.inl rfl⟩
 ·rcases hown.2 with⟨rfl,rfl⟩ | ⟨b,cap,cur,rfl,_,hg,hnc,hcm,hcs,htake⟩
  ·have hx:xs=[]:=AeT (by simpa using hown.1);subst hx;obtain⟨v',w',e1,e2,e3,_⟩:=run_append_own (P:=P) w w.heap.size t ty e inf z sz bytes ht hinf hz hsize hby hzs hsz (.slice Ai 0 0) 0 [] (World.ownsRow_nil w _ e sz) a k c ys hl hnews h1 hc hb (AeG _);refine⟨v',w',e1,?_,e3,.inr λb hb=>(e2.lt b hb).1⟩;refine⟨e2.1,?_⟩;rcases e2.2 with h | ⟨g,cap,cur,h,_,rest⟩
   ·exact .inl h
   ·exact .inr ⟨g,cap,cur,h,AeR _,rest⟩
  ·by_cases hroom:m+k≤cap
   ·obtain⟨w',e1,e2,e3⟩:=run_append_fits (P:=P) w 0 t ty e inf sz ht hinf hsize b m cap xs hown a k c ys hl hnews h1 hroom;exact⟨_,w',e1,e2,e3,.inl rfl⟩
   ·subst hsize hby;have holds:∀j u,xs[j]? =Ad u→w.cell? ((⟨b,0,Ai⟩:Addr).add j)=Ad u:=hown.cells (g:=b) rfl;have hs:m+k≤9223372036854775807:=by simp only[maxLen] at hc;omega
    have e1:=run_append_grow (P:=P) w t ty e inf z ht hinf hz ⟨b,0,Ai⟩ m cap xs hown.1 holds a k c ys hl hnews Ab Ab (growslice_fits Ab hb);have hge:=grownCap_ge w (m+k) cap e;have hcm:=grownCap_le_maxLen w (m+k) cap e hc;have hlen:Ae (xs++ys)=(m+k)*inf.size:=by rw[List.length_append,hown.1,hl,Nat.add_mul]
    refine⟨_,_,e1,⟨hlen,.inr ⟨w.heap.size,_,_,rfl,AeR _,heap_alloc_new w.drew _,hge,hcm,?_,?_⟩⟩,⟨rfl,rfl,rfl,Aj,λq hq _=>Below.heap_alloc w.drew _ q hq⟩,.inr λb hb=>?_⟩
    ·simp only[Array.size_append,List.size_toArray,size_zeroCells,hzs,hown.1,hl,← Nat.add_mul]
     congr 1
     omega
    ·simp only[Array.toList_append,AeQ];rw[← AeQ,← hlen];exact List.take_left
    ·simp[Value.ownBlock] at hb;omega
theorem Qf {d:Nat}{z:Value}{inf:TypeInfo}{bytes:Nat}{ys:List Value}{k:Nat}(ht:P.underlying t=Ad (.slice e))(hinf:P.info? e=Ad inf)(hz:inf.zero=Ad z)(hsize:inf.size=sz)(hby:inf.bytes=bytes)(hzs:z.cells.size=sz)(hsz:0<sz)
  (hx:ev l x=Ad v) (hy:ev l y=Ad u) (hi:H[i]? =Ad (.row v e sz m xs)) (hr:∀w,St w0 M H w→Rds sz w u k ys) (h1:ys.all (·.oneCell')=Af) (hb:(m+k)*bytes≤140737488355328) (hc:m+k≤maxLen) (hn:Nat.blt d n=Af)
  (h:∀v',WL P n w0 M ops Q rest ((d,v')::l) (.row v' e sz (m+k) (xs++ys)::H.eraseIdx i)) :
  WL P n w0 M ops Q ({ dst:=Ad d,op:=.call { callee:=.builtin .append,args:=#[x,y],argTypes:=#[t,t] },type:=ty,pos:=pos,after:=af,guard:=Ai }::rest) l H:=λa w ha hw=>by
 have hent:=hw.ent hi;have hbase:(0:Nat)≤w.heap.size:=AeR _;have hin:St w0 M ([.row v e sz m xs]++H.eraseIdx i) w:=hw.front hi;have fin:∀v' w',w'.ownsRow 0 e sz v' (m+k) (xs++ys)→(v'.ownBlock=v.ownBlock∨∀b,v'.ownBlock=Ad b→w.heap.size≤b)→w.grownBy w' v.ownBlock→wpList P ops Q rest (a.put (Ad d) v') w':=λv' w' ho hbk hg=>by
  refine h v' _ w' (ha.put hn v') ?_;refine St.call (Hin:=[.row v e sz m xs]) (Hout:=[.row v' e sz (m+k) (xs++ys)]) (M2:=(Ent.row v e sz m xs).foot) hin ⟨hg.os,hg.tape,hg.output,hg.size,λq hq hne=>hg.block q hq (λe1=>hne ?_),?_,?_,Aj⟩ (λq hq=>⟨_,Aj,hq⟩)
  ·simp[Ent.foot,← e1]
  ·intro en he;simp only[AeY] at he;subst he;exact ho
  ·intro en he q hq;simp only[AeY] at he;subst he;simp only[Ent.foot,Option.mem_toList] at hq ⊢;rcases hbk with hbk | hbk
   ·exact .inr (hbk▸hq)
   ·exact .inl (hbk q hq)
 obtain⟨v',w',e1,e2,e3,e4⟩:=EP (P:=P) ty ht hinf hz hsize hby hzs hsz hent (hr w hw) (λy hy=>List.all_eq_true.1 h1 y hy) hb hc;refine wpList_plain rfl λK hK=>?_;unfold Oper.wp;simp[execOp,resolve,invoke,builtin,ha.eval hx,ha.eval hy,e1,Result.andThen];exact hK _ _ (fin v' w' e2 e4 e3)
end
end Go.Proofs.YtoegakndmanfoaaGreatDoor
namespace Go.Proofs.YtoegakndmanfoaaGreatDoor.Q
open Go Go.RowKit
set_option linter.unusedVariables false
set_option linter.unusedSimpArgs false
set_option linter.unusedSectionVars false
variable{α:Type}{e':TypeId}{cs':List Rp}{off:Nat}{fs:Array Field}{k:IntKind}{ys:List α}{r:Rp}{i:Nat}{enc:α→List Rp}{rs:List Rp}{H:List Ent}{xs:List (List Rp)}{j:Nat}
section
variable [I : Dfr]
def AtZ (cs:List Rp)(Z:Fz)(v:Value):Prop:=∃b o,v = .pointer (Ad ⟨b,o,Ai⟩)∧∀j r,cs[j]? =Ad r→∃u,GG Z b (o+j)=Ad u∧r.p Z u
def MO (cs:List Rp):Rp:=⟨AtZ cs,λh ⟨b,o,e,hc⟩=>⟨b,o,e,λj r hj=>let ⟨u,hu,hr⟩:=hc j r hj;⟨u,Mm h hu,r.mono h hr⟩⟩,Af,λ_ Z v ⟨b,o,e,_⟩=>by rw[e];rfl⟩
def IY (H:List Ent)(r:Rp):Prop:=∀(c:Cx) Z w v,St c H Z w→r.p Z v→v.oneCell'=Af
theorem BV (h:r.one=Af):IY H r:=λ_ Z _ v _ hp=>r.hone h Z v hp
theorem CI {v:Value}{e:TypeId}{sz:Nat}(hi:H[i]? =Ad (.row v e sz xs)):IY H (rv v):=λc Z w u hw hp=>by
 obtain⟨_,us,⟨_,h2⟩,_⟩:=hw.ent hi;rw[show u=v from hp];rcases h2 with⟨rfl,_⟩ | ⟨b,cap,cur,rfl,_⟩<;>rfl
def Bh (H:List Ent):List Rp→Prop
 | []=>True
 | r::rs=>IY H r∧Bh H rs
theorem Bh.c {H:List Ent}:∀{rs:List Rp},rs.all (·.one)=Af→Bh H rs
 | [],_=>trivial
 | r::rs,h=>by simp only[List.all_cons,Ae9] at h;exact⟨BV h.1,Bh.c h.2⟩
theorem Bh.at {H:List Ent}{c:Cx}{Z:Fz}{w:World}(hw:St c H Z w):∀{rs:List Rp} {vs:List Value},Bh H rs→BH Z rs vs→∀v∈vs,v.oneCell'=Af
 | [],[],_,_,_,h=>by simp at h
 | r::rs,v::vs,⟨h1,h2⟩,⟨h3,h4⟩,u,h=>by
  rcases List.mem_cons.1 h with rfl | h
  ·exact h1 c Z w _ hw h3
  ·exact h2.at hw h4 u h
section
variable {P : Program} {n : Nat} {c : Cx} {ops : Array Oper} {Q : Exit → Act → World → Prop} {rest : List Oper} {l : Fr} {H H' : List Ent} {d : Nat} {d' : Option Nat} {x y : Operand} {ty t t' e : TypeId} {pos : String} {af : Array Edge} {g : Option (Nat × Bool)} {v u : Value} {r : Rp} {sz : Nat}
theorem BH.rvs (Z:Fz):∀us:List Value,BH Z (us.map rv) us
 | []=>trivial
 | u::us=>⟨rfl,BH.rvs Z us⟩
theorem Bz {z:Value}{cs:List Rp}(hz:∀w,(zeroValue e).run P w = .ok z w)(hcs:z.cells.toList.map rv=cs)(hn:Nat.blt d n=Af)
  (h:∀b,WL P n c ops Q rest ((d,rv (.pointer (Ad ⟨b,0,Ai⟩)))::l) (.blk b cs e::H)) :
  WL P n c ops Q ({ dst:=Ad d,op:=.alloc e,type:=ty,pos:=pos,after:=af,guard:=Ai }::rest) l H:=
 K7 (λa w Z ha hw=>⟨_,w.alloc (.cells z.cells e),_,_,Z,by simp[execOp,Instr.alloc,hz,newVar,newRow,newObj,Sem.run,Sem.run_bind],Fz.le.refl _,rfl,
  hw.alloc _ (e:=.blk w.heap.size cs e) ⟨z.cells.toList,by simpa using heap_alloc_new w _,by subst hcs;exact BH.rvs Z _⟩ rfl,h w.heap.size⟩) hn
theorem Bf {cs:List Rp}(hx:ev l x=Ad (BL cs))(hn:Nat.blt d n=Af)
  (h:∀b,WL P n c ops Q rest ((d,rv (.pointer (Ad ⟨b,0,Ai⟩)))::l) (.blk b cs e::H)) :
  WL P n c ops Q ({ dst:=Ad d,op:=.box e x,type:=ty,pos:=pos,after:=af,guard:=Ai }::rest) l H:=
 K7 (λa w Z ha hw=>by
  obtain⟨us,e1,hu⟩:=ha.ev hx;exact⟨_,w.alloc (.cells us.toArray e),_,_,Z,by simp[execOp,e1,Instr.box,newVar,newRow,newObj,Sem.run,Value.cells],Fz.le.refl _,rfl,
   hw.alloc _ (e:=.blk w.heap.size cs e) ⟨us,by simpa using heap_alloc_new w _,hu⟩ rfl,h w.heap.size⟩) hn
theorem De {v:Value}(h:v.oneCell'=Af):v.cells = #[v]:=by cases v<;>first | rfl | simp[Value.oneCell'] at h
theorem MB {r:Rp}(hx:ev l x=Ad r)(ho:IY H r)(hn:Nat.blt d n=Af)
  (h:∀b,WL P n c ops Q rest ((d,rv (.pointer (Ad ⟨b,0,Ai⟩)))::l) (.blk b [r] e::H)) :
  WL P n c ops Q ({ dst:=Ad d,op:=.box e x,type:=ty,pos:=pos,after:=af,guard:=Ai }::rest) l H:=
 K7 (λa w Z ha hw=>by
  have hr:=ha.ev hx;have hc:=De (ho c Z w _ hw hr);exact⟨_,w.alloc (.cells #[a.eval x] e),_,_,Z,by simp[execOp,Instr.box,newVar,newRow,newObj,Sem.run,hc],Fz.le.refl _,rfl,
   hw.alloc _ (e:=.blk w.heap.size [r] e) ⟨[a.eval x],by simpa using heap_alloc_new w _,hr,trivial⟩ rfl,h w.heap.size⟩) hn
theorem BB {b:Nat}{cs:List Rp}(hag:∀w,(isAgg t).run P w = .ok Ah w)(hx:ev l x=Ad (rv (.pointer (Ad ⟨b,off,Ai⟩))))(hi:H[i]? =Ad (.blk b cs e))(hc:cs[off]? =Ad r) :
  Cd P n c l H { dst:=d',op:=.load t x,type:=ty,pos:=pos,after:=af,guard:=g } r:=λa w Z ha hw=>by
 obtain⟨us,h1,h2⟩:=hw.ent hi;obtain⟨u,hu,hp⟩:=h2.at hc;have hcell:w.cell? ⟨b,off,Ai⟩=Ad u:=by rw[cell_of_row w b off _ e (0,0) h1];simpa using hu
 exact⟨u,hp,by simp[execOp,ha.eval hx,Instr.loadAt,Instr.sureAddr,loadVar,hag,hcell]⟩
theorem Cy {b:Nat}{cs r:List Rp}(hag:∀w,(isAgg t).run P w = .ok Af w)(hsz:∀w,(sizeOf t).run P w = .ok sz w)
  (hx:ev l x=Ad (rv (.pointer (Ad ⟨b,off,Ai⟩)))) (hi:H[i]? =Ad (.blk b cs e)) (hr:(cs.drop off).take sz=r) (hl:Ae r=sz) :
  Cd P n c l H { dst:=d',op:=.load t x,type:=ty,pos:=pos,after:=af,guard:=g } (BL r):=λa w Z ha hw=>by
 obtain⟨us,h1,h2⟩:=hw.ent hi;have h3:=(h2.drop off).take sz;rw[hr] at h3;have hlen:=h3.length;have h4:=run_loadCells_list (P:=P) w ⟨b,off,Ai⟩ ((us.drop off).take sz) (λj u hj=>by
  rw[Iz,cell_of_row w b _ _ e (0,0) h1];rw[AeF] at hj
  split at hj
  ·simpa using hj
  ·cases hj)
 rw[hlen,hl] at h4;exact⟨.agg ((us.drop off).take sz).toArray,⟨_,rfl,h3⟩,by simp[execOp,ha.eval hx,Instr.loadAt,Instr.sureAddr,loadVar,hag,hsz,h4]⟩
theorem Dj {cs:List Rp}(hag:∀w,(isAgg t).run P w = .ok Ah w)(hx:ev l x=Ad (MO cs))(hc:cs[0]? =Ad r) :
  Cd P n c l H { dst:=d',op:=.load t x,type:=ty,pos:=pos,after:=af,guard:=g } r:=λa w Z ha hw=>by
 obtain⟨b,o,e1,hcs⟩:=ha.ev hx;obtain⟨u,hu,hp⟩:=hcs 0 r hc;have hcell:=JF hw.frz hu;rw[Nat.add_zero] at hcell;exact⟨u,hp,by simp[execOp,e1,Instr.loadAt,Instr.sureAddr,loadVar,hag,hcell]⟩
theorem LF {Z:Fz}:∀{cs:List Rp} {f:Nat→Option Value},(∀j r,cs[j]? =Ad r→∃u,f j=Ad u∧r.p Z u)→∃us:List Value,BH Z cs us∧∀(j:Nat) u,us[j]? =Ad u→f j=Ad u
 | [],f,_=>⟨[],trivial,Aj⟩
 | r::rs,f,h=>by
  obtain⟨u,hu,hp⟩:=h 0 r rfl;obtain⟨us,h1,h2⟩:=LF (cs:=rs) (f:=λj=>f (j+1)) (λj r' hj=>h (j+1) r' (by simpa using hj));refine⟨u::us,⟨hp,h1⟩,λj u' hj=>?_⟩
  cases j with
  | zero=>simp at hj;subst hj;exact hu
  | succ j=>exact h2 j u' (by simpa using hj)
theorem Jo {cs r:List Rp}(hag:∀w,(isAgg t).run P w = .ok Af w)(hsz:∀w,(sizeOf t).run P w = .ok sz w)(hx:ev l x=Ad (MO cs))(hr:cs.take sz=r)(hl:Ae r=sz) :
  Cd P n c l H { dst:=d',op:=.load t x,type:=ty,pos:=pos,after:=af,guard:=g } (BL r):=λa w Z ha hw=>by
 obtain⟨b,o,e1,hcs⟩:=ha.ev hx;obtain⟨us,h1,h2⟩:=LF (cs:=r) (f:=λj=>GG Z b (o+j)) (λj q hj=>hcs j q (by
  subst hr;rw[AeF] at hj
  split at hj
  ·exact hj
  ·cases hj))
 have h4:=run_loadCells_list (P:=P) w ⟨b,o,Ai⟩ us (λj u hj=>by rw[Iz];exact JF hw.frz (h2 j u hj));rw[h1.length,hl] at h4;exact⟨.agg us.toArray,⟨_,rfl,h1⟩,by simp[execOp,e1,Instr.loadAt,Instr.sureAddr,loadVar,hag,hsz,h4]⟩
theorem XU {b:Nat}{cs:List Rp}(hag:∀w,(sizeOf t).run P w = .ok 1 w)(hx:ev l x=Ad (rv (.pointer (Ad ⟨b,off,Ai⟩))))(hy:ev l y=Ad r)(hv:IY H r)
  (hi:H[i]? =Ad (.blk b cs e)) (hlt:Nat.blt off (Ae cs)=Af) {cs':List Rp} (hcs:cs.set off r=cs') (hH:H.set i (.blk b cs' e)=H')
  (h:WL P n c ops Q rest l H'):WL P n c ops Q ({ dst:=Ai,op:=.store t x y,type:=ty,pos:=pos,after:=af,guard:=Ai }::rest) l H:=
 Vj λa w Z ha hw=>by
  obtain⟨us,hb,h2⟩:=hw.ent hi;have hr:=ha.ev hy;have hone:=hv c Z w _ hw hr;have hlen:=h2.length;have hlt':off<Ae us:=by rw[hlen];simpa using hlt
  have h1:=run_storeCells_at P b off e [a.eval y] 0 us.toArray w hb Am (by simpa using hone);have hcv:=De hone;have h3:us.take off++[a.eval y]++us.drop (off+1)=us.set off (a.eval y):=by
   simp[List.set_eq_take_append_cons_drop,hlt']
  simp only[Nat.add_zero,AeL,List.length_nil,AeK] at h1;rw[h3] at h1;refine⟨w.setRow b (us.set off (a.eval y)).toArray,H',?_,?_,h⟩
  ·simp[execOp,ha.eval hx,Instr.storeAt,Instr.sureAddr,storeVar,hag,hcv,h1]
  ·subst hH;subst hcs;refine hw.set hi rfl rfl rfl (by simp[World.setRow]) (λk _ hk=>?_) ⟨us.set off (a.eval y),setRow_heap w b _ _ e (0,0) hb,h2.set off hr⟩ (by simp[Ent.foot]);simp only[Ent.foot,AeY] at hk;simp only[World.setRow,Array.getElem?_modify];rw[AeN (λe=>hk e.symm)]
theorem Qi {b:Nat}{cs:List Rp}(hsz:∀w,(sizeOf t).run P w = .ok sz w)(hx:ev l x=Ad (rv (.pointer (Ad ⟨b,off,Ai⟩))))(hy:ev l y=Ad (BL rs))
  (hl:Ae rs=sz) (hv:Bh H rs) (hi:H[i]? =Ad (.blk b cs e)) (hlt:Nat.ble (off+sz) (Ae cs)=Af) {cs':List Rp}
  (hcs:cs.take off++rs++cs.drop (off+sz)=cs') (hH:H.set i (.blk b cs' e)=H')
  (h:WL P n c ops Q rest l H'):WL P n c ops Q ({ dst:=Ai,op:=.store t x y,type:=ty,pos:=pos,after:=af,guard:=Ai }::rest) l H:=
 Vj λa w Z ha hw=>by
  obtain⟨us,hb,h2⟩:=hw.ent hi;obtain⟨vs,e1,h4⟩:=ha.ev hy;have hlen:=h2.length;have hvl:=h4.length;have hlt':off+sz≤Ae us:=by rw[hlen];simpa using hlt
  have h1:=run_storeCells_at P b off e vs 0 us.toArray w hb Am (λv hv'=>hv.at hw h4 v hv');simp only[Nat.add_zero] at h1;refine⟨w.setRow b (us.take off++vs++us.drop (off+sz)).toArray,H',?_,?_,h⟩
  ·have h5:Ae vs=sz:=Ab
   rw[h5] at h1;simp only[AeQ] at h1 ⊢;simp[execOp,ha.eval hx,e1,Instr.storeAt,Instr.sureAddr,storeVar,hsz,Value.cells,h5,h1]
  ·subst hH;subst hcs;refine hw.set hi rfl rfl rfl (by simp[World.setRow]) (λk _ hk=>?_) ⟨us.take off++vs++us.drop (off+sz),setRow_heap w b _ _ e (0,0) hb,((h2.take off).append h4).append (h2.drop (off+sz))⟩ (by simp[Ent.foot]);simp only[Ent.foot,AeY] at hk;simp only[World.setRow,Array.getElem?_modify];rw[AeN (λe=>hk e.symm)]
theorem Ci {p:Addr}(hx:ev l x=Ad (rv (.pointer (Ad p)))):Cd P n c l H { dst:=d',op:=.nilCheck x,type:=ty,pos:=pos,after:=af,guard:=g } (rv (.pointer (Ad p))):=λa w Z ha hw=>E0<|by
 simp[execOp,ha.eval hx]
theorem EG {cs:List Rp}(hx:ev l x=Ad (MO cs)):Cd P n c l H { dst:=d',op:=.nilCheck x,type:=ty,pos:=pos,after:=af,guard:=g } (MO cs):=λa w Z ha hw=>by
 have h:=ha.ev hx;have h':=h;obtain⟨b,o,e1,_⟩:=h;exact⟨a.eval x,h',by simp[execOp,e1]⟩
theorem AN {b off':Nat}{f:Field}(hu:P.underlying t=Ad (.struct fs))(hf:fs[i]? =Ad f)(hsz:∀w,(sizeOf f.type).run P w = .ok (sz+1) w)
  (hx:ev l x=Ad (rv (.pointer (Ad ⟨b,off,Ai⟩)))) (ho:off+f.offset=off'):Cd P n c l H { dst:=d',op:=.fieldAddr t x i,type:=ty,pos:=pos,after:=af,guard:=g } (rv (.pointer (Ad ⟨b,off',Ai⟩))):=λa w Z ha hw=>E0<|by
 subst ho;simp[execOp,ha.eval hx,Instr.fieldAt,run_underlying hu,hf,Instr.sureAddr,fieldPlace,hsz,Iz]
theorem CC {cs:List Rp}{f:Field}(hu:P.underlying t=Ad (.struct fs))(hf:fs[i]? =Ad f)(hsz:∀w,(sizeOf f.type).run P w = .ok (sz+1) w)
  (hx:ev l x=Ad (MO cs)) (ho:cs.drop f.offset=cs'):Cd P n c l H { dst:=d',op:=.fieldAddr t x i,type:=ty,pos:=pos,after:=af,guard:=g } (MO cs'):=λa w Z ha hw=>by
 subst ho;obtain⟨b,o,e1,hcs⟩:=ha.ev hx;refine⟨.pointer (Ad ⟨b,o+f.offset,Ai⟩),⟨b,o+f.offset,rfl,λj r hj=>?_⟩,by simp[execOp,e1,Instr.fieldAt,run_underlying hu,hf,Instr.sureAddr,fieldPlace,hsz,Iz]⟩;obtain⟨u,hu,hr⟩:=hcs (f.offset+j) r (by simpa using hj);exact⟨u,by rw[Nat.add_assoc];exact hu,hr⟩
theorem DN [Inhabited α]{i:Int}(ht:P.underlying t=Ad (.slice e))(hz:∀w,(sizeOf e).run P w = .ok sz w)(h:ev l x=Ad (B3 sz (ys.map enc)))(hi:ev l y=Ad (rI k i))(hg:Do i (Ae ys:Int)=Af) :
  Cd P n c l H { dst:=d',op:=.indexAddr t x y,type:=ty,pos:=pos,after:=af,guard:=g } (MO (enc (A8 ys i))):=λa w Z ha hw=>by
 obtain⟨A,cap,e1,_,_,_,hc⟩:=ha.ev h;have h0:=(DJ hg).1;have h1:i.toNat<Ae ys:=by have:=(DJ hg).2;omega
 have hlt:i<(Ae ys:Int):=(DJ hg).2;obtain⟨hl,ad,rfl,hs,hcs⟩:=hc i.toNat (enc ys[i.toNat]) (by simp[h1]);obtain⟨b,off,spot⟩:=ad;simp only at hs;subst hs;have eat:A8 ys i=ys[i.toNat]:=by simp[A8,h1]
 refine⟨.pointer (Ad ⟨b,off+i.toNat*sz,Ai⟩),⟨b,off+i.toNat*sz,rfl,λj r hj=>?_⟩,?_⟩
 ·obtain⟨u,hu,hr⟩:=hcs j r (by rw[← eat];exact hj);exact⟨u,by rw[Nat.add_assoc];exact hu,hr⟩
 ·simp only[Ae7] at e1;simp[execOp,e1,ha.eval hi,Instr.indexAt,asIntOf,run_underlying ht,h0,hlt,hz,Iz]
theorem WL.nilrow {e:TypeId}{sz:Nat}(h:WL P n c ops Q rest l (.row (.slice Ai 0 0) e sz []::H)):WL P n c ops Q rest l H:=λa w Z ha hw=>
 h a w Z ha (hw.add rfl rfl rfl (AeG _) (λ_ _=>rfl) ⟨Aj,[],⟨Aj,.inl ⟨rfl,rfl⟩⟩,trivial⟩ (by simp[Ent.foot,Value.ownBlock]))
theorem WC.nilrow {xx:Code}{e:TypeId}{sz:Nat}(h:WC P n c xx Q l (.row (.slice Ai 0 0) e sz []::H)):WC P n c xx Q l H:=λa w Z ha hw=>
 h a w Z ha (hw.add rfl rfl rfl (AeG _) (λ_ _=>rfl) ⟨Aj,[],⟨Aj,.inl ⟨rfl,rfl⟩⟩,trivial⟩ (by simp[Ent.foot,Value.ownBlock]))
theorem WK.nilrow {K:Act→World→Prop}{e:TypeId}{sz:Nat}(h:WK n c K l (.row (.slice Ai 0 0) e sz []::H)):WK n c K l H:=λa w Z ha hw=>
 h a w Z ha (hw.add rfl rfl rfl (AeG _) (λ_ _=>rfl) ⟨Aj,[],⟨Aj,.inl ⟨rfl,rfl⟩⟩,trivial⟩ (by simp[Ent.foot,Value.ownBlock]))
theorem SH (ht:P.underlying t=Ad (.slice e))(h:ev l x=Ad (rv v))(hi:H[i]? =Ad (.row v e' sz xs)):Cd P n c l H { dst:=d',op:=.call { callee:=.builtin .len,args:=#[x],argTypes:=#[t] },type:=ty,pos:=pos,after:=af,guard:=g } (rI .i64 (Ae xs)):=λa w Z ha hw=>E0<|by
 obtain⟨_,us,⟨_,h2⟩,_⟩:=hw.ent hi;rcases h2 with⟨rfl,hz⟩ | ⟨b,cap,cur,rfl,_⟩
 ·simp[execOp,resolve,invoke,builtin,ha.eval h,Builtin.len_,run_underlying ht,goInt,hz]
 ·simp[execOp,resolve,invoke,builtin,ha.eval h,Builtin.len_,run_underlying ht,goInt]
theorem CN {j:Int}(ht:P.underlying t=Ad (.slice e))(hz:∀w,(sizeOf e).run P w = .ok sz w)(h:ev l x=Ad (rv v))(hy:ev l y=Ad (rI k j))(hi:H[i]? =Ad (.row v e' sz xs))(hg:Do j (Ae xs:Int)=Af) :
  Cd P n c l H { dst:=d',op:=.indexAddr t x y,type:=ty,pos:=pos,after:=af,guard:=g } (rv (EL sz v j.toNat 0)):=λa w Z ha hw=>E0<|by
 obtain⟨_,us,⟨_,h2⟩,_⟩:=hw.ent hi;have h0:=(DJ hg).1;have h1:=(DJ hg).2;rcases h2 with⟨rfl,hz⟩ | ⟨b,cap,cur,rfl,_⟩
 ·omega
 ·simp[execOp,ha.eval h,ha.eval hy,Instr.indexAt,asIntOf,run_underlying ht,h0,h1,hz,Iz,EL]
theorem Cz [Inhabited α]{j:Int}(hag:∀w,(isAgg t).run P w = .ok Ah w)(hx:ev l x=Ad (rv (EL sz v j.toNat off)))(hi:H[i]? =Ad (.row v e sz (ys.map enc)))(hg:Do j (Ae ys:Int)=Af)(hc:(enc (A8 ys j))[off]? =Ad r) :
  Cd P n c l H { dst:=d',op:=.load t x,type:=ty,pos:=pos,after:=af,guard:=g } r:=λa w Z ha hw=>by
 obtain⟨hs,us,⟨h1,h2⟩,h3⟩:=hw.ent hi;have h0:=(DJ hg).1;have hlt:j.toNat<Ae ys:=by have:=(DJ hg).2;omega
 have eat:A8 ys j=ys[j.toNat]:=by simp[A8,hlt]
 have hfl:=KY hs (i:=j.toNat) (c:=enc ys[j.toNat]) (by simp[hlt]) (j:=off) (u:=r) (by rw[← eat];exact hc);obtain⟨u,hu,hp⟩:=h3.at hfl;rcases h2 with⟨rfl,hz⟩ | ⟨b,cap,cur,rfl,_,hg',hcap,hm,hsz,htk⟩
 ·simp at hz;subst hz;simp at hlt
 ·have hcell:w.cell? ⟨b,j.toNat*sz+off,Ai⟩=Ad u:=by
   rw[cell_of_row w b _ cur e (0,0) hg'];rw[← htk,AeF] at hu
   split at hu
   ·simpa using hu
   ·cases hu
  exact⟨u,hp,by simp[execOp,ha.eval hx,EL,Instr.loadAt,Instr.sureAddr,loadVar,hag,hcell]⟩
theorem BY {j:Int}(h:Do j (Ae ys:Int)=Af):Do j (Ae (ys.map enc):Int)=Af:=by rw[Ae7];exact h
theorem G9 (ht:P.underlying t=Ad (.slice e))(h:ev l x=Ad (B3 sz (ys.map enc))):Cd P n c l H { dst:=d',op:=.call { callee:=.builtin .len,args:=#[x],argTypes:=#[t] },type:=ty,pos:=pos,after:=af,guard:=g } (rI .i64 (Ae ys)):=by
 have:=SG (P:=P) (n:=n) (c:=c) (H:=H) (d:=d') (ty:=ty) (pos:=pos) (af:=af) (g:=g) ht h
 rwa [Ae7] at this
theorem CK (ht:P.underlying t=Ad (.slice e))(h:ev l x=Ad (rv v))(hi:H[i]? =Ad (.row v e' sz (ys.map enc))):Cd P n c l H { dst:=d',op:=.call { callee:=.builtin .len,args:=#[x],argTypes:=#[t] },type:=ty,pos:=pos,after:=af,guard:=g } (rI .i64 (Ae ys)):=by
 have:=SH (P:=P) (n:=n) (c:=c) (d':=d') (ty:=ty) (pos:=pos) (af:=af) (g:=g) ht h hi
 rwa [Ae7] at this
theorem Bo {k:Nat}{jj:Int}(hk:H[k]? =Ad (.row v e' sz xs))(hg:Do jj (Ae xs:Int)=Af)(hj:jj.toNat=j)(hx:ev l x=Ad (rv (EL sz v j off))):Cd P n c l H { dst:=d',op:=.nilCheck x,type:=ty,pos:=pos,after:=af,guard:=g } (rv (EL sz v j off)):=λa w Z ha hw=>E0<|by
 obtain⟨hs,us,⟨h1,h2⟩,h3⟩:=hw.ent hk;rcases h2 with⟨rfl,hz⟩ | ⟨b,cap,cur,rfl,_⟩
 ·have:=DJ hg;omega
 ·simp[execOp,ha.eval hx,EL]
theorem C7 {off' fsz:Nat}{f:Field}(hu:P.underlying t=Ad (.struct fs))(hf:fs[i]? =Ad f)(hsz:∀w,(sizeOf f.type).run P w = .ok (fsz+1) w){k:Nat}{jj:Int}(hk:H[k]? =Ad (.row v e' sz xs))(hg:Do jj (Ae xs:Int)=Af)(hj:jj.toNat=j)
  (hx:ev l x=Ad (rv (EL sz v j off))) (ho:off+f.offset=off'):Cd P n c l H { dst:=d',op:=.fieldAddr t x i,type:=ty,pos:=pos,after:=af,guard:=g } (rv (EL sz v j off')):=λa w Z ha hw=>E0<|by
 obtain⟨hs,us,⟨h1,h2⟩,h3⟩:=hw.ent hk;subst ho hj;rcases h2 with⟨rfl,hz⟩ | ⟨b,cap,cur,rfl,_⟩
 ·have:=DJ hg;omega
 ·simp[execOp,ha.eval hx,EL,Instr.fieldAt,run_underlying hu,hf,Instr.sureAddr,fieldPlace,hsz,Iz,Nat.add_assoc]
theorem DX [Inhabited α]{j:Int}{y':α}(hsz:∀w,(sizeOf t).run P w = .ok 1 w)(hx:ev l x=Ad (rv (EL sz v j.toNat off)))(hy:ev l y=Ad r)(hv:IY H r)(hi:H[i]? =Ad (.row v e sz (ys.map enc)))(hg:Do j (Ae ys:Int)=Af)
  (hy':(enc (A8 ys j)).set off r=enc y') (hlt:Nat.blt off sz=Af) (hH:H.set i (.row v e sz ((ys.set j.toNat y').map enc))=H') (h:WL P n c ops Q rest l H') :
  WL P n c ops Q ({ dst:=Ai,op:=.store t x y,type:=ty,pos:=pos,after:=af,guard:=Ai }::rest) l H:=
 Vj λa w Z ha hw=>by
  obtain⟨hs,us,⟨h1,h2⟩,h3⟩:=hw.ent hi;have h0:=(DJ hg).1;have hlj:j.toNat<Ae ys:=by have:=(DJ hg).2;omega
  have hlt':off<sz:=by simpa using hlt
  have eat:A8 ys j=ys[j.toNat]:=by simp[A8,hlj]
  have hr:=ha.ev hy;have hone:=hv c Z w _ hw hr;rcases h2 with⟨rfl,hz⟩ | ⟨b,cap,cur,rfl,_,hg',hcap,hm,hcs,htk⟩
  ·simp at hz;subst hz;simp at hlj
  ·simp only[Ae7] at h1 hcap htk;have hin:j.toNat*sz+off<Ae ys*sz:=by
    have:(j.toNat+1)*sz≤Ae ys*sz:=Nat.mul_le_mul_right _ hlj;rw[Nat.succ_mul] at this;omega
   have hlc:j.toNat*sz+off<cur.size:=by
    have:Ae ys*sz≤cap*sz:=Nat.mul_le_mul_right _ hcap;omega
   have h4:=run_storeCells_at P b (j.toNat*sz+off) e [a.eval y] 0 cur w hg' Am (by simpa using hone);have hcv:=De hone;have h5:(cur.toList.take (j.toNat*sz+off)++[a.eval y]++cur.toList.drop (j.toNat*sz+off+1)).toArray=cur.setIfInBounds (j.toNat*sz+off) (a.eval y):=by
    apply Array.ext';simp[Array.toList_setIfInBounds,List.set_eq_take_append_cons_drop,hlc]
   simp only[Nat.add_zero,AeL,List.length_nil,AeK] at h4;rw[h5] at h4;have hset:((ys.set j.toNat y').map enc).flatten=(ys.map enc).flatten.set (j.toNat*sz+off) r:=by
    clear h3 h1 hcs htk hin hlc h4 h5 hi hH;have key:∀(xs:List (List Rp)) (k:Nat) (cl:List Rp),(∀c∈xs,Ae c=sz)→xs[k]? =Ad cl→(xs.set k (cl.set off r)).flatten=xs.flatten.set (k*sz+off) r:=by
     intro xs
     induction xs with
     | nil=>intro k cl _ hk;simp at hk
     | cons z zs ih=>
      intro k cl hsz hk;have hzl:Ae z=sz:=hsz z Aj
      cases k with
      | zero=>
       simp at hk;subst hk;simp only[List.set_cons_zero,List.flatten_cons,Nat.zero_mul,AeK];rw[List.set_append_left _ _ Ab]
      | succ k=>
       simp only[List.set_cons_succ,List.flatten_cons];rw[ih k cl (λc hc=>hsz c (by simp[hc])) (by simpa using hk)];rw[List.set_append_right _ _ (by rw[hzl,Nat.succ_mul];omega)]
       congr 2
       rw[hzl,Nat.succ_mul];omega
    have:=key (ys.map enc) j.toNat (enc ys[j.toNat]) hs (by simp[hlj]);rw[← this,List.map_set,← hy',eat]
   refine⟨w.setRow b (cur.setIfInBounds (j.toNat*sz+off) (a.eval y)),H',?_,?_,h⟩
   ·simp[execOp,ha.eval hx,EL,Instr.storeAt,Instr.sureAddr,storeVar,hsz,hcv,h4]
   ·subst hH;refine hw.set hi rfl rfl rfl (by simp[World.setRow]) (λk _ hk=>?_) ⟨?_,us.set (j.toNat*sz+off) (a.eval y),⟨by simpa using h1,.inr ⟨b,cap,_,Aj,AeR _,setRow_heap w b cur _ e (0,0) hg',by simpa using hcap,hm,by simpa using hcs,?_⟩⟩,?_⟩ (by simp[Ent.foot,Value.ownBlock])
    ·simp only[Ent.foot,Value.ownBlock,Option.mem_toList,Option.mem_def,Option.some.injEq] at hk;simp only[World.setRow,Array.getElem?_modify];rw[AeN hk]
    ·intro cl hcl;rw[List.map_set] at hcl;rcases List.mem_or_eq_of_mem_set hcl with h' | rfl
     ·exact hs cl h'
     ·rw[← hy',List.length_set,eat];exact hs _ (List.mem_map_of_mem (List.getElem_mem hlj))
    ·simp only[Ae7,List.length_set];rw[Array.toList_setIfInBounds,List.take_set,htk]
    ·rw[hset];exact h3.set _ hr
end
end
variable{f:FuncId}{caps:List Value}{len:Nat}{css:List (List Rp)}{parts:Array (Nat×Operand)}
section
variable [I : Dfr]
theorem VA {P:Program}{t e:TypeId}{sz:Nat}{z:Value}{parts:Array (Nat×Value)}{cs:List Value}(ht:P.underlying t=Ad (.slice e))(hz:∀w,(sizeOf e).run P w = .ok sz w)(hzv:∀w,(zeroValue e).run P w = .ok z w)
  (hle:Nat.ble (len*sz) 16777216=Af) (w:World) (hf:Instr.fill (λi=>Ad (i*sz,sz)) ((Array.range (len*sz)).map ((if len*sz=0 then #[] else z.cells)[· % (if len*sz=0 then #[] else z.cells).size]!)) parts.toList=Ad cs.toArray) :
  (Instr.buildSlice t len parts).run P w = .ok (.slice (Ad ⟨w.heap.size,0,Ai⟩) len len) (w.alloc (.cells cs.toArray e)):=by
 have hle' : ¬ 16777216<len*sz:=by simpa using hle
 unfold Instr.buildSlice
 by_cases h0:len*sz=0
 ·have er:Array.range 0 = #[]:=rfl;simp only[h0,if_true,er] at hf;have hf:Instr.fill (λi=>Ad (i*sz,sz)) #[] parts.toList=Ad cs.toArray:=by simpa using hf
  simp[run_underlying ht,hz,hle',h0,er,hf,newRow,newObj,Sem.run,Sem.run_bind]
 ·simp only[h0,if_false] at hf;simp[run_underlying ht,hz,hzv,hle',h0,hf,newRow,newObj,Sem.run,Sem.run_bind]
section
variable {P : Program} {n : Nat} {c : Cx} {ops : Array Oper} {Q : Exit → Act → World → Prop} {rest : List Oper} {l : Fr} {H H' : List Ent} {d : Nat} {d' : Option Nat} {x y z3 : Operand} {ty t t' e : TypeId} {pos : String} {af : Array Edge} {g : Option (Nat × Bool)} {v u : Value} {r : Rp} {sz : Nat}
theorem Abj {b k:Nat}{cs:List Rp}(hag:∀w,(isAgg t).run P w = .ok Ah w)(hx:look l k=Ad (rv (.pointer (Ad ⟨b,0,Ai⟩))))(hi:H[i]? =Ad (.blk b cs e))(hc:cs[0]? =Ad r):RV P n c l H (.cell k t) r:=λa w Z ha hw=>by
 obtain⟨us,h1,h2⟩:=hw.ent hi;obtain⟨u,hu,hp⟩:=h2.at hc;obtain⟨p,hp1,hp2⟩:=ha.tm k _ hx;rw[show p=_ from hp2] at hp1;have hcell:w.cell? ⟨b,0,Ai⟩=Ad u:=by rw[cell_of_row w b 0 _ e (0,0) h1];simpa using hu
 exact⟨u,hp,by simp[VB,Array.getD_eq_getD_getElem?,hp1,asAddr,loadVar,hag,hcell]⟩
theorem CW {b k:Nat}{cs:List Rp}(hag:∀w,(isAgg t).run P w = .ok Af w)(hsz:∀w,(sizeOf t).run P w = .ok sz w)(hx:look l k=Ad (rv (.pointer (Ad ⟨b,0,Ai⟩))))(hi:H[i]? =Ad (.blk b cs e))(hl:Ae cs=sz):RV P n c l H (.cell k t) (BL cs):=λa w Z ha hw=>by
 obtain⟨us,h1,h2⟩:=hw.ent hi;obtain⟨p,hp1,hp2⟩:=ha.tm k _ hx;rw[show p=_ from hp2] at hp1;have h4:=run_loadCells_list (P:=P) w ⟨b,0,Ai⟩ us (λj u hj=>by
  rw[Iz,cell_of_row w b _ _ e (0,0) h1,AeK];simpa using hj)
 rw[h2.length,hl] at h4;exact⟨.agg us.toArray,⟨us,rfl,h2⟩,by simp[VB,Array.getD_eq_getD_getElem?,hp1,asAddr,loadVar,hag,hsz,h4]⟩
def UB (H:List Ent)(r:Rp)(cs:List Rp):Prop:=∀(c:Cx) Z w v,St c H Z w→r.p Z v→BH Z cs v.cells.toList
theorem UB.one {q:Rp}(h:r.one=Af)(hu:Up H r q):UB H r [q]:=λc Z w v hw hp=>by
 rw[De (r.hone h Z v hp)];exact⟨hu c Z w v hw hp,trivial⟩
theorem UB.agg {cs:List Rp}(h:EA H cs cs'):UB H (BL cs) cs':=λc Z w v hw ⟨us,e,hu⟩=>by subst e;exact h.all hw hu
def G2 (H:List Ent):List Rp→List (List Rp)→Prop
 | [],[]=>True
 | r::rs,cs::css=>UB H r cs∧G2 H rs css
 | _,_=>False
theorem G2.all {c:Cx}{Z:Fz}{w:World}(hw:St c H Z w):∀{rs:List Rp} {css:List (List Rp)} {vs:List Value},G2 H rs css→BH Z rs vs→BH Z css.flatten (vs.flatMap λv=>v.cells.toList)∧Ae css=Ae vs∧∀(i:Nat) cs v,css[i]? =Ad cs→vs[i]? =Ad v→v.cells.size=Ae cs
 | [],[],[],_,_=>⟨trivial,rfl,Aj⟩
 | r::rs,cs::css,v::vs,⟨h1,h2⟩,⟨h3,h4⟩=>by
  obtain⟨a1,a2,a3⟩:=h2.all hw h4;have h5:=h1 c Z w v hw h3;refine⟨by simpa using h5.append a1,by simp[a2],λi cs' v' hi hv=>?_⟩
  cases i with
  | zero=>simp at hi hv;subst hi hv;have:=h5.length;simpa using this
  | succ i=>exact a3 i cs' v' (by simpa using hi) (by simpa using hv)
theorem Ez {xs:List Operand}{zz:Value}(ht:P.underlying t=Ad (.slice e))(hz:∀w,(sizeOf e).run P w = .ok sz w)(hzv:∀w,(zeroValue e).run P w = .ok zz w)
  (hparts:parts.toList=(xs.zipIdx 0).map λp=>(p.2,p.1)) (hlen:Ae ys=len) (hv:Jy l xs=Ad rs) (hc:G2 H rs css) (hcs:css=ys.map enc) (henc:∀z,Ae (enc z)=sz) (hsz:Nat.blt 0 sz=Af) (hle:Nat.ble (len*sz) 16777216=Af) (hn:Nat.blt d n=Af)
  (h:∀b,WL P n c ops Q rest ((d,rv (.slice (Ad ⟨b,0,Ai⟩) len len))::l) (.row (.slice (Ad ⟨b,0,Ai⟩) len len) e sz (ys.map enc)::H)) :
  WL P n c ops Q ({ dst:=Ad d,op:=.buildSlice t len parts,type:=ty,pos:=pos,after:=af,guard:=Ai }::rest) l H:=
 K7 (λa w Z ha hw=>by
  have hall:=E9 ha hv;obtain⟨h1,h2,h3⟩:=hc.all hw hall;have hsz':0<sz:=by simpa using hsz
  have hle' : ¬ 16777216<len*sz:=by simpa using hle
  have hxl:Ae (xs.map a.eval)=len:=by rw[← h2,hcs,Ae7,hlen]
  have hcell:∀v∈xs.map a.eval,v.cells.size=sz:=λv hv'=>by
   obtain⟨i,hi⟩:=List.getElem?_of_mem hv';have hil:=(List.getElem?_eq_some_iff.1 hi).1;have hil2:i<Ae css:=Ab
   rw[h3 i css[i] v (Ae3 hil2) hi];have:css[i]∈ys.map enc:=by rw[← hcs];exact List.getElem_mem hil2
   obtain⟨z,_,hz'⟩:=List.mem_map.1 this;rw[← hz'];exact henc z
  have hflen:Ae ((xs.map a.eval).flatMap λv=>v.cells.toList)=len*sz:=by
   rw[h1.length,HL (sz:=sz) (λc hc'=>by rw[hcs] at hc';obtain⟨z,_,hz'⟩:=List.mem_map.1 hc';rw[← hz'];exact henc z),hcs,Ae7,hlen]
  have hpe:(parts.map λ(i,x)=>(i,a.eval x)).toList=((xs.map a.eval).zipIdx 0).map λp=>(p.2,p.1):=by
   rw[Array.toList_map,hparts,List.zipIdx_map,AeV,AeV];rfl
  have hrun:(Instr.buildSlice t len (parts.map λ(i,x)=>(i,a.eval x))).run P w = .ok (.slice (Ad ⟨w.heap.size,0,Ai⟩) len len) (w.alloc (.cells ((xs.map a.eval).flatMap λv=>v.cells.toList).toArray e)):=by
   refine VA ht hz hzv hle w ?_;rw[hpe]
   by_cases h0:len*sz=0
   ·have:len=0:=by
     rcases Nat.mul_eq_zero.1 h0 with h | h
     ·exact h
     ·omega
    subst this;have hx0:xs=[]:=by simpa using AeT (by simpa using hxl)
    subst hx0;simp[Instr.fill]
   ·simp only[h0,if_false];exact Great.fill_whole hsz' (xs.map a.eval) _ hcell (by rw[hxl];simp)
  refine⟨_,w.alloc (.cells ((xs.map a.eval).flatMap λv=>v.cells.toList).toArray e),_,_,Z,by simp[execOp,hrun],Fz.le.refl _,rfl,
   hw.alloc _ (e:=.row (.slice (Ad ⟨w.heap.size,0,Ai⟩) len len) e sz (ys.map enc)) ⟨?_,(xs.map a.eval).flatMap (λv=>v.cells.toList),⟨?_,.inr ⟨w.heap.size,len,_,?_,AeR _,heap_alloc_new w _,?_,?_,?_,?_⟩⟩,?_⟩ (by simp[Ent.foot,Value.ownBlock]),h w.heap.size⟩
  ·intro cl hcl;obtain⟨z,_,hz'⟩:=List.mem_map.1 hcl;rw[← hz'];exact henc z
  ·rw[hflen,Ae7,hlen]
  ·rw[Ae7,hlen]
  ·rw[Ae7,hlen];exact AeG _
  ·have:len≤len*sz:=Nat.le_mul_of_pos_right _ hsz';simp only[maxLen];omega
  ·simpa using hflen
  ·rw[Ae7,hlen,← hflen];exact List.take_length
  ·rw[← hcs];exact h1) hn
theorem Sl.rds {Z:Fz}{w:World}(hf:PC Z w)(h:Sl sz (ys.map enc) Z v)(hsz:0<sz):∃us:List Value,BH Z (ys.map enc).flatten us∧Rds sz w v (Ae ys) us:=by
 obtain⟨A,cap,rfl,_,_,hA,hc⟩:=h;have hl:∀c∈ys.map enc,Ae c=sz:=λc hm=>by
  obtain⟨i,hi⟩:=List.getElem?_of_mem hm;exact(hc i c hi).1
 cases A with
 | none=>
  have:ys=[]:=by
   cases ys with
   | nil=>rfl
   | cons y r=>obtain⟨_,a,h,_⟩:=hc 0 (enc y) Aj;cases h
  subst this;rw[hA rfl];exact⟨[],trivial,Aj,.inl ⟨rfl,rfl⟩⟩
 | some a=>
  obtain⟨us,h1,h2⟩:=LF (Z:=Z) (cs:=(ys.map enc).flatten) (f:=λj=>GG Z a.block (a.off+j)) (λj r hj=>by
   have hjl:j<Ae ys*sz:=by
    have:=HL hl;rw[Ae7] at this;rw[← this];exact(List.getElem?_eq_some_iff.1 hj).1
   have hq:j/sz<Ae (ys.map enc):=by rw[Ae7,Nat.div_lt_iff_lt_mul hsz];exact hjl
   have hr:j % sz<sz:=Nat.mod_lt _ hsz;obtain⟨hcl,a',e1,hsp,hcell⟩:=hc (j/sz) (ys.map enc)[j/sz] (Ae3 hq);simp only[Option.some.injEq] at e1;subst e1;have hdm:j/sz*sz+j % sz=j:=by rw[Nat.mul_comm];exact Nat.div_add_mod j sz
   have hlt:j % sz<Ae ((ys.map enc)[j/sz]):=Ab
   have h3:=KY hl (Ae3 hq) (Ae3 hlt);rw[hdm,hj] at h3;simp only[Option.some.injEq] at h3;obtain⟨u,hu,hp⟩:=hcell (j % sz) _ (Ae3 hlt);rw[hdm] at hu;exact⟨u,hu,by rw[h3];exact hp⟩)
  refine⟨us,h1,?_,.inr ⟨a,cap,Aj,λj u hj=>?_⟩⟩
  ·rw[h1.length,HL hl,Ae7]
  ·have hjl:j<Ae us:=(List.getElem?_eq_some_iff.1 hj).1;have h3:=JF hf (h2 j u hj);have hsp:a.spot=Ai:=by
    cases ys with
    | nil=>have:=h1.length;simp at this;subst this;simp at hjl
    | cons y r=>obtain⟨_,a',e1,hs,_⟩:=hc 0 (enc y) Aj;simp at e1;subst e1;exact hs
   obtain⟨b,off,spot⟩:=a;simp only at hsp;subst hsp;rw[Iz];exact h3
def J2 (P:Program)(n:Nat)(c:Cx)(l:Fr)(H:List Ent)(y:Operand)(sz k:Nat)(cs:List Rp):Prop:=∀a w Z,DU n l a Z→St c H Z w→∃us,BH Z cs us∧Rds sz w (a.eval y) k us
theorem J2.z (h:ev l y=Ad (B3 sz (ys.map enc)))(hsz:Nat.blt 0 sz=Af):J2 P n c l H y sz (Ae ys) (ys.map enc).flatten:=λa w Z ha hw=>Sl.rds hw.frz (ha.ev h) (by simpa using hsz)
theorem J2.nil (h:ev l y=Ad (rv (.slice Ai 0 0))):J2 P n c l H y sz 0 []:=λa w Z ha hw=>⟨[],trivial,Aj,.inl ⟨ha.eval h,rfl⟩⟩
theorem J2.w {α:Type}{ys:List α}{enc:α→List Rp}{i:Nat}(h:ev l y=Ad (rv v))(hi:H[i]? =Ad (.row v e sz (ys.map enc))):J2 P n c l H y sz (Ae ys) (ys.map enc).flatten:=λa w Z ha hw=>by
 obtain⟨h0,us,h1,h2⟩:=hw.ent hi;refine⟨us,h2,?_⟩;rw[ha.eval h];have:=Rds.of_row (w:=w) (v:=v) (e:=e) (sz:=sz) (m:=Ae (ys.map enc)) (xs:=us) h1;simpa using this
theorem Qf {xs:List α}{inf:TypeInfo}{z:Value}{bytes:Nat}(ht:P.underlying t=Ad (.slice e))(hinf:P.info? e=Ad inf)(hz:inf.zero=Ad z)(hsize:inf.size=sz)(hby:inf.bytes=bytes)(hzs:z.cells.size=sz)(hsz:Nat.blt 0 sz=Af)(hbp:Nat.blt 0 bytes=Af)
  (hx:ev l x=Ad (rv v)) (hi:H[i]? =Ad (.row v e sz (xs.map enc))) (hy:J2 P n c l H y sz (Ae ys) (ys.map enc).flatten) (henc:∀z,Ae (enc z)=sz) (hone:∀z,(enc z).all (·.one)=Af) (hg:I0 bytes (Ae xs+Ae ys)=Af) (hn:Nat.blt d n=Af)
  (h:∀v',WL P n c ops Q rest ((d,rv v')::l) (.row v' e sz ((xs++ys).map enc)::H.eraseIdx i)) :
  WL P n c ops Q ({ dst:=Ad d,op:=.call { callee:=.builtin .append,args:=#[x,y],argTypes:=#[t,t] },type:=ty,pos:=pos,after:=af,guard:=Ai }::rest) l H:=
 K7 (λa w Z ha hw=>by
  obtain⟨h0,us,h1,h2⟩:=hw.ent hi;obtain⟨ws,h3,h4⟩:=hy a w Z ha hw;have hsz':0<sz:=by simpa using hsz
  have hbp':0<bytes:=by simpa using hbp
  have hb:(Ae xs+Ae ys)*bytes≤140737488355328:=by simpa[I0] using hg
  have hle:Ae xs+Ae ys≤(Ae xs+Ae ys)*bytes:=Nat.le_mul_of_pos_right _ hbp';have hws:∀y∈ws,y.oneCell'=Af:=BH.one (rs:=(ys.map enc).flatten) (by
   rw[AeJ];intro r hr;obtain⟨cl,hcl,hrc⟩:=List.mem_flatten.1 hr;obtain⟨z',_,rfl⟩:=List.mem_map.1 hcl;exact List.all_eq_true.1 (hone z') r hrc) h3
  have hxl:Ae (xs.map enc)=Ae xs:=Ae7 ..;rw[hxl] at h1;obtain⟨v',w',e1,e2,e3,e4⟩:=EP (P:=P) ty ht hinf hz hsize hby hzs hsz' h1 h4 hws hb (by simp only[maxLen];omega);have hent:(Ent.row v' e sz ((xs++ys).map enc)).holds Z w':=⟨λcl hcl=>by obtain⟨z',_,rfl⟩:=List.mem_map.1 hcl;exact henc z',us++ws,by simpa using e2,by rw[List.map_append,List.flatten_append];exact h2.append h3⟩
  have hst:=hw.callF hi (St.one (e':=.row v' e sz ((xs++ys).map enc)) (M:=(Ent.row v e sz (xs.map enc)).foot) hw.frz hw.env hw.emono e3.os e3.tape e3.output e3.size (λk hk hne=>e3.block k hk (λe1=>hne (by simp[Ent.foot,← e1])))
   (hw.zdis _ (AeB hi)) hent (λk hk=>by
    simp only[Ent.foot,Option.mem_toList] at hk ⊢;rcases e4 with e4 | e4
    ·exact .inl (e4▸hk)
    ·exact .inr (e4 k hk)))
  exact⟨v',w',rv v',_,Z,by simp[execOp,resolve,invoke,builtin,ha.eval hx,e1],Fz.le.refl _,rfl,hst,h v'⟩) hn
theorem Zk {j:Int}(ht:P.underlying t=Ad (.slice e))(hz:∀w,(sizeOf e).run P w = .ok sz w)(hx:ev l x=Ad (rv v))(hy:ev l y=Ad (rI k j))(hi:H[i]? =Ad (.row v e sz (ys.map enc)))(hg:N9 j (Ae ys:Int)=Af)(hn:Nat.blt d n=Af)
  (h:∀v',WL P n c ops Q rest ((d,rv v')::l) (H.set i (.row v' e sz ((ys.take j.toNat).map enc)))) :
  WL P n c ops Q ({ dst:=Ad d,op:=.slice t x Ai (Ad y) Ai,type:=ty,pos:=pos,after:=af,guard:=Ai }::rest) l H:=
 K7 (λa w Z ha hw=>by
  obtain⟨h0,us,⟨h1,h2⟩,h3⟩:=hw.ent hi;have g0:=(EH hg).1;have g1:=(EH hg).2;rcases h2 with⟨rfl,hz0⟩ | ⟨b,cap,cur,rfl,_,hb,hcap,hm,hcs,htk⟩
  ·simp at hz0;subst hz0;obtain rfl:j=0:=by simp at g1;omega
   refine⟨.slice Ai 0 0,w,_,_,Z,by simp[execOp,ha.eval hx,ha.eval hy,Instr.sliceAt,Instr.slice,run_underlying ht,Instr.sliceBounds,CS (m:=0) _ _ (Int.le_refl 0) (Int.le_refl 0),hz],Fz.le.refl _,rfl,?_,h _⟩;exact hw.set hi rfl rfl rfl (AeG _) (λ_ _ _=>rfl) ⟨Aj,[],⟨Aj,.inl ⟨rfl,Aj⟩⟩,trivial⟩ (by simp[Ent.foot,Value.ownBlock])
  ·simp only[Ae7] at h1 hcap htk;have hjc:j≤(cap:Int):=Ab
   have hjl:j.toNat≤Ae ys:=Ab
   refine⟨.slice (Ad ⟨b,0,Ai⟩) j.toNat cap,w,_,_,Z,by simp[execOp,ha.eval hx,ha.eval hy,Instr.sliceAt,Instr.slice,run_underlying ht,Instr.sliceBounds,CS (m:=cap) _ _ g0 hjc,hz];intro _;rfl,Fz.le.refl _,rfl,?_,h _⟩;refine hw.set hi rfl rfl rfl (AeG _) (λ_ _ _=>rfl) ⟨λcl hcl=>?_,us.take (j.toNat*sz),⟨?_,.inr ⟨b,cap,cur,?_,AeR _,hb,?_,hm,hcs,?_⟩⟩,?_⟩ (by simp[Ent.foot,Value.ownBlock])
   ·rw[List.map_take] at hcl;exact h0 cl (List.mem_of_mem_take hcl)
   ·rw[List.length_take,h1,Ae7,List.length_take,Nat.min_eq_left hjl];exact Nat.min_eq_left (Nat.mul_le_mul_right _ hjl)
   ·simp[Nat.min_eq_left hjl]
   ·simp;omega
   ·rw[Ae7,List.length_take,Nat.min_eq_left hjl,← htk,List.take_take,Nat.min_eq_left (Nat.mul_le_mul_right _ hjl)]
   ·have:((ys.take j.toNat).map enc).flatten=(ys.map enc).flatten.take (j.toNat*sz):=by
     rw[List.map_take];clear h3 h1 htk hcs hcap g1 hjc;generalize ys.map enc=zs at h0;have key:∀(zs:List (List Rp)) (k:Nat),(∀c∈zs,Ae c=sz)→(zs.take k).flatten=zs.flatten.take (k*sz):=by
      intro zs
      induction zs with
      | nil=>intro k _;simp
      | cons z zs ih=>
       intro k hk
       cases k with
       | zero=>simp
       | succ k=>
        have hzl:=hk z Aj;simp only[List.take_succ_cons,List.flatten_cons];rw[ih k (λc hc=>hk c (by simp[hc]))];have e1:(k+1)*sz=Ae z+k*sz:=by rw[hzl,Nat.succ_mul];omega
        rw[e1,List.take_length_add_append]
     exact key zs _ h0
    rw[this];exact h3.take _) hn
theorem R5 {z4:Operand}{k' k'':IntKind}{i j:Int}(ht:P.underlying t=Ad (.slice e))(hz:∀w,(sizeOf e).run P w = .ok sz w)(h:ev l x=Ad (B3 sz (ys.map enc)))(hi:ev l y=Ad (rI k i))(hj:ev l z3=Ad (rI k' j))(hm:ev l z4=Ad (rI k'' j))(hg1:N9 i j=Af)(hg2:N9 j (Ae ys:Int)=Af) :
  Cd P n c l H { dst:=d',op:=.slice t x (Ad y) (Ad z3) (Ad z4),type:=ty,pos:=pos,after:=af,guard:=g } (B3 sz (((ys.drop i.toNat).take (j.toNat-i.toNat)).map enc)):=λa w Z ha hw=>by
 obtain⟨A,cap,e1,hc1,hc2,hA,hc⟩:=ha.ev h;have h0:=(EH hg1).1;have h1:=(EH hg1).2;have h2:=(EH hg2).2;have hj0:0≤j:=Ab
 simp only[Ae7] at e1 hc1;have h3:j≤(cap:Int):=Ab
 refine⟨.slice (if j.toNat=i.toNat then A else A.map (·.add (i.toNat*sz))) (j.toNat-i.toNat) (j.toNat-i.toNat),⟨if j.toNat=i.toNat then A else A.map (·.add (i.toNat*sz)),j.toNat-i.toNat,?_,?_,Ab,?_,λq cl hq=>?_⟩,by simp[execOp,e1,ha.eval hi,ha.eval hj,ha.eval hm,Instr.sliceAt,Instr.slice,run_underlying ht,Instr.sliceBounds,CS (m:=cap) _ _ hj0 h3,CS (m:=j.toNat) _ _ hj0 Ab,CS (m:=j.toNat) _ _ h0 Ab,hz]⟩
 ·congr 1
  simp;omega
 ·simp;omega
 ·intro hn
  split at hn
  ·omega
  ·have:=hA (by simpa using hn);omega
 ·rw[AeC] at hq
  cases hq':(Aq (j.toNat-i.toNat) (Ap i.toNat ys))[q]? with
  | none=>rw[hq'] at hq;cases hq
  | some yy=>
   rw[hq'] at hq;simp only[Option.map_some,Option.some.injEq] at hq;subst hq;rw[AeF] at hq'
   split at hq'
   ·rename_i hlt
    rw[List.getElem?_drop] at hq';obtain⟨hl,ad,rfl,hs,hcs⟩:=hc (i.toNat+q) (enc yy) (by simp[hq']);obtain⟨b,off,spot⟩:=ad;simp only at hs;subst hs;have hne : ¬ j.toNat=i.toNat:=Ab
    refine⟨hl,⟨b,off+i.toNat*sz,Ai⟩,by simp[hne,Iz],rfl,λq' r' hr'=>?_⟩;obtain⟨u,hu,hp⟩:=hcs q' r' hr';refine⟨u,?_,hp⟩;have:off+i.toNat*sz+(q*sz+q')=off+((i.toNat+q)*sz+q'):=by rw[Nat.add_mul];omega
    simp only;rw[this];exact hu
   ·cases hq'
theorem Qv {p q:Int}(ht:P.underlying t=Ad (.int k))(hx:ev l x=Ad (rI k p))(hy:ev l y=Ad (rI k q)):Cd P n c l H { dst:=d',op:=.call { callee:=.builtin .max,args:=#[x,y],argTypes:=#[t,t] },type:=ty,pos:=pos,after:=af,guard:=g } (rI k (max p q)):=λa w Z ha _=>E0<|by
 have e:(if p<q then q else p)=max p q:=by split<;>omega
 simp[execOp,resolve,invoke,builtin,ha.eval hx,ha.eval hy,Builtin.max_,Builtin.max2,run_underlying ht,e]
theorem Qu {p q:Int}(ht:P.underlying t=Ad (.int k))(hx:ev l x=Ad (rI k p))(hy:ev l y=Ad (rI k q)):Cd P n c l H { dst:=d',op:=.call { callee:=.builtin .min,args:=#[x,y],argTypes:=#[t,t] },type:=ty,pos:=pos,after:=af,guard:=g } (rI k (min p q)):=λa w Z ha _=>E0<|by
 have e:(if q<p then q else p)=min p q:=by split<;>omega
 simp[execOp,resolve,invoke,builtin,ha.eval hx,ha.eval hy,Builtin.min_,Builtin.min2,run_underlying ht,e]
theorem DM {parts:Array Operand}(h:Jy l parts.toList=Ad (caps.map rv)):Cd P n c l H { dst:=d',op:=.makeFunc (.func f) #[] parts,type:=ty,pos:=pos,after:=af,guard:=g } (rv (.func (.func f) #[] caps.toArray)):=λa w Z ha _=>E0<|by
 have h1:=BH.eq_rv (E9 ha h);have h2:parts.map a.eval=caps.toArray:=by apply Array.ext';simpa using h1
 simp[execOp,Instr.makeFunc,h2]
@[reducible] def AJ (x:Int):List Rp:=[rI .i64 x]
theorem D8 (x:Int):Ae (AJ x)=1:=rfl
theorem Nm (x:Int):(AJ x).all (·.one)=Af:=rfl
@[reducible] def EM (x:Int):List Rp:=[rI .u8 x]
theorem On (x:Int):Ae (EM x)=1:=rfl
@[reducible] def eS (x:AE):List Rp:=[rS x]
theorem DR (x:AE):Ae (eS x)=1:=rfl
theorem WN (x:AE):(eS x).all (·.one)=Af:=rfl
@[reducible] def eB (x:Bool):List Rp:=[rB x]
end
end
variable{args:List Operand}{l0:Fr}{dj:Nat}{H1:List Ent}{want:Bool}{l1:Fr}{os:List Oper}{id:Nat}{b:Bool}{op:Op}{pos:String}{ats:Array TypeId}{g:Option (Nat×Bool)}{ks:List Nat}{af:Array Edge}
section
variable [I : Dfr]
section
variable (P : Program) (n : Nat) (c : Cx) (ops : Array Oper) (Q : Exit → Act → World → Prop)
def Ef (l:Fr)(H:List Ent)(o:Oper)(r:Rp)(H':List Ent):Prop:=
 ∀a w Z (K:Act→World→Prop),DU n l a Z→St c H Z w→(∀v w' Z',Fz.le Z Z'→r.p Z' v→St c H' Z' w'→K (a.put o.dst v) w')→
  (Region.wanted o (yielded ops a.tmps)=Af→o.wp P a w K Q)∧(Region.wanted o (yielded ops a.tmps)=Ah→K (a.put o.dst undef) w)
end
def ND (l' l:Fr):Prop:=∀i v,look l' i=Ad v→∃q,look l i=Ad q∧EJ q v
theorem DU.subL {n:Nat}{a:Act}{Z:Fz}{l l':Fr}(h:DU n l a Z)(hs:ND l' l):DU n l' a Z:=⟨h.size,h.defers,λi v hi=>by
 obtain⟨q,hq,hle⟩:=hs i v hi;obtain⟨u,hu,hp⟩:=h.tm i q hq;exact⟨u,hu,hle Z u hp⟩⟩
structure Kp (ks:List Nat) (l l':Fr):Prop where
 one:ND l' l
 two:∀i v,look l' i=Ad v→ks.contains i=Af
theorem JY:Kp ks [] []:=⟨λi v h=>by simp[look] at h,λi v h=>by simp[look] at h⟩
theorem Iy {l l':Fr}(h:ks.contains i=Af)(t:Kp ks l l'):Kp ks ((i,r)::l) ((i,r)::l'):=by
 refine⟨λj v hj=>?_,λj v hj=>?_⟩
 ·rw[Ds] at hj ⊢
  split at hj
  ·rename_i e;rw[AeX e];simp at hj;subst hj;exact⟨r,rfl,EJ.refl r⟩
  ·rename_i e;rw[AeN e];exact t.one j v hj
 ·rw[Ds] at hj
  split at hj
  ·rename_i e;subst e;exact h
  ·exact t.two j v hj
theorem Jx {l l':Fr}(h:ks.contains i=Ah)(t:Kp ks l l'):Kp ks ((i,r)::l) l':=by
 refine⟨λj v hj=>?_,t.two⟩;rw[Ds]
 by_cases e:i=j
 ·subst e;rw[t.two i v hj] at h;cases h
 ·rw[AeN e];exact t.one j v hj
structure Sp where
 deps:List Nat
 r:Rp
 kd:Nat
def E4 (sp:List Sp)(i:Nat):Sp:=sp.getD i ⟨[],rv undef,0⟩
def CD (ops:List Oper)(i:Nat):Option Nat:=(ops[i]?).bind (·.dst)
def CA (ops:List Oper)(sp:List Sp):List Nat→Fr→Fr
 | [],l=>l
 | j::r,l=>match CD ops j with
  | some d=>(d,(E4 sp j).r)::CA ops sp r l
  | none=>CA ops sp r l
def DH (o:Oper):List Nat:=(o.after.toList.filter (Region.binds .any)).map (·.on)
def Kh:List Oper→List Nat→List Nat
 | [],acc=>acc
 | o::rest,acc=>Kh rest (acc++[(DH o).foldl (λs e=>s||| 2 ^ e||| acc.getD e 0) 0])
def Es (l:Fr):List Nat:=l.map (·.1)
def okB (n:Nat)(ops:List Oper)(N:Nat)(keys:List Nat)(deps:List (List Nat))(kds:List Nat):Bool:=
 let cl:=Kh ops []
 (As (Ae ops)).all (λi=>(DH (ops.getD i default)).all (·<i))&&
 (As N).all (λi=>match CD ops i with
  | some d=>Ac (d<n)&&!keys.contains d&&(As N).all (λj=>j ==i||CD ops j !=Ad d)
  | none=>Af)&&
 (As N).all (λi=>(deps.getD i []).all (λj=>(DH (ops.getD i default)).contains j))&&
 (As N).all (λi=>kds.getD i 0 ==0||kds.getD i 0 ==3||(As N).all (λj=>kds.getD j 0 !=2||j ==i||(if j<i then(cl.getD i 0).testBit j else(cl.getD j 0).testBit i)))&&
 (As (Ae ops)).all (λi=>i<N||(As N).all (λj=>(cl.getD i 0).testBit j))&&Ae ops≤N+1&&kds.all (·≤3)
section
variable {P : Program} {n : Nat} {c : Cx} {opsA : Array Oper} {Q : Exit → Act → World → Prop}
theorem G0 (ops:List Oper)(F:Nat→Prop):∀(rest:List Oper) (acc:List Nat),(∀(t:Nat) o,rest[t]? =Ad o→∀e∈DH o,F (Ae acc+t)→F e)→
  (∀(j i:Nat),(acc.getD j 0).testBit i=Af→F j→F i)→∀(j i:Nat),((Kh rest acc).getD j 0).testBit i=Af→F j→F i
 | [],acc,_,h=>h
 | o::rest,acc,hr,h=>by
  unfold Kh;refine G0 ops F rest _ (λt o' ht e he hF=>hr (t+1) o' (by simpa using ht) e he (by simpa[Nat.add_assoc,Nat.add_comm 1 t] using hF)) (λj i hb hF=>?_)
  by_cases hj:j<Ae acc
  ·refine h j i ?_ hF;simpa[Afe hj] using hb
  ·by_cases hj2:j=Ae acc
   ·subst hj2;simp only[Ae2,List.getElem?_append_right (AeG _),Nat.sub_self,List.getElem?_cons_zero,AeE] at hb;have key:∀(es:List Nat) (s0:Nat),(es.foldl (λs e=>s||| 2 ^ e||| acc.getD e 0) s0).testBit i=Af→s0.testBit i=Af∨∃e∈es,e=i∨(acc.getD e 0).testBit i=Af:=by
     intro es
     induction es with
     | nil=>intro s0 h0;exact .inl h0
     | cons e es ih=>
      intro s0 h0;rcases ih _ h0 with h1 | ⟨e',he',h1⟩
      ·simp only[Nat.testBit_or,AeM,Nat.testBit_two_pow,AeA] at h1;rcases h1 with(h1 | h1) | h1
       ·exact .inl h1
       ·exact .inr ⟨e,Aj,.inl h1⟩
       ·exact .inr ⟨e,Aj,.inr h1⟩
      ·exact .inr ⟨e',by simp[he'],h1⟩
    rcases key (DH o) 0 hb with h0 | ⟨e,he,h1 | h1⟩
    ·simp at h0
    ·subst h1;exact hr 0 o rfl e he (by simpa using hF)
    ·exact h e i h1 (hr 0 o rfl e he (by simpa using hF))
   ·have:(acc++[(DH o).foldl (λs e=>s||| 2 ^ e||| acc.getD e 0) 0]).getD j 0=0:=by
     rw[Ae2,List.getElem?_eq_none Am];rfl
    rw[this] at hb;simp at hb
def PB (P:Program)(n:Nat)(c:Cx)(opsA:Array Oper)(Q:Exit→Act→World→Prop)(ops:List Oper)(sp:List Sp)(l0:Fr)(All:List (List Ent)):Nat→List Oper→List (List Ent)→Prop
 | i,o::rest,H::H'::Hs=>
  (match (E4 sp i).kd with
   | 0=>H'=H∧∀H,Ef P n c opsA Q (CA ops sp (E4 sp i).deps l0) H o (E4 sp i).r H
   | 1=>H'=H∧Ef P n c opsA Q (CA ops sp (E4 sp i).deps l0) H o (E4 sp i).r H
   | 3=>H'=H∧∀H∈All,Ef P n c opsA Q (CA ops sp (E4 sp i).deps l0) H o (E4 sp i).r H
   | _=>Ef P n c opsA Q (CA ops sp (E4 sp i).deps l0) H o (E4 sp i).r H')∧PB P n c opsA Q ops sp l0 All (i+1) rest (H'::Hs)
 | _,[],[_]=>True
 | _,_,_=>False
theorem PB.at {ops:List Oper}{sp:List Sp}{l0:Fr}{All:List (List Ent)}:∀{k:Nat} {rest:List Oper} {Hs:List (List Ent)},PB P n c opsA Q ops sp l0 All k rest Hs→Ae Hs=Ae rest+1∧∀(t:Nat) o,rest[t]? =Ad o→
  (match (E4 sp (k+t)).kd with
   | 0=>Hs.getD (t+1) []=Hs.getD t []∧∀H,Ef P n c opsA Q (CA ops sp (E4 sp (k+t)).deps l0) H o (E4 sp (k+t)).r H
   | 1=>Hs.getD (t+1) []=Hs.getD t []∧Ef P n c opsA Q (CA ops sp (E4 sp (k+t)).deps l0) (Hs.getD t []) o (E4 sp (k+t)).r (Hs.getD t [])
   | 3=>Hs.getD (t+1) []=Hs.getD t []∧∀H∈All,Ef P n c opsA Q (CA ops sp (E4 sp (k+t)).deps l0) H o (E4 sp (k+t)).r H
   | _=>Ef P n c opsA Q (CA ops sp (E4 sp (k+t)).deps l0) (Hs.getD t []) o (E4 sp (k+t)).r (Hs.getD (t+1) []))
 | k,o::rest,H::H'::Hs,⟨h1,h2⟩=>by
  obtain⟨hl,ih⟩:=PB.at h2;refine⟨by simp at hl ⊢;omega,λt o' ht=>?_⟩
  cases t with
  | zero=>simp at ht;subst ht;simpa using h1
  | succ t=>
   have:=ih t o' (by simpa using ht);rw[show k+(t+1)=k+1+t from Ab];simpa using this
 | _,[],[_],_=>⟨rfl,λt o h=>by simp at h⟩
theorem HJ:∀{l:Fr} {i:Nat} {r:Rp},look l i=Ad r→i∈Es l
 | [],i,r,h=>by simp[look] at h
 | p::l,i,r,h=>by
  obtain⟨j,u⟩:=p;rw[Ds] at h
  split at h
  ·rename_i e;subst e;simp[Es]
  ·simp only[Es,AeO,List.mem_cons];exact .inr (HJ h)
theorem Iq {ops:List Oper}{sp:List Sp}{l0:Fr}{a:Act}{Z:Fz}(h0:DU n l0 a Z):∀{ds:List Nat},(∀j∈ds,∀d,CD ops j=Ad d→∃v,a.tmps[d]? =Ad v∧(E4 sp j).r.p Z v)→DU n (CA ops sp ds l0) a Z
 | [],_=>h0
 | j::ds,h=>by
  have ih:=Iq h0 (ds:=ds) (λj' hj'=>h j' (by simp[hj']));unfold CA
  cases hd:CD ops j with
  | none=>exact ih
  | some d=>
   refine⟨ih.size,ih.defers,λi r hi=>?_⟩;rw[Ds] at hi
   split at hi
   ·rename_i e;subst e;simp at hi;subst hi;exact h j Aj d hd
   ·exact ih.tm i r hi
theorem LM {pre last:List Oper}(sp:List Sp)(Hs:List (List Ent)){l:Fr}(hm:P.follows .mixedOrders=Af)
  (hB:okB n (pre++last) (Ae pre) (Es l0) (sp.map (·.deps)) (sp.map (·.kd))=Af) (hl0:ND l0 l) (hsp:Ae sp=Ae pre) (hH:Hs.getD 0 []=H)
  (hob:PB P n c (pre++last).toArray Q (pre++last) sp l0 Hs 0 pre Hs)
  (h:WL P n c (pre++last).toArray Q last (CA (pre++last) sp (As (Ae pre)) l0) (Hs.getD (Ae pre) [])):WC P n c (.region id (pre++last).toArray Af) Q l H:=by
 intro a w Z ha hw;generalize hops:pre++last=ops at *;obtain⟨hHl,hat⟩:=hob.at;simp only[okB,Ae9,AeJ,List.mem_range,AeA] at hB;obtain⟨⟨⟨⟨⟨⟨b1,b2⟩,b3⟩,b4⟩,b5⟩,b6⟩,b7⟩:=hB;have hN:Ae pre≤Ae ops:=by rw[← hops];simp
 have hget:∀i,i<Ae pre→ops[i]? =pre[i]?:=λi hi=>by rw[← hops,Afe hi]
 have hkd:∀i,i<Ae pre→(sp.map (·.kd)).getD i 0=(E4 sp i).kd:=λi hi=>by
  simp[E4,Ae2,AeC,Ae3 (show i<Ae sp by omega)]
 have hdp:∀i,i<Ae pre→(sp.map (·.deps)).getD i []=(E4 sp i).deps:=λi hi=>by
  simp[E4,Ae2,AeC,Ae3 (show i<Ae sp by omega)]
 have hconst:∀(k b:Nat),b+k≤Ae pre→(∀j,b≤j→j<b+k→(E4 sp j).kd≠2)→Hs.getD (b+k) []=Hs.getD b []:=by
  intro k
  induction k with
  | zero=>intro b _ _;rfl
  | succ k ih=>
   intro b hb hj;have hlt:b+k<Ae pre:=Ab
   have h1:=hat (b+k) pre[b+k] (Ae3 hlt);rw[AeK] at h1;have hk2:(E4 sp (b+k)).kd≤3:=by
    have:=b7 ((sp.map (·.kd)).getD (b+k) 0) (by
     rw[Ae2,Ae3 Am];exact List.getElem_mem _)
    rw[hkd _ hlt] at this;exact this
   have hne:=hj (b+k) Ab Ab;have e1:Hs.getD (b+k+1) []=Hs.getD (b+k) []:=by
    match hq:(E4 sp (b+k)).kd,h1 with
    | 0,h1=>exact h1.1
    | 1,h1=>exact h1.1
    | 2,_=>exact absurd hq hne
    | 3,h1=>exact h1.1
    | q+4,_=>omega
   rw[show b+(k+1)=b+k+1 from Ab,e1];exact ih b Ab (λj h1 h2=>hj j h1 Ab)
 refine wp_region_any hm ?_;have main:∀(fuel:Nat) (listed:Array Bool) (a:Act) (w:World) (Z:Fz) (m:Nat),listed.size=Ae ops→listed.toList.count Ah=fuel→m≤Ae pre→
   St c (Hs.getD m []) Z w→DU n l0 a Z→(∀j,j<Ae pre→listed.getD j Af=Af→∀d,CD ops j=Ad d→∃v,a.tmps[d]? =Ad v∧(E4 sp j).r.p Z v)→
   (∀j,j<Ae pre→(E4 sp j).kd=2→(listed.getD j Af=Af↔j<m))→(∀j o,ops[j]? =Ad o→listed.getD j Af=Af→∀e∈DH o,listed.getD e Af=Af)→
   (∀j,Ae pre≤j→j<Ae ops→listed.getD j Af=Ah)→wpAny P .any ops.toArray Q fuel listed a w:=by
  have rdy:∀(listed:Array Bool),listed.size=Ae ops→Region.ready .any ops.toArray listed=[]→∀j,j<Ae ops→listed.getD j Af=Af:=by
   intro listed hsz hr j
   induction j using Nat.strongRecOn with
   | ind j ih=>
    intro hj
    cases hb:listed.getD j Af with
    | true=>rfl
    | false=>
     have:j∈Region.ready .any ops.toArray listed:=mem_ready.2 ⟨hb,ops[j],by simp[hj],λe he hbn=>by
      have h1:=b1 j hj;rw[Ae2,Ae3 hj] at h1;have hlt:e.on<j:=h1 e.on (by
       simp only[DH,AeE,List.mem_map,List.mem_filter];exact⟨e,⟨by simpa using he,hbn⟩,rfl⟩)
      have:=ih e.on hlt Ab;rw[Array.getD_eq_getD_getElem?] at this ⊢;rw[Array.getElem?_eq_getElem Ab] at this ⊢;simpa using this⟩
     rw[hr] at this;cases this
  have fin:∀(listed:Array Bool) (a:Act) (w:World) (Z:Fz) (m:Nat),listed.size=Ae ops→m≤Ae pre→St c (Hs.getD m []) Z w→DU n l0 a Z→(∀j,j<Ae pre→listed.getD j Af=Af)→
    (∀j,j<Ae pre→listed.getD j Af=Af→∀d,CD ops j=Ad d→∃v,a.tmps[d]? =Ad v∧(E4 sp j).r.p Z v)→
    (∀j,j<Ae pre→(E4 sp j).kd=2→(listed.getD j Af=Af↔j<m))→wpList P ops.toArray Q last a w:=by
   intro listed a w Z m hsz hmN hst hag hall hv hloud;refine h a w Z (Iq hag (λj hj d hd=>hv j (by simpa using hj) (hall j (by simpa using hj)) d hd)) ?_;have:=hconst (Ae pre-m) m Ab (λj h1 h2 h3=>by
    have:=(hloud j Ab h3).1 (hall j Ab);omega)
   rw[show m+(Ae pre-m)=Ae pre from Ab] at this;rw[this];exact hst
  intro fuel
  induction fuel with
  | zero=>
   intro listed a w Z m hsz hcnt hmN hst hag hv hloud hcl hlast;have hall:∀j,j<Ae ops→listed.getD j Af=Af:=λj hj=>by
    cases hb:listed.getD j Af with
    | true=>rfl
    | false=>
     have:Ah∈listed.toList:=by
      rw[Array.getD_eq_getD_getElem?,Array.getElem?_eq_getElem Ab] at hb;simp at hb;rw[← hb];simp
     have:=List.count_pos_iff.2 this;omega
   have hl0':last=[]:=by
    cases last with
    | nil=>rfl
    | cons o r=>
     have hlt:Ae pre<Ae ops:=by rw[← hops];simp
     have:=hall (Ae pre) hlt;rw[hlast (Ae pre) (AeG _) hlt] at this;cases this
   subst hl0';refine⟨?_,fin listed a w Z m hsz hmN hst hag (λj hj=>hall j Ab) hv hloud⟩
   cases hr:Region.ready .any ops.toArray listed with
   | nil=>rfl
   | cons i r=>
    have hi:i∈Region.ready .any ops.toArray listed:=by rw[hr];simp
    obtain⟨h1,o,ho,_⟩:=mem_ready.1 hi;rw[hall i (by have:=(Array.getElem?_eq_some_iff.1 ho).1;simpa using this)] at h1;cases h1
  | succ fuel ih=>
   intro listed a w Z m hsz hcnt hmN hst hag hv hloud hcl hlast;have clo:∀(j i:Nat),((Kh ops []).getD j 0).testBit i=Af→listed.getD j Af=Af→listed.getD i Af=Af:=
    G0 ops (λi=>listed.getD i Af=Af) ops [] (λt o ht e he hF=>hcl t o ht (by simpa using hF) e he) (λj i hb=>by simp at hb)
   refine⟨λhr=>?_,λi hi=>?_⟩
   ·have hall:=rdy listed hsz hr;have:listed.toList.count Ah=0:=by
     rw[List.count_eq_zero];intro hmem;obtain⟨k,hk⟩:=List.getElem?_of_mem hmem;have hkl:=(List.getElem?_eq_some_iff.1 hk).1;have:=hall k (by simpa[hsz] using hkl);rw[Array.getD_eq_getD_getElem?] at this;simp at hk this;rw[hk] at this;simp at this
    omega
   ·obtain⟨hun,o,ho,haft⟩:=mem_ready.1 hi;have ho':ops[i]? =Ad o:=by simpa using ho
    have hil:i<Ae ops:=(List.getElem?_eq_some_iff.1 ho').1;have hbl:∀e∈DH o,listed.getD e Af=Af:=λe he=>by
     simp only[DH,List.mem_map,List.mem_filter] at he;obtain⟨x,⟨hx1,hx2⟩,rfl⟩:=he;have h3:=haft x (by simpa using hx1) hx2;rw[Array.getD_eq_getD_getElem?] at h3 ⊢
     cases hq:listed[x.on]? with
     | none=>rw[hq] at h3;cases h3
     | some b=>rw[hq] at h3;simpa using h3
    have hset:∀j,(listed.setIfInBounds i Af).getD j Af=Af↔(j=i∨listed.getD j Af=Af):=λj=>by
     by_cases hj:i=j
     ·subst hj;have:i<listed.size:=Ab
      simp[this]
     ·rw[getD_set_ne Af hj];constructor
      ·exact .inr
      ·rintro(h1 | h1)
       ·exact absurd h1.symm hj
       ·exact h1
    have hsz':(listed.setIfInBounds i Af).size=Ae ops:=by simpa using hsz
    have hcnt':(listed.setIfInBounds i Af).toList.count Ah=fuel:=by
     have hlt:i<listed.size:=Ab
     have hfi:listed.toList[i]? =Ad Ah:=by
      rw[Array.getD_eq_getD_getElem?,Array.getElem?_eq_getElem hlt] at hun;simp at hun;simp[hlt,hun]
     rw[Array.toList_setIfInBounds];have h1:=List.count_set (a:=Af) (b:=Ah) (l:=listed.toList) (i:=i) (by simpa using hlt);have h2:listed.toList[i]'(by simpa using hlt)=Ah:=by
      have:=List.getElem?_eq_some_iff.1 hfi;exact this.2
     rw[h1,h2,hcnt];rfl
    have hcl':∀j o,ops[j]? =Ad o→(listed.setIfInBounds i Af).getD j Af=Af→∀e∈DH o,(listed.setIfInBounds i Af).getD e Af=Af:=λj o' hj hl e he=>by
     rw[hset] at hl ⊢;rcases hl with rfl | hl
     ·rw[ho'] at hj;simp at hj;subst hj;exact .inr (hbl e he)
     ·exact .inr (hcl j o' hj hl e he)
    unfold wpOp;have hoA:ops.toArray[i]? =Ad o:=ho;simp only[hoA]
    by_cases hiN:i<Ae pre
    · -- one of those at the front
     have hpre:pre[i]? =Ad o:=by rw[← hget i hiN];exact ho'
     have h1:=hat i o hpre;rw[AeK] at h1;have hag':DU n (CA ops sp (E4 sp i).deps l0) a Z:=Iq hag (λj hj d hd=>by
      have h3:=b3 i hiN;rw[hdp i hiN] at h3;have h4:=h3 j hj;rw[Ae2,ho',AeE,List.contains_iff_mem] at h4;have hlj:=hbl j h4;have hji:j<i:=by
       have:=b1 i hil;rw[Ae2,ho',AeE] at this;exact this j h4
      exact hv j Ab hlj d hd)
     have hdst:∀d,o.dst=Ad d→(d<n∧d ∉ Es l0)∧∀j,j<Ae pre→j≠i→CD ops j≠Ad d:=λd hd=>by
      have h3:=b2 i hiN;have:CD ops i=Ad d:=by simp[CD,ho',hd]
      rw[this] at h3;simp only[Ae9,AeU,AeJ,List.mem_range,AeA] at h3;refine⟨⟨h3.1.1,λhmem=>by rw[← List.contains_iff_mem] at hmem;rw[hmem] at h3;cases h3.1.2⟩,λj hj hne he=>?_⟩;have:=h3.2 j hj;simp[hne,he] at this
     have after:∀(v:Value) (w':World) (Z':Fz) (m':Nat),m'≤Ae pre→Fz.le Z Z'→(o.dst≠Ai→(E4 sp i).r.p Z' v)→St c (Hs.getD m' []) Z' w'→
       (∀j,j<Ae pre→(E4 sp j).kd=2→((listed.setIfInBounds i Af).getD j Af=Af↔j<m'))→wpAny P .any ops.toArray Q fuel (listed.setIfInBounds i Af) (a.put o.dst v) w':=by
      intro v w' Z' m' hm' hz hp hst' hloud';have hput:∀k u,a.tmps[k]? =Ad u→o.dst≠Ad k→(a.put o.dst v).tmps[k]? =Ad u:=λk u hk hne=>by
       cases hd:o.dst with
       | none=>simpa[Act.put] using hk
       | some d=>
        simp only[Act.put,Array.getElem?_setIfInBounds];rw[AeN (λe=>hne (by rw[hd,e]))];exact hk
      refine ih _ _ _ Z' m' hsz' hcnt' hm' hst' ⟨?_,?_,λk r hk=>?_⟩ (λj hj hl d hd=>?_) hloud' hcl' (λj h1 h2=>?_)
      ·cases o.dst<;>simp[Act.put,hag.size]
      ·cases o.dst<;>simp[Act.put,hag.defers]
      ·obtain⟨u,hu,hpu⟩:=hag.tm k r hk;exact⟨u,hput k u hu (λe=>(hdst k e).1.2 (HJ hk)),r.mono hz hpu⟩
      ·by_cases hji:j=i
       ·subst hji;have hod:o.dst=Ad d:=by simpa[CD,ho'] using hd
        refine⟨v,?_,hp (by simp[hod])⟩;have hdn:d<a.tmps.size:=by rw[hag.size];exact(hdst d hod).1.1
        simp[Act.put,hod,hdn]
       ·rw[hset] at hl;rcases hl with hl | hl
        ·exact absurd hl hji
        ·obtain⟨u,hu,hpu⟩:=hv j hj hl d hd;exact⟨u,hput d u hu (λe=>(hdst d e).2 j hj hji hd),(E4 sp j).r.mono hz hpu⟩
      ·rw[getD_set_ne Af Ab];exact hlast j h1 h2
     have loudSame:(E4 sp i).kd≠2→∀j,j<Ae pre→(E4 sp j).kd=2→((listed.setIfInBounds i Af).getD j Af=Af↔j<m):=λhne j hj hk=>by
      rw[hset,← hloud j hj hk];constructor
      ·rintro(h1 | h1)
       ·subst h1;exact absurd hk hne
       ·exact h1
      ·exact .inr
     have level:(E4 sp i).kd≠0∧(E4 sp i).kd≠3→Hs.getD i []=Hs.getD m []∧∀j,j<Ae pre→(E4 sp j).kd=2→j≠i→(listed.getD j Af=Af↔j<i):=λhne=>by
      have ord:∀j,j<Ae pre→(E4 sp j).kd=2→j≠i→(listed.getD j Af=Af↔j<i):=λj hj hk hji=>by
       have h3:=b4 i hiN;rw[hkd i hiN,AeM,AeM,beq_iff_eq,beq_iff_eq] at h3;rcases h3 with(h3 | h3) | h3
       ·exact absurd h3 hne.1
       ·exact absurd h3 hne.2
       ·rw[AeJ] at h3;have h4:=h3 j (by simpa using hj);rw[hkd j hj,hk] at h4;simp only[bne_self_eq_false,AeH,AeM,beq_iff_eq,hji,false_or] at h4
        by_cases hlt:j<i
        ·rw[AeX hlt] at h4;have:listed.getD j Af=Af:=by
          have hcl2:∀(k q:Nat),((Kh ops []).getD k 0).testBit q=Af→(k=i∨listed.getD k Af=Af)→(q=i∨listed.getD q Af=Af):=
           G0 ops (λk=>k=i∨listed.getD k Af=Af) ops [] (λt o' ht e he hF=>by
            rcases hF with hF | hF
            ·simp at hF;subst hF;rw[ho'] at ht;simp at ht;subst ht;exact .inr (hbl e he)
            ·exact .inr (hcl t o' ht (by simpa using hF) e he)) (λj i hb=>by simp at hb)
          rcases hcl2 i j h4 (.inl rfl) with h5 | h5
          ·exact absurd h5 hji
          ·exact h5
         exact⟨λ_=>hlt,λ_=>this⟩
        ·rw[AeN hlt] at h4;refine⟨λh5=>?_,λh5=>absurd h5 hlt⟩;have:=clo j i h4 h5;rw[this] at hun;cases hun
      refine⟨?_,ord⟩;rcases Nat.le_total m i with hmi | hmi
      ·have:=hconst (i-m) m Ab (λj h1 h2 h3=>by
        have h4:=(ord j Ab h3 Ab).2 Ab;have:=(hloud j Ab h3).1 h4;omega)
       rw[show m+(i-m)=i from Ab] at this;exact this
      ·have:=hconst (m-i) i Ab (λj h1 h2 h3=>by
        have h4:=(hloud j Ab h3).2 Ab
        by_cases hji:j=i
        ·subst hji;rw[h4] at hun;cases hun
        ·have:=(ord j Ab h3 hji).1 h4;omega)
       rw[show i+(m-i)=m from Ab] at this;exact this.symm
     have step:∀H',Ef P n c ops.toArray Q (CA ops sp (E4 sp i).deps l0) (Hs.getD m []) o (E4 sp i).r H'→(∃m',m'≤Ae pre∧H'=Hs.getD m' []∧∀j,j<Ae pre→(E4 sp j).kd=2→((listed.setIfInBounds i Af).getD j Af=Af↔j<m'))→
       (if Region.wanted o (yielded ops.toArray a.tmps) then o.wp P a w (wpAny P .any ops.toArray Q fuel (listed.setIfInBounds i Af)) Q∨(o.asks P a w∧LetsOut Q) else wpAny P .any ops.toArray Q fuel (listed.setIfInBounds i Af) (a.put o.dst undef) w):=λH' hok ⟨m',hm',hHm,hl'⟩=>by
      obtain⟨k1,k2⟩:=hok a w Z (wpAny P .any ops.toArray Q fuel (listed.setIfInBounds i Af)) hag' hst (λv w' Z' hz hp hs=>after v w' Z' m' hm' hz (λ_=>hp) (by rw[← hHm];exact hs) hl')
      split
      ·rename_i hw';exact .inl (k1 hw')
      ·rename_i hw';exact k2 (by simpa using hw')
     have hk2:(E4 sp i).kd≤3:=by
      have:=b7 ((sp.map (·.kd)).getD i 0) (by
       rw[Ae2,Ae3 Am];exact List.getElem_mem _)
      rw[hkd _ hiN] at this;exact this
     match hq:(E4 sp i).kd,h1 with
     | 0,h1=>exact step _ (h1.2 _) ⟨m,hmN,rfl,loudSame Ab⟩
     | 1,h1=>
      obtain⟨e1,e2⟩:=level ⟨Ab,Ab⟩;refine step _ (by rw[← e1];exact h1.2) ⟨m,hmN,e1,loudSame Ab⟩
     | 2,h1=>
      obtain⟨e1,e2⟩:=level ⟨Ab,Ab⟩;refine step _ (by rw[← e1];exact h1) ⟨i+1,Ab,rfl,λj hj hk=>?_⟩;rw[hset]
      by_cases hji:j=i
      ·subst hji;simp
      ·rw[e2 j hj hk hji];simp[hji];omega
     | 3,h1=>exact step _ (h1.2 _ (by
      rw[Ae2,Ae3 Ab];exact List.getElem_mem _)) ⟨m,hmN,rfl,loudSame Ab⟩
     | q+4,_=>omega
    · -- the last one
     have hNi:i=Ae pre:=Ab
     have hlast1:∃r,last=o::r:=by
      cases last with
      | nil=>rw[← hops] at hil;simp at hil;omega
      | cons o' r=>
       rw[← hops,hNi] at ho';simp at ho';exact⟨r,by rw[ho']⟩
     obtain⟨r,rfl⟩:=hlast1;have hr:r=[]:=by
      have:=b6;rw[← hops] at this;simp at this
      cases r with
      | nil=>rfl
      | cons _ _=>simp at this
     subst hr;have hall:∀j,j<Ae pre→listed.getD j Af=Af:=λj hj=>by
      have hcl2:∀(k q:Nat),((Kh ops []).getD k 0).testBit q=Af→(k=i∨listed.getD k Af=Af)→(q=i∨listed.getD q Af=Af):=
       G0 ops (λk=>k=i∨listed.getD k Af=Af) ops [] (λt o' ht e he hF=>by
        rcases hF with hF | hF
        ·simp at hF;subst hF;rw[ho'] at ht;simp at ht;subst ht;exact .inr (hbl e he)
        ·exact .inr (hcl t o' ht (by simpa using hF) e he)) (λj i hb=>by simp at hb)
      have h5:=b5 i hil;simp only[AeM,AeA,AeJ,List.mem_range] at h5;rcases h5 with h5 | h5
      ·omega
      ·rcases hcl2 i j (h5 j hj) (.inl rfl) with h6 | h6
       ·omega
       ·exact h6
     have hf:=fin listed a w Z m hsz hmN hst hag hall hv hloud;have kk:∀a' w',Q .normal a' w'→wpAny P .any ops.toArray Q fuel (listed.setIfInBounds i Af) a' w':=λa' w' hq=>by
      have hall':∀j,j<Ae ops→(listed.setIfInBounds i Af).getD j Af=Af:=λj hj=>by
       rw[hset]
       by_cases hji:j=i
       ·exact .inl hji
       ·refine .inr (hall j ?_);have:Ae ops=Ae pre+1:=by rw[← hops];simp
        omega
      have hnr:Region.ready .any ops.toArray (listed.setIfInBounds i Af)=[]:=by
       cases hr:Region.ready .any ops.toArray (listed.setIfInBounds i Af) with
       | nil=>rfl
       | cons k r=>
        have hk:k∈Region.ready .any ops.toArray (listed.setIfInBounds i Af):=by rw[hr];simp
        obtain⟨h1,o2,ho2,_⟩:=mem_ready.1 hk;rw[hall' k (by have:=(Array.getElem?_eq_some_iff.1 ho2).1;simpa using this)] at h1;cases h1
      cases fuel with
      | zero=>exact⟨hnr,hq⟩
      | succ f=>exact⟨λ_=>hq,λk hk=>by rw[hnr] at hk;cases hk⟩
     simp only[wpList] at hf
     split
     ·rename_i hw'
      rw[AeX hw'] at hf;exact hf.imp (λh=>Oper.wp_mono kk h) (λh=>h)
     ·rename_i hw'
      rw[AeN hw'] at hf;exact kk _ _ hf
 have e0:∀j,j<Ae ops→(Array.replicate (Ae ops) Ah).getD j Af=Ah:=λj hj=>by simp[hj]
 have hsz0:ops.toArray.size=Ae ops:=Aj
 rw[hsz0];refine main (Ae ops) (Array.replicate (Ae ops) Ah) a _ Z 0 Aj Aj (AeR _) (by rw[hH];exact hw.drawn _) (ha.subL hl0) (λj hj hl=>?_) (λj hj _=>?_) (λj o hj hl=>?_) (λj _ h2=>e0 j h2)
 ·rw[e0 j Ab] at hl;cases hl
 ·rw[e0 j Ab];simp
 ·rw[e0 j (List.getElem?_eq_some_iff.1 hj).1] at hl;cases hl
section
variable {ops : List Oper} {sp : List Sp} {l0 l : Fr} {H H' : List Ent} {Hs All : List (List Ent)} {i : Nat} {o : Oper} {rest all : List Oper}
theorem VO (hk:(E4 sp i).kd=0)(h:∀H,Ef P n c opsA Q (CA all sp (E4 sp i).deps l0) H o (E4 sp i).r H)(hr:PB P n c opsA Q all sp l0 All (i+1) rest (H::Hs)):PB P n c opsA Q all sp l0 All i (o::rest) (H::H::Hs):=by
 refine⟨?_,hr⟩;rw[hk];exact⟨rfl,h⟩
theorem Abs (hk:(E4 sp i).kd=1)(h:Ef P n c opsA Q (CA all sp (E4 sp i).deps l0) H o (E4 sp i).r H)(hr:PB P n c opsA Q all sp l0 All (i+1) rest (H::Hs)):PB P n c opsA Q all sp l0 All i (o::rest) (H::H::Hs):=by
 refine⟨?_,hr⟩;rw[hk];exact⟨rfl,h⟩
theorem VP (hk:(E4 sp i).kd=2)(h:Ef P n c opsA Q (CA all sp (E4 sp i).deps l0) H o (E4 sp i).r H')(hr:PB P n c opsA Q all sp l0 All (i+1) rest (H'::Hs)):PB P n c opsA Q all sp l0 All i (o::rest) (H::H'::Hs):=by
 refine⟨?_,hr⟩;rw[hk];exact h
theorem SF:PB P n c opsA Q all sp l0 All i [] [H]:=trivial
def LI:List Oper→List Sp→Fr→Fr
 | o::os,s::sp,l=>match o.dst with
  | some d=>(d,s.r)::LI os sp l
  | none=>LI os sp l
 | _,_,l=>l
theorem PD {all:List Oper}{sp:List Sp}{l0:Fr}:∀(os:List Oper) (ss:List Sp) (k:Nat),os=all.drop k→ss=sp.drop k→Ae ss=Ae os→CA all sp (List.range' k (Ae os)) l0=LI os ss l0
 | [],_,_,_,_,_=>by cases ‹List Sp›<;>rfl
 | o::os,[],_,_,_,h=>by simp at h
 | o::os,s::ss,k,ho,hs,h=>by
  have e1:all[k]? =Ad o:=by
   have:=congrArg (·[0]?) ho;simp at this;exact this.symm
  have e2:sp[k]? =Ad s:=by
   have:=congrArg (·[0]?) hs;simp at this;exact this.symm
  have ih:=PD (l0:=l0) os ss (k+1) (by have:=congrArg List.tail ho;simpa using this) (by have:=congrArg List.tail hs;simpa using this) (by simpa using h);simp only[AeL,List.range'_succ];unfold CA LI;rw[ih];simp only[CD,E4,e1,e2,Option.bind_some,Ae2,AeE]
  cases o.dst<;>rfl
structure Kz (ks:List Nat) (os:List Oper) (sp:List Sp) (l0 l1:Fr):Prop where
 go:Kp ks (LI os sp l0) l1
theorem Aaq {d:Nat}{ty:TypeId}{ds:List Nat}{kd:Nat}{sp:List Sp}{l0:Fr}(h:ks.contains d=Af)(t:Kz ks os sp l0 l1) :
  Kz ks ({ dst:=Ad d,op:=op,type:=ty,pos:=pos,after:=af,guard:=g }::os) (⟨ds,r,kd⟩::sp) l0 ((d,r)::l1):=⟨Iy h t.go⟩
theorem Aas {d:Nat}{ty:TypeId}{ds:List Nat}{kd:Nat}{sp:List Sp}{l0:Fr}(h:ks.contains d=Ah)(t:Kz ks os sp l0 l1) :
  Kz ks ({ dst:=Ad d,op:=op,type:=ty,pos:=pos,after:=af,guard:=g }::os) (⟨ds,r,kd⟩::sp) l0 l1:=⟨Jx h t.go⟩
theorem Aar {ty:TypeId}{s:Sp}{sp:List Sp}{l0:Fr}(t:Kz ks os sp l0 l1) :
  Kz ks ({ dst:=Ai,op:=op,type:=ty,pos:=pos,after:=af,guard:=g }::os) (s::sp) l0 l1:=⟨t.go⟩
theorem Aat {l0:Fr}(t:Kp ks l0 l1):Kz ks [] [] l0 l1:=⟨t⟩
theorem OF {l0:Fr}(ks0:List Nat)(sp:List Sp)(Hs:List (List Ent))(ks:List Nat)
  (hob:PB P n c os.toArray Q os sp l0 Hs 0 os Hs) (h:WK n c (Q .normal) l1 H1)
  (h0:Kp ks0 l l0:=by repeat (first | exact JY | (apply Iy;rfl) | (apply Jx;rfl)))
  (hz:Kz ks os sp l0 l1:=by repeat (first | (apply Aaq;rfl) | (apply Aas;rfl) | apply Aar | apply Aat | exact JY | (apply Iy;rfl) | (apply Jx;rfl)))
  (hm:P.follows .mixedOrders=Af:=by kernel_rfl) (hB:okB n os (Ae os) (Es l0) (sp.map (·.deps)) (sp.map (·.kd))=Af:=by kernel_rfl)
  (hsp:Ae sp=Ae os:=by rfl) (hH:Hs.getD 0 []=H:=by rfl) (hH1:Hs.getD (Ae os) []=H1:=by rfl):WC P n c (.region id os.toArray Af) Q l H:=by
 have hk:WK n c (Q .normal) (CA os sp (As (Ae os)) l0) (Hs.getD (Ae os) []):=λa w Z ha hw=>h a w Z (ha.subL (by
   have e:=PD (all:=os) (sp:=sp) (l0:=l0) os sp 0 Aj Aj hsp;rw[List.range_eq_range',e];exact hz.go.one)) (by rw[← hH1];exact hw)
 have:=LM (Q:=Q) (id:=id) (pre:=os) (last:=[]) sp Hs (l0:=l0) (l:=l) (H:=H) hm (by simpa using hB) h0.one hsp hH (by simpa using hob) (AL (by simpa using hk));simpa using this
theorem XN {l0:Fr}(N:Nat)(ks0:List Nat)(sp:List Sp)(Hs:List (List Ent))(ks:List Nat)
  (hob:PB P n c os.toArray Q os sp l0 Hs 0 (os.take N) Hs) (h:WL P n c os.toArray Q (os.drop N) l1 H1)
  (h0:Kp ks0 l l0:=by repeat (first | exact JY | (apply Iy;rfl) | (apply Jx;rfl)))
  (hz:Kz ks (os.take N) sp l0 l1:=by repeat (first | (apply Aaq;rfl) | (apply Aas;rfl) | apply Aar | apply Aat | exact JY | (apply Iy;rfl) | (apply Jx;rfl)))
  (hm:P.follows .mixedOrders=Af:=by kernel_rfl) (hN:Nat.ble N (Ae os)=Af:=by rfl) (hB:okB n os N (Es l0) (sp.map (·.deps)) (sp.map (·.kd))=Af:=by kernel_rfl)
  (hsp:Ae sp=N:=by rfl) (hH:Hs.getD 0 []=H:=by rfl) (hH1:Hs.getD N []=H1:=by rfl):WC P n c (.region id os.toArray Af) Q l H:=by
 have hN':N≤Ae os:=by simpa using hN
 have hl:Ae (os.take N)=N:=by simp[hN']
 have hk:WL P n c os.toArray Q (os.drop N) (CA os sp (As N) l0) (Hs.getD N []):=λa w Z ha hw=>h a w Z (ha.subL (by
  have key:∀M,M≤N→CA os sp (List.range' (N-M) M) l0=LI ((os.take N).drop (N-M)) (sp.drop (N-M)) l0:=by
   intro M
   induction M with
   | zero=>intro _;simp[hsp,CA,LI,List.drop_of_length_le,hl]
   | succ M ih=>
    intro hM;have ih:=ih Ab;have e1:(os.take N).drop (N-(M+1))=(os[N-(M+1)]'(Ab))::(os.take N).drop (N-M):=by
     rw[List.drop_eq_getElem_cons Ab];simp[show N-(M+1)+1=N-M from Ab]
    have e2:sp.drop (N-(M+1))=(sp[N-(M+1)]'(Ab))::sp.drop (N-M):=by
     rw[List.drop_eq_getElem_cons Ab];simp[show N-(M+1)+1=N-M from Ab]
    rw[List.range'_succ,show N-(M+1)+1=N-M from Ab,e1,e2];unfold CA LI;rw[ih];simp only[CD,E4,Ae2,Ae3 (show N-(M+1)<Ae os from Ab),Ae3 (show N-(M+1)<Ae sp from Ab),Option.bind_some,AeE]
    cases(os[N-(M+1)]'(Ab)).dst<;>rfl
  have:=key N (AeG _);simp only[Nat.sub_self,List.drop_zero] at this;rw[List.range_eq_range',this];exact hz.go.one)) (by rw[← hH1];exact hw)
 have:=LM (P:=P) (n:=n) (c:=c) (Q:=Q) (id:=id) (pre:=os.take N) (last:=os.drop N) sp Hs (l0:=l0) (l:=l) (H:=H) hm (by rw[Afd,hl];exact hB) h0.one (by rw[hl];exact hsp) hH (by rw[Afd];exact hob) (by rw[Afd,hl];exact hk)
 rwa [Afd] at this
end
section
variable {l : Fr} {H H' : List Ent} {d : Nat} {op : Op} {ty : TypeId} {pos : String} {af : Array Edge} {r : Rp}
theorem C6 (hr:Cd P n c l H { dst:=Ad d,op:=op,type:=ty,pos:=pos,after:=af,guard:=Ai } r):Ef P n c opsA Q l H { dst:=Ad d,op:=op,type:=ty,pos:=pos,after:=af,guard:=Ai } r H:=λa w Z K ha hw hK=>
 ⟨λ_=>by
  obtain⟨v,hv,he⟩:=hr a w Z ha hw;unfold Oper.wp;rw[he];exact hK v w Z (Fz.le.refl _) hv hw,λh=>by simp[Region.wanted] at h⟩
theorem Zr {d:Option Nat}(hj:DP opsA j=Ad dj)(hv:look l dj=Ad (rB b))(hb:b=want)
  (h:Ef P n c opsA Q l H { dst:=d,op:=op,type:=ty,pos:=pos,after:=af,guard:=Ai } r H'):Ef P n c opsA Q l H { dst:=d,op:=op,type:=ty,pos:=pos,after:=af,guard:=Ad (j,want) } r H':=λa w Z K ha hw hK=>by
 obtain⟨h1,_⟩:=h a w Z K ha hw hK;have hy:=Ew ha hj hv;subst hb;refine⟨λ_=>h1 (by simp[Region.wanted]),λh2=>?_⟩;simp[Region.wanted,hy] at h2
theorem Aae {d:Option Nat}(hj:DP opsA j=Ad dj)(hv:look l dj=Ad (rB b))(hb:b = !want):Ef P n c opsA Q l H { dst:=d,op:=op,type:=ty,pos:=pos,after:=af,guard:=Ad (j,want) } (rv undef) H:=λa w Z K ha hw hK=>by
 have hy:=Ew ha hj hv;subst hb;refine⟨λh2=>?_,λ_=>hK undef w Z (Fz.le.refl _) rfl hw⟩;simp[Region.wanted,hy] at h2
theorem VL {d:Option Nat}(hj:DP opsA j=Ad dj)(hv:look l dj=Ad (rv undef)):Ef P n c opsA Q l H { dst:=d,op:=op,type:=ty,pos:=pos,after:=af,guard:=Ad (j,want) } (rv undef) H:=λa w Z K ha hw hK=>by
 have hy:=J5 ha hj hv;refine⟨λh2=>?_,λ_=>hK undef w Z (Fz.le.refl _) rfl hw⟩;simp[Region.wanted,hy] at h2
theorem oq {all:List Oper}{sp:List Sp}{rest:List Oper}{Hs All:List (List Ent)}{c:Cx}
  (hr:∀{H},Cd P n c (CA all sp (E4 sp i).deps l0) H { dst:=Ad d,op:=op,type:=ty,pos:=pos,after:=af,guard:=Ai } (E4 sp i).r)
  (h:PB P n c opsA Q all sp l0 All (i+1) rest (H::Hs)) (hk:(E4 sp i).kd=0:=by rfl):PB P n c opsA Q all sp l0 All i ({ dst:=Ad d,op:=op,type:=ty,pos:=pos,after:=af,guard:=Ai }::rest) (H::H::Hs):=VO hk (λ_=>C6 hr) h
theorem of {all:List Oper}{sp:List Sp}{rest:List Oper}{Hs All:List (List Ent)}{c:Cx}
  (hr:Cd P n c (CA all sp (E4 sp i).deps l0) H { dst:=Ad d,op:=op,type:=ty,pos:=pos,after:=af,guard:=Ai } (E4 sp i).r)
  (h:PB P n c opsA Q all sp l0 All (i+1) rest (H::Hs)) (hk:(E4 sp i).kd=1:=by rfl):PB P n c opsA Q all sp l0 All i ({ dst:=Ad d,op:=op,type:=ty,pos:=pos,after:=af,guard:=Ai }::rest) (H::H::Hs):=Abs hk (C6 hr) h
theorem Eh {t e sz:Nat}{xs:List Operand}{zz:Value}(ht:P.underlying t=Ad (.slice e))(hz:∀w,(sizeOf e).run P w = .ok sz w)(hzv:∀w,(zeroValue e).run P w = .ok zz w)
  (hparts:parts.toList=(xs.zipIdx 0).map λp=>(p.2,p.1)) (hlen:Ae ys=len) (hv:Jy l xs=Ad rs) (hc:G2 H rs css) (hcs:css=ys.map enc) (henc:∀z,Ae (enc z)=sz) (hsz:Nat.blt 0 sz=Af) (hle:Nat.ble (len*sz) 16777216=Af):Ef P n c opsA Q l H { dst:=Ad d,op:=.buildSlice t len parts,type:=ty,pos:=pos,after:=af,guard:=Ai } (B3 sz (ys.map enc)) H:=λa w Z K ha hw hK=>
 ⟨λ_=>by
  have hall:=E9 ha hv;obtain⟨h1,h2,h3⟩:=hc.all hw hall;have hsz':0<sz:=by simpa using hsz
  have hle' : ¬ 16777216<len*sz:=by simpa using hle
  have hxl:Ae (xs.map a.eval)=len:=by rw[← h2,hcs,Ae7,hlen]
  have hcell:∀v∈xs.map a.eval,v.cells.size=sz:=λv hv'=>by
   obtain⟨i,hi⟩:=List.getElem?_of_mem hv';have hil:=(List.getElem?_eq_some_iff.1 hi).1;have hil2:i<Ae css:=Ab
   rw[h3 i css[i] v (Ae3 hil2) hi];have:css[i]∈ys.map enc:=by rw[← hcs];exact List.getElem_mem hil2
   obtain⟨z,_,hz'⟩:=List.mem_map.1 this;rw[← hz'];exact henc z
  have hflen:Ae ((xs.map a.eval).flatMap λv=>v.cells.toList)=len*sz:=by
   rw[h1.length,HL (sz:=sz) (λc hc'=>by rw[hcs] at hc';obtain⟨z,_,hz'⟩:=List.mem_map.1 hc';rw[← hz'];exact henc z),hcs,Ae7,hlen]
  have hpe:(parts.map λ(i,x)=>(i,a.eval x)).toList=((xs.map a.eval).zipIdx 0).map λp=>(p.2,p.1):=by
   rw[Array.toList_map,hparts,List.zipIdx_map,AeV,AeV];rfl
  have hrun:(Instr.buildSlice t len (parts.map λ(i,x)=>(i,a.eval x))).run P w = .ok (.slice (Ad ⟨w.heap.size,0,Ai⟩) len len) (w.alloc (.cells ((xs.map a.eval).flatMap λv=>v.cells.toList).toArray e)):=by
   refine VA ht hz hzv hle w ?_;rw[hpe]
   by_cases h0:len*sz=0
   ·have:len=0:=by
     rcases Nat.mul_eq_zero.1 h0 with h | h
     ·exact h
     ·omega
    subst this;have hx0:xs=[]:=by simpa using AeT (by simpa using hxl)
    subst hx0;simp[Instr.fill]
   ·simp only[h0,if_false];exact Great.fill_whole hsz' (xs.map a.eval) _ hcell (by rw[hxl];simp)
  have hal:St c (.row (.slice (Ad ⟨w.heap.size,0,Ai⟩) len len) e sz (ys.map enc)::H) Z (w.alloc (.cells ((xs.map a.eval).flatMap λv=>v.cells.toList).toArray e)):=by
   refine hw.alloc _ (e:=.row (.slice (Ad ⟨w.heap.size,0,Ai⟩) len len) e sz (ys.map enc)) ⟨?_,(xs.map a.eval).flatMap (λv=>v.cells.toList),⟨?_,.inr ⟨w.heap.size,len,_,?_,AeR _,heap_alloc_new w _,?_,?_,?_,?_⟩⟩,?_⟩ (by simp[Ent.foot,Value.ownBlock])
   ·intro cl hcl;obtain⟨z,_,hz'⟩:=List.mem_map.1 hcl;rw[← hz'];exact henc z
   ·rw[hflen,Ae7,hlen]
   ·rw[Ae7,hlen]
   ·rw[Ae7,hlen];exact AeG _
   ·have:len≤len*sz:=Nat.le_mul_of_pos_right _ hsz';simp only[maxLen];omega
   ·simpa using hflen
   ·rw[Ae7,hlen,← hflen];exact List.take_length
   ·rw[← hcs];exact h1
  obtain⟨Z',hz',hst,hsl⟩:=hal.freeze (i:=0) rfl;unfold Oper.wp;rw[show(execOp a.eval { dst:=Ad d,op:=.buildSlice t len parts,type:=ty,pos:=pos,after:=af,guard:=Ai }).run P w = .ok (.value (.slice (Ad ⟨w.heap.size,0,Ai⟩) len len)) (w.alloc (.cells ((xs.map a.eval).flatMap λv=>v.cells.toList).toArray e)) from by simp[execOp,hrun]];exact hK _ _ Z' hz' hsl hst,λh=>by simp[Region.wanted] at h⟩
theorem VN {r r':Rp}(hcall:∀(as1:Array Value) (w:World),(callFunc f as1).run P w = .ok (.enter f as1) w)(hv:Jy l args=Ad rs)
  (hc:Fn0 P c.E f rs r') (hr:r'=r):Ef P n c opsA Q l H { dst:=Ad d,op:=.call { callee:=.value (.func f),args:=args.toArray,argTypes:=ats },type:=ty,pos:=pos,after:=af,guard:=Ai } r H:=λa w Z K ha hw hK=>
 ⟨λ_=>by
  unfold Oper.wp;rw[EW rfl hcall w];refine(hc w Z _ (E9 ha hv) (St.enter (Hin:=[]) (Hr:=H) hw)).mono ?_;rintro e w' ⟨r2,v,Ho,Z',rfl,⟨rfl,rfl⟩,hr2,hs⟩;subst hr;exact hK v w' Z' hs.le hr2 (by simpa using hw.call0 hs),λh=>by simp[Region.wanted] at h⟩
def AcB (P:Program)(n:Nat)(c:Cx)(l:Fr)(H:List Ent)(o:Oper)(H':List Ent):Prop:=∀a w Z,DU n l a Z→St c H Z w→∃w',(execOp a.eval o).run P w = .ok .skip w'∧St c H' Z w'
theorem Aad (hr:AcB P n c l H { dst:=Ai,op:=op,type:=ty,pos:=pos,after:=af,guard:=Ai } H'):Ef P n c opsA Q l H { dst:=Ai,op:=op,type:=ty,pos:=pos,after:=af,guard:=Ai } (rv undef) H':=λa w Z K ha hw hK=>
 ⟨λ_=>by
  obtain⟨w',he,hs⟩:=hr a w Z ha hw;unfold Oper.wp;rw[he];exact hK undef w' Z (Fz.le.refl _) rfl hs,λh=>by simp[Region.wanted] at h⟩
end
section
variable {ops : Array Oper} {rest : List Oper} {l : Fr} {H H' : List Ent} {d : Nat} {d' : Option Nat} {x y : Operand} {ty t t' e : TypeId} {pos : String} {af : Array Edge} {g : Option (Nat × Bool)} {v u : Value} {r : Rp} {sz : Nat}
theorem LG {b:Nat}{cs:List Rp}(hag:∀w,(sizeOf t).run P w = .ok 1 w)(hx:ev l x=Ad (rv (.pointer (Ad ⟨b,off,Ai⟩))))(hy:ev l y=Ad r)(hv:IY H r)
  (hi:H[i]? =Ad (.blk b cs e)) (hlt:Nat.blt off (Ae cs)=Af) {cs':List Rp} (hcs:cs.set off r=cs') (hH:H.set i (.blk b cs' e)=H'):AcB P n c l H { dst:=Ai,op:=.store t x y,type:=ty,pos:=pos,after:=af,guard:=Ai } H':=λa w Z ha hw=>by
  obtain⟨us,hb,h2⟩:=hw.ent hi;have hr:=ha.ev hy;have hone:=hv c Z w _ hw hr;have hlen:=h2.length;have hlt':off<Ae us:=by rw[hlen];simpa using hlt
  have h1:=run_storeCells_at P b off e [a.eval y] 0 us.toArray w hb Am (by simpa using hone);have hcv:=De hone;have h3:us.take off++[a.eval y]++us.drop (off+1)=us.set off (a.eval y):=by
   simp[List.set_eq_take_append_cons_drop,hlt']
  simp only[Nat.add_zero,AeL,List.length_nil,AeK] at h1;rw[h3] at h1;refine⟨w.setRow b (us.set off (a.eval y)).toArray,?_,?_⟩
  ·simp[execOp,ha.eval hx,Instr.storeAt,Instr.sureAddr,storeVar,hag,hcv,h1]
  ·subst hH;subst hcs;refine hw.set hi rfl rfl rfl (by simp[World.setRow]) (λk _ hk=>?_) ⟨us.set off (a.eval y),setRow_heap w b _ _ e (0,0) hb,h2.set off hr⟩ (by simp[Ent.foot]);simp only[Ent.foot,AeY] at hk;simp only[World.setRow,Array.getElem?_modify];rw[AeN (λe=>hk e.symm)]
end
end
end
variable{Φ:Rp→List Ent→Prop}{K:Exit→Act→World→Prop}
section
variable [I : Dfr]
section
variable {P : Program} {n : Nat} {c : Cx} {ops : Array Oper} {Q : Exit → Act → World → Prop} {rest : List Oper} {l : Fr} {H H' : List Ent} {d : Nat} {d' : Option Nat} {x y z3 : Operand} {ty t t' e : TypeId} {pos : String} {af : Array Edge} {g : Option (Nat × Bool)} {v u : Value} {r : Rp} {sz : Nat} {K : Act → World → Prop}
theorem Oc {p:Addr}(hu:∃e',P.underlying t=Ad (.pointer e'))(hx:ev l x=Ad (rv (.pointer (Ad p)))):Cd P n c l H { dst:=d',op:=.binOp .neq t x (.const (.pointer Ai)) t',type:=ty,pos:=pos,after:=af,guard:=g } (rB Af):=λa w Z ha _=>E0<|by
 obtain⟨e',hu⟩:=hu;have h1:∀dd:Nat,(Op.equalIn (dd+1) t (.pointer (Ad p)) (.pointer Ai)).run P w = .ok Ah w:=λdd=>by simp[Op.equalIn,run_underlying hu]
 have h2:(Op.equal t (.pointer (Ad p)) (.pointer Ai)).run P w = .ok Ah w:=h1 9999;have h3:(eqGuard .neq t x (.const (.pointer Ai)) (.pointer (Ad p)) (.pointer Ai)).run P w = .ok () w:=by unfold eqGuard;split<;>simp
 have hy:a.eval (.const (.pointer Ai)) = .pointer Ai:=rfl;simp only[execOp,ha.eval hx,hy,Sem.run_bind,h3,Result.andThen_ok,binOp,h2,Sem.run_pure];rfl
section
variable {P : Program} {n : Nat} {c : Cx} {l : Fr} {H : List Ent} {d' : Option Nat} {x : Operand} {ty t t' e : TypeId} {pos : String} {af : Array Edge} {g : Option (Nat × Bool)} {v : Value}
theorem Z6:∀(ns:List Int) (p:List UInt8),ns.foldl (λr n=>r.push (Ar n.toNat)) (B p)=B (p++ofI ns)
 | [],p=>by simp[ofI]
 | n::ns,p=>by
  have e:(B p).push (Ar n.toNat)=B (p++[Ar n.toNat]):=by simp[B,ByteArray.push]
  simp only[List.foldl_cons,e];rw[Z6 ns];simp[ofI]
theorem WO (xs:List Int):(xs.map EM).flatten=(xs.map λc=>Value.int .u8 c).map rv:=by
 induction xs with
 | nil=>rfl
 | cons a r ih=>simp[EM,ih]
theorem Abz {xs:List Int}(hs:P.underlying t=Ad (.slice e))(hd:P.underlying t'=Ad .string)(he:P.underlying e=Ad (.int .u8))(hx:ev l x=Ad (rv v))(hi:H[i]? =Ad (.row v e 1 (xs.map EM))) :
  Cd P n c l H { dst:=d',op:=.convert t t' x,type:=ty,pos:=pos,after:=af,guard:=g } (rS (ofI xs)):=λa w Z ha hw=>by
 obtain⟨_,us,⟨h1,h2⟩,h3⟩:=hw.ent hi;rw[WO] at h3;have e2:=BH.eq_rv h3;subst e2;refine⟨.string (B (ofI xs)),rfl,?_⟩;have hlx:=ha.eval hx;rcases h2 with⟨rfl,hz⟩ | ⟨b,cap,cur,rfl,_,hb,hcap,hm,hcs,htk⟩
 ·have hx0:xs=[]:=by simpa using hz
  subst hx0;have:=run_convert_bytes_string w t t' e Ai 0 0 hs he hd;simp only[execOp,hlx];have e3:(Conv.bytesToString (.slice Ai 0 0)).run P w = .ok (.string (B [])) w:=rfl;rw[e3] at this;simp[this,ofI]
 ·simp only[Ae7,Nat.mul_one] at htk hcap hcs h1;have hld:=run_loadCells_list (P:=P) w ⟨b,0,Ai⟩ (xs.map λc=>Value.int .u8 c) (λj u hj=>by
   rw[Iz,AeK,cell_of_row w b j cur e (0,0) hb];rw[← htk,AeF] at hj
   split at hj
   ·simpa using hj
   ·cases hj)
  rw[Ae7] at hld;have h4:=run_bytesToString w ⟨b,0,Ai⟩ (Ae xs) cap xs hld;have h5:=run_convert_bytes_string w t t' e (Ad ⟨b,0,Ai⟩) (Ae xs) cap hs he hd;have h6:=Z6 xs [];rw[h4,show ByteArray.empty=B [] from rfl,h6] at h5;simp[execOp,hlx,h5]
end
theorem Qq {o:Oper}{a:Act}(ho:o.op = .call { callee:=.value x,args:=args.toArray,argTypes:=ats })(hx:a.eval x = .func (.func f) #[] caps.toArray)
  (hcall:∀(as1:Array Value) (w:World),(callFunc f as1).run P w = .ok (.enter f as1) w) (w:World):(execOp a.eval o).run P w = .ok (.enter f (args.map a.eval++caps).toArray) w:=by
 simp[execOp,ho,resolve,hx,Deferred.ofValue,invoke,hcall]
theorem Dh {Hin Hr:List Ent}(hcall:∀(as1:Array Value) (w:World),(callFunc f as1).run P w = .ok (.enter f as1) w)(hx:ev l x=Ad (rv (.func (.func f) #[] caps.toArray)))(hv:Jy l args=Ad rs)
  (hp:H.Perm (Hin++Hr)) (hc:Fn P c.E f (rs++caps.map rv) Hin Φ) (hn:Nat.blt d n=Af) (h:∀r Ho,Φ r Ho→WL P n c ops Q rest ((d,r)::l) (Ho++Hr)) :
  WL P n c ops Q ({ dst:=Ad d,op:=.call { callee:=.value x,args:=args.toArray,argTypes:=ats },type:=ty,pos:=pos,after:=af,guard:=Ai }::rest) l H:=
 K8 (args:=λa=>(args.map a.eval++caps).toArray) (λa w Z ha hw=>⟨Qq rfl (ha.eval hx) hcall w,by
  have hw2:=hw.perm hp;refine(hc w Z _ (by have:=(E9 ha hv).append (BH.rvs Z caps);simpa using this) hw2.enter).mono ?_;rintro e w' ⟨r,v,Ho,Z',he,hΦ,hr,hs⟩;exact⟨v,r,Ho++Hr,Z',he,hs.le,hr,hw2.call hs,h r Ho hΦ⟩⟩) hn
end
section
variable {P : Program} {n : Nat} {c : Cx} {ops : Array Oper} {Q : Exit → Act → World → Prop} {rest : List Oper} {l : Fr} {H : List Ent} {d : Nat} {ty : TypeId} {pos : String} {af : Array Edge} {r : Rp} {x y z3 : Operand}
theorem wo {d:Option Nat}(hb:b=want)(h:WL P n c ops Q ({ dst:=d,op:=op,type:=ty,pos:=pos,after:=af,guard:=Ai }::rest) l H)(hj:DP ops j=Ad dj:=by rfl)(hv:look l dj=Ad (rB b):=by rfl) :
  WL P n c ops Q ({ dst:=d,op:=op,type:=ty,pos:=pos,after:=af,guard:=Ad (j,want) }::rest) l H:=Em hj hv hb h
theorem wf (hb:b = !want)(h:WL P n c ops Q rest ((d,rv undef)::l) H)(hj:DP ops j=Ad dj:=by rfl)(hv:look l dj=Ad (rB b):=by rfl)(hn:Nat.blt d n=Af:=by rfl) :
  WL P n c ops Q ({ dst:=Ad d,op:=op,type:=ty,pos:=pos,after:=af,guard:=Ad (j,want) }::rest) l H:=GD hj hv hb hn h
theorem wu (h:WL P n c ops Q rest ((d,rv undef)::l) H)(hj:DP ops j=Ad dj:=by rfl)(hv:look l dj=Ad (rv undef):=by rfl)(hn:Nat.blt d n=Af:=by rfl) :
  WL P n c ops Q ({ dst:=Ad d,op:=op,type:=ty,pos:=pos,after:=af,guard:=Ad (j,want) }::rest) l H:=Vk hj hv hn h
theorem wv (hr:Cd P n c l H { dst:=Ad d,op:=op,type:=ty,pos:=pos,after:=af,guard:=Ai } r)(h:WL P n c ops Q rest ((d,r)::l) H)(hn:Nat.blt d n=Af:=by rfl):WL P n c ops Q ({ dst:=Ad d,op:=op,type:=ty,pos:=pos,after:=af,guard:=Ai }::rest) l H:=EB hr hn h
theorem wm (h:ev l x=Ad r)(hk:WL P n c ops Q rest ((d,r)::l) H)(hn:Nat.blt d n=Af:=by rfl):WL P n c ops Q ({ dst:=Ad d,op:=.move x,type:=ty,pos:=pos,after:=af,guard:=Ai }::rest) l H:=EB (Bl h) hn hk
theorem wa (h:ev l x=Ad r)(hk:WL P n c ops Q rest ((d,r)::l) H)(hn:Nat.blt d n=Af:=by rfl):WL P n c ops Q ({ dst:=Ad d,op:=.assign x,type:=ty,pos:=pos,after:=af,guard:=Ai }::rest) l H:=EB (DF h) hn hk
theorem Ep (hc:ev l z3=Ad (rB b))(hb:b=Af)(h:ev l x=Ad r)(hk:WL P n c ops Q rest ((d,r)::l) H)(hn:Nat.blt d n=Af:=by rfl):WL P n c ops Q ({ dst:=Ad d,op:=.pick z3 x y,type:=ty,pos:=pos,after:=af,guard:=Ai }::rest) l H:=EB (Gh hc hb h) hn hk
theorem DI (hc:ev l z3=Ad (rB b))(hb:b=Ah)(h:ev l y=Ad r)(hk:WL P n c ops Q rest ((d,r)::l) H)(hn:Nat.blt d n=Af:=by rfl):WL P n c ops Q ({ dst:=Ad d,op:=.pick z3 x y,type:=ty,pos:=pos,after:=af,guard:=Ai }::rest) l H:=EB (DD hc hb h) hn hk
theorem wc0 (hcall:∀(as1:Array Value) (w:World),(callFunc f as1).run P w = .ok (.enter f as1) w)(hc:Fn0 P c.E f rs r)(hv:Jy l args=Ad rs)(h:WL P n c ops Q rest ((d,r)::l) H)(hn:Nat.blt d n=Af:=by rfl) :
  WL P n c ops Q ({ dst:=Ad d,op:=.call { callee:=.value (.func f),args:=args.toArray,argTypes:=ats },type:=ty,pos:=pos,after:=af,guard:=Ai }::rest) l H:=ES hcall hv hc rfl hn h
theorem KL {opsA:Array Oper}(hcall:∀(as1:Array Value) (w:World),(callFunc f as1).run P w = .ok (.enter f as1) w)(hc:Fn0 P c.E f rs r)(hv:Jy l args=Ad rs) :
  Ef P n c opsA Q l H { dst:=Ad d,op:=.call { callee:=.value (.func f),args:=args.toArray,argTypes:=ats },type:=ty,pos:=pos,after:=af,guard:=Ai } r H:=VN hcall hv hc rfl
theorem wt (hl:EU l1 l:=by repeat (first | exact EU.nil | refine EU.c rfl ?_))(hH:H1.Sublist H:=by repeat (first | exact sN | refine sC ?_ | refine sS ?_)):WK n c (Exit.then (Mid n c l1 H1) K .normal) l H:=AV (M8 hl hH)
theorem Cp {p:Prop}(hp:p)(hl:p→EU l1 l:=by intro hp;repeat (first | exact EU.nil | refine EU.c rfl ?_ | refine EU.c (by first | (simp only[hp];rfl) | simp[hp]) ?_))(hH:H1.Sublist H:=by repeat (first | exact sN | refine sC ?_ | refine sS ?_)):WK n c (Exit.then (Mid n c l1 H1) K .normal) l H:=AV (M8 (hl hp) hH)
end
end
variable{G:Prop}
section
variable [I : Dfr]
abbrev rP (b o:Nat):Rp:=rv (.pointer (Ad ⟨b,o,Ai⟩))
theorem ck {p:Bool}{x:Option α}{r:α}(h:Bt p x=Ad r)(k:p=Af→x=Ad r→G):G:=k (QN h).1 (QN h).2
theorem ob {β:Type}{a:Option β}{f:β→Option α}{r:α}(h:BG a f=Ad r)(k:∀b,a=Ad b→f b=Ad r→G):G:=let ⟨b,h1,h2⟩:=Abr h;k b h1 h2
theorem bd {β:Type}{a:β}{f:β→Option α}{r:α}(h:N1 a f=Ad r)(k:∀b,b=a→f b=Ad r→G):G:=let ⟨b,h1,h2⟩:=Ac8 h;k b h1 h2
theorem bz {x y:Option α}{r:α}(h:BR b x y=Ad r)(t:b=Af→x=Ad r→G)(f:b=Ah→y=Ad r→G):G:=by
 cases b
 ·exact f rfl h
 ·exact t rfl h
section
variable {P : Program} {n : Nat} {c : Cx} {ops : Array Oper} {Q : Exit → Act → World → Prop} {rest : List Oper} {l : Fr} {H : List Ent} {d : Nat} {x y : Operand} {t e : TypeId} {ty : TypeId} {pos : String} {af : Array Edge} {r : Rp} {sz : Nat}
theorem cz {X Y:Option α}{r:α}{cx cy:Code}{o:Operand}(h:BR b X Y=Ad r)(ho:ev l o=Ad (rB b))(h1:b=Af→X=Ad r→WC P n c cx Q l H)(h2:b=Ah→Y=Ad r→WC P n c cy Q l H):WC P n c (.cond o cx cy) Q l H:=
 OH ho (λe=>h1 e (Ac3 e h)) (λe=>h2 e (Ac4 e h))
theorem wz (hj:DP ops j=Ad dj)(hv:look l dj=Ad (rB (!want)))(h:WL P n c ops Q rest ((d,rv undef)::l) H)(hn:Nat.blt d n=Af:=by rfl) :
  WL P n c ops Q ({ dst:=Ad d,op:=op,type:=ty,pos:=pos,after:=af,guard:=Ad (j,want) }::rest) l H:=GD hj hv rfl hn h
theorem vF {o o' b:Nat}{f:Field}(hu:P.underlying t=Ad (.struct fs))(h:(fs[i]?,ev l x,o+f.offset)=(Ad f,Ad (rv (.pointer (Ad ⟨b,o,Ai⟩))),o'))(hsz:∀w,(sizeOf f.type).run P w = .ok (sz+1) w)
  (k:WL P n c ops Q rest ((d,rv (.pointer (Ad ⟨b,o',Ai⟩)))::l) H) (hn:Nat.blt d n=Af:=by rfl):WL P n c ops Q ({ dst:=Ad d,op:=.fieldAddr t x i,type:=ty,pos:=pos,after:=af,guard:=Ai }::rest) l H:=by
 simp only[Prod.mk.injEq] at h;exact EB (AN hu h.1 hsz h.2.1 h.2.2) hn k
theorem vL {b:Nat}{cs:List Rp}(i:Nat)(hag:∀w,(isAgg t).run P w = .ok Ah w)(h:(ev l x,H[i]?,cs[off]?)=(Ad (rv (.pointer (Ad ⟨b,off,Ai⟩))),Ad (.blk b cs e),Ad r))
  (k:WL P n c ops Q rest ((d,r)::l) H) (hn:Nat.blt d n=Af:=by rfl):WL P n c ops Q ({ dst:=Ad d,op:=.load t x,type:=ty,pos:=pos,after:=af,guard:=Ai }::rest) l H:=by
 simp only[Prod.mk.injEq] at h;exact EB (BB (i:=i) hag h.1 h.2.1 h.2.2) hn k
end
abbrev AH (x:Int):Rp:=rI .i64 x
abbrev Eg (x:Int):Nat:=Ao x
abbrev AW {a b:Type}(f:a→b)(l:List a):List b:=List.map f l
end
variable{l' l:List α}
section
variable [I : Dfr]
structure At {α:Type} (i:Nat) (l:List α) (e:α) (l':List α):Prop where
 go:l.Perm (e::l')
theorem AcA {e:α}:At 0 (e::l) e l:=⟨Ae5 _⟩
theorem Ac9 {x e:α}(h:At i l e l'):At (i+1) (x::l) e (x::l'):=⟨(h.go.cons x).trans (List.Perm.swap e x l')⟩
structure Pk {α:Type} (is:List Nat) (l l':List α):Prop where
 go:l.Perm l'
theorem Abn:Pk [] l l:=⟨Ae5 _⟩
theorem Abm {r:List Nat}{l1 l2:List α}{e:α}(h:At i l e l1)(t:Pk r l1 l2):Pk (i::r) l (e::l2):=⟨h.go.trans (t.go.cons e)⟩
structure U2 {α:Type} (i:Nat) (l:List α) (x:α) (l':List α):Prop where
 go:l.set i x=l'
theorem ZV {a x:α}:U2 0 (a::l) x (x::l):=⟨rfl⟩
theorem ZU {a x:α}(h:U2 i l x l'):U2 (i+1) (a::l) x (a::l'):=⟨by rw[List.set_cons_succ,h.go]⟩
structure Ze {α:Type} (i:Nat) (rs l l':List α):Prop where
 go:l.take i++rs++l.drop (i+Ae rs)=l'
theorem AcL:Ze 0 [] l l:=⟨Aj⟩
theorem AcK {r a:α}{rs:List α}(h:Ze 0 rs l l'):Ze 0 (r::rs) (a::l) (r::l'):=⟨by
 have:=h.go;simp only[List.take_zero,List.nil_append,AeK] at this ⊢;rw[AeL,List.drop_succ_cons,List.cons_append,this]⟩
section
variable {P : Program} {n : Nat} {c : Cx} {ops opsA : Array Oper} {Q : Exit → Act → World → Prop} {rest : List Oper} {l l' : Fr} {H H' H2 Hr : List Ent} {x : Code} {K : Act → World → Prop} {d : Nat} {ty t e : TypeId} {pos : String} {af : Array Edge} {y z : Operand} {r : Rp} {sz : Nat}
theorem HA (is:List Nat)(h:WK n c K l H2)(hp:Pk is H H2:=by repeat (first | exact Abn | apply Abm | exact AcA | apply Ac9)):WK n c K l H:=XJ hp.go h
theorem DQ (is:List Nat){Hin:List Ent}(hcall:∀(as1:Array Value) (w:World),(callFunc f as1).run P w = .ok (.enter f as1) w)(hc:Fn P c.E f rs Hin Φ)
  (h:∀r Ho,Φ r Ho→WL P n c ops Q rest ((d,r)::l) (Ho++Hr)) (hv:Jy l args=Ad rs:=by rfl) (hp:Pk is H (Hin++Hr):=by repeat (first | exact Abn | apply Abm | exact AcA | apply Ac9)) (hn:Nat.blt d n=Af:=by rfl) :
  WL P n c ops Q ({ dst:=Ad d,op:=.call { callee:=.value (.func f),args:=args.toArray,argTypes:=ats },type:=ty,pos:=pos,after:=af,guard:=Ai }::rest) l H:=HW hcall hv hp.go hc hn h
theorem EN (h:WC P n c x Q l' H')(hl:l=l':=by first | (dsimp only;done) | (dsimp only;exact rfl) | exact rfl)(hH:H=H':=by first | (dsimp only;done) | (dsimp only;exact rfl) | exact rfl):WC P n c x Q l H:=Zj hl hH h
theorem GB (h:WK n c K l' H')(hl:l=l':=by first | (dsimp only;done) | (dsimp only;exact rfl) | exact rfl)(hH:H=H':=by first | (dsimp only;done) | (dsimp only;exact rfl) | exact rfl):WK n c K l H:=Aba hl hH h
theorem us {b:Nat}{cs:List Rp}(hag:∀w,(sizeOf t).run P w = .ok 1 w)(hx:ev l z=Ad (rv (.pointer (Ad ⟨b,off,Ai⟩))))(hy:ev l y=Ad r)(hv:IY H r)(hi:H[i]? =Ad (.blk b cs e))(hlt:Nat.blt off (Ae cs)=Af)
  (h:WL P n c ops Q rest l H') (hcs:U2 off cs r cs':=by repeat (first | exact ZV | apply ZU)) (hH:U2 i H (.blk b cs' e) H':=by repeat (first | exact ZV | apply ZU)) :
  WL P n c ops Q ({ dst:=Ai,op:=.store t z y,type:=ty,pos:=pos,after:=af,guard:=Ai }::rest) l H:=XU hag hx hy hv hi hlt hcs.go hH.go h
theorem Dx {b:Nat}{cs:List Rp}(hsz:∀w,(sizeOf t).run P w = .ok sz w)(hx:ev l z=Ad (rv (.pointer (Ad ⟨b,off,Ai⟩))))(hy:ev l y=Ad (BL rs))(hl:Ae rs=sz)(hv:Bh H rs)(hi:H[i]? =Ad (.blk b cs e))(hlt:Nat.ble (off+sz) (Ae cs)=Af)
  (h:WL P n c ops Q rest l H') (hcs:Ze off rs cs cs':=by repeat (first | exact AcL | apply AcK | apply rr_s)) (hH:U2 i H (.blk b cs' e) H':=by repeat (first | exact ZV | apply ZU)) :
  WL P n c ops Q ({ dst:=Ai,op:=.store t z y,type:=ty,pos:=pos,after:=af,guard:=Ai }::rest) l H:=Qi hsz hx hy hl hv hi hlt (by rw[← hl];exact hcs.go) hH.go h
def Tc (os:List Oper)(acc:List Rp)(t:Nat)(l0:Fr):List Nat→Fr
 | []=>l0
 | j::r=>match CD os j with
  | some d=>(d,acc.getD (t-1-j) (rv undef))::Tc os acc t l0 r
  | none=>Tc os acc t l0 r
def QZ:List Oper→List Rp→List Sp
 | o::os,r::rs=>⟨DH o,r,1⟩::QZ os rs
 | _,_=>[]
theorem SD:∀{os:List Oper} {rs:List Rp},Ae os=Ae rs→Ae (QZ os rs)=Ae os
 | [],[],_=>rfl
 | o::os,r::rs,h=>by rw[QZ,AeL,AeL,SD (by simpa using h)]
 | [],_::_,h=>by simp at h
 | _::_,[],h=>by simp at h
theorem R1:∀{os:List Oper} {rs:List Rp} {i:Nat} {o:Oper} {r:Rp},os[i]? =Ad o→rs[i]? =Ad r→(QZ os rs)[i]? =Ad ⟨DH o,r,1⟩
 | o::os,r::rs,0,o',r',h1,h2=>by simp at h1 h2;subst h1;subst h2;rfl
 | o::os,r::rs,i+1,o',r',h1,h2=>by rw[QZ,List.getElem?_cons_succ];exact R1 (by simpa using h1) (by simpa using h2)
 | [],_,i,_,_,h1,_=>by simp at h1
 | _::_,[],i,_,_,_,h2=>by simp at h2
def RdH (P:Program)(n:Nat)(c:Cx)(Q:Exit→Act→World→Prop)(os:List Oper)(l0:Fr)(H:List Ent)(acc:List Rp):Prop:=
 ∀(i:Nat) o r,os[i]? =Ad o→acc.reverse[i]? =Ad r→Ef P n c os.toArray Q (Tc os (acc.drop (Ae acc-i)) i l0 (DH o)) H o r H
def Tq (P:Program)(n:Nat)(c:Cx)(Q:Exit→Act→World→Prop)(os:List Oper)(l0:Fr)(H:List Ent)(G:Prop)(t:Nat)(acc:List Rp)(rest:List Oper):Prop:=
 rest=os.drop t→t=Ae acc→RdH P n c Q os l0 H acc→G
theorem RdH.cons {os:List Oper}{l0:Fr}{acc:List Rp}{o:Oper}{r:Rp}(h:RdH P n c Q os l0 H acc)(ho:os[Ae acc]? =Ad o)(hr:Ef P n c os.toArray Q (Tc os acc (Ae acc) l0 (DH o)) H o r H):RdH P n c Q os l0 H (r::acc):=λi o' r' h1 h2=>by
 rw[List.reverse_cons] at h2
 by_cases hi:i<Ae acc
 ·rw[Afe (by simpa using hi)] at h2;have:=h i o' r' h1 h2;rw[AeL,show (Ae acc)+1-i=(Ae acc-i)+1 from Ab,List.drop_succ_cons];exact this
 ·have hlt:=(List.getElem?_eq_some_iff.1 h2).1;simp at hlt;have e:i=Ae acc:=Ab
  subst e;rw[List.getElem?_append_right Aj] at h2;simp at h2;subst h2;rw[ho] at h1;obtain rfl:=Option.some.inj h1;rw[AeL,show (Ae acc)+1-Ae acc=1 from Ab,List.drop_succ_cons,List.drop_zero];exact hr
theorem WH {os:List Oper}{acc:List Rp}{l0:Fr}{i:Nat}(hl:Ae acc=Ae os)(hi:i≤Ae acc):∀{js:List Nat},(∀j∈js,j<i)→Tc os (acc.drop (Ae acc-i)) i l0 js=CA os (QZ os acc.reverse) js l0
 | [],_=>rfl
 | j::js,h=>by
  have hj:=h j Aj;have ih:=WH (l0:=l0) hl hi (js:=js) λj' hj'=>h j' (by simp[hj']);unfold Tc CA;have ho:os[j]? =Ad (os[j]'(Ab)):=Ae3 Ab;have hr:acc.reverse[j]? =Ad (acc.reverse[j]'(Am)):=Ae3 Am;have e:(acc.drop (Ae acc-i)).getD (i-1-j) (rv undef)=(E4 (QZ os acc.reverse) j).r:=by
   unfold E4;rw[Ae2,Ae2,R1 ho hr,List.getElem?_drop,AeE];rw[Ae3 Ab,AeE];show _=acc.reverse[j]'(Am);rw[List.getElem_reverse]
   congr 1
   omega
  rw[e,ih]<;>cases CD os j<;>rfl
theorem D4 (ks0:List Nat)(h:Tq P n c Q os l0 H (Kp ks0 l l0→WC P n c (.region id os.toArray Af) Q l H) 0 [] os)(h0:Kp ks0 l l0:=by repeat (first | exact JY | (apply Iy;rfl) | (apply Jx;rfl))):WC P n c (.region id os.toArray Af) Q l H:=
 h Aj rfl (λi o r _ h2=>by simp at h2) h0
theorem TJ {t:Nat}{acc:List Rp}{o:Oper}{r:Rp}{rest:List Oper}(hr:Ef P n c os.toArray Q (Tc os acc t l0 (DH o)) H o r H)(h:Tq P n c Q os l0 H G (t+1) (r::acc) rest):Tq P n c Q os l0 H G t acc (o::rest):=λh1 h2 h3=>by
 subst h2;have ho:os[Ae acc]? =Ad o:=by have:=congrArg (·[0]?) h1;simp at this;exact this.symm
 exact h (by have:=congrArg List.tail h1;simpa using this) rfl (h3.cons ho hr)
section
variable {os : List Oper} {l0 : Fr} {G : Prop} {t : Nat} {acc : List Rp} {r : Rp} {rest : List Oper} {op : Op} {j dj : Nat} {want b : Bool} {dd : Option Nat}
theorem rq (hr:Cd P n c (Tc os acc t l0 (DH { dst:=Ad d,op:=op,type:=ty,pos:=pos,after:=af,guard:=Ai })) H { dst:=Ad d,op:=op,type:=ty,pos:=pos,after:=af,guard:=Ai } r)(h:Tq P n c Q os l0 H G (t+1) (r::acc) rest) :
  Tq P n c Q os l0 H G t acc ({ dst:=Ad d,op:=op,type:=ty,pos:=pos,after:=af,guard:=Ai }::rest):=TJ (C6 hr) h
theorem rg (hb:b=want)(hr:Cd P n c (Tc os acc t l0 (DH { dst:=Ad d,op:=op,type:=ty,pos:=pos,after:=af,guard:=Ad (j,want) })) H { dst:=Ad d,op:=op,type:=ty,pos:=pos,after:=af,guard:=Ai } r)(h:Tq P n c Q os l0 H G (t+1) (r::acc) rest)
  (hj:DP os.toArray j=Ad dj:=by rfl) (hv:look (Tc os acc t l0 (DH { dst:=Ad d,op:=op,type:=ty,pos:=pos,after:=af,guard:=Ad (j,want) })) dj=Ad (rB b):=by rfl) :
  Tq P n c Q os l0 H G t acc ({ dst:=Ad d,op:=op,type:=ty,pos:=pos,after:=af,guard:=Ad (j,want) }::rest):=TJ (Zr hj hv hb (C6 hr)) h
theorem ro (hb:b=want)(hr:Ef P n c os.toArray Q (Tc os acc t l0 (DH { dst:=dd,op:=op,type:=ty,pos:=pos,after:=af,guard:=Ad (j,want) })) H { dst:=dd,op:=op,type:=ty,pos:=pos,after:=af,guard:=Ai } r H)(h:Tq P n c Q os l0 H G (t+1) (r::acc) rest)
  (hj:DP os.toArray j=Ad dj:=by rfl) (hv:look (Tc os acc t l0 (DH { dst:=dd,op:=op,type:=ty,pos:=pos,after:=af,guard:=Ad (j,want) })) dj=Ad (rB b):=by rfl) :
  Tq P n c Q os l0 H G t acc ({ dst:=dd,op:=op,type:=ty,pos:=pos,after:=af,guard:=Ad (j,want) }::rest):=TJ (Zr hj hv hb hr) h
theorem rz (hb:b = !want)(h:Tq P n c Q os l0 H G (t+1) (rv undef::acc) rest)
  (hj:DP os.toArray j=Ad dj:=by rfl) (hv:look (Tc os acc t l0 (DH { dst:=dd,op:=op,type:=ty,pos:=pos,after:=af,guard:=Ad (j,want) })) dj=Ad (rB b):=by rfl) :
  Tq P n c Q os l0 H G t acc ({ dst:=dd,op:=op,type:=ty,pos:=pos,after:=af,guard:=Ad (j,want) }::rest):=TJ (Aae hj hv hb) h
theorem ru (h:Tq P n c Q os l0 H G (t+1) (rv undef::acc) rest)
  (hj:DP os.toArray j=Ad dj:=by rfl) (hv:look (Tc os acc t l0 (DH { dst:=dd,op:=op,type:=ty,pos:=pos,after:=af,guard:=Ad (j,want) })) dj=Ad (rv undef):=by rfl) :
  Tq P n c Q os l0 H G t acc ({ dst:=dd,op:=op,type:=ty,pos:=pos,after:=af,guard:=Ad (j,want) }::rest):=TJ (VL hj hv) h
end
theorem re {ks0:List Nat}{t:Nat}{acc:List Rp}(ks:List Nat)(h:WK n c (Q .normal) l1 H)
  (hz:Kz ks os (QZ os acc.reverse) l0 l1:=by repeat (first | (apply Aaq;rfl) | (apply Aas;rfl) | apply Aar | apply Aat | exact JY | (apply Iy;rfl) | (apply Jx;rfl)))
  (hm:P.follows .mixedOrders=Af:=by kernel_rfl) (hB:okB n os (Ae os) (Es l0) (os.map DH) (os.map λ_=>1)=Af:=by kernel_rfl) (ht:t=Ae os:=by rfl) :
  Tq P n c Q os l0 H (Kp ks0 l l0→WC P n c (.region id os.toArray Af) Q l H) t acc []:=λ_ hl hob h0=>by
 have hlen:Ae acc=Ae os:=Ab
 have hsp:Ae (QZ os acc.reverse)=Ae os:=SD (by simpa using hlen.symm);have key:∀{os:List Oper} {rs:List Rp},Ae os=Ae rs→(QZ os rs).map (·.deps)=os.map DH∧(QZ os rs).map (·.kd)=os.map λ_=>1:=by
  intro os
  induction os with
  | nil=>intro rs h;cases rs with
   | nil=>exact⟨rfl,rfl⟩
   | cons _ _=>simp at h
  | cons o os ih=>intro rs h;cases rs with
   | nil=>simp at h
   | cons r rs=>obtain⟨h1,h2⟩:=ih (rs:=rs) (by simpa using h);exact⟨by simp[QZ,h1],by simp[QZ,h2]⟩
 obtain⟨k1,k2⟩:=key (os:=os) (rs:=acc.reverse) (by simpa using hlen.symm);have hlt:∀(i:Nat) o,os[i]? =Ad o→∀j∈DH o,j<i:=by
  have hB':=hB;unfold okB at hB';simp only[Ae9] at hB';have h1:=hB'.1.1.1.1.1.1;intro i o ho j hj;have hi:=(List.getElem?_eq_some_iff.1 ho).1;have h2:=List.all_eq_true.1 h1 i (List.mem_range.2 hi);have e:os.getD i default=o:=by rw[Ae2,ho];rfl
  rw[e] at h2;exact AeP (List.all_eq_true.1 h2 j hj)
 have hobl:∀(k:Nat) (rest:List Oper),rest=os.drop k→PB P n c os.toArray Q os (QZ os acc.reverse) l0 (Au (Ae os+1) H) k rest (Au (Ae rest+1) H):=by
  intro k rest
  induction rest generalizing k with
  | nil=>intro _;exact trivial
  | cons o rest ih=>
   intro hr;have ho:os[k]? =Ad o:=by have:=congrArg (·[0]?) hr;simp at this;exact this.symm
   have hk:=(List.getElem?_eq_some_iff.1 ho).1;have hrr:acc.reverse[k]? =Ad (acc.reverse[k]'(Am)):=Ae3 Am;have hs:E4 (QZ os acc.reverse) k=⟨DH o,acc.reverse[k]'(Am),1⟩:=by
    unfold E4;rw[Ae2,R1 ho hrr];rfl
   have ih:=ih (k+1) (by have:=congrArg List.tail hr;simpa using this);have hop:=hob k o _ ho hrr;rw[WH hlen Ab (hlt k o ho)] at hop;rw[AeL,List.replicate_succ,List.replicate_succ];refine⟨?_,by rw[← List.replicate_succ];exact ih⟩;rw[hs];exact⟨rfl,hop⟩
 refine OF (l0:=l0) (l1:=l1) ks0 (QZ os acc.reverse) (Au (Ae os+1) H) ks (hobl 0 os Aj) h h0 hz hm (by rw[k1,k2];exact hB) hsp Aj (by simp[Ae2,List.getElem?_replicate])
end
end
variable{place:Nat→Option (Nat×Nat)}
section
variable [I : Dfr]
class FEq {α:Sort _} (a:α) (b:outParam α):Prop where h:a=b
instance {α:Sort _}(a:α):FEq a a:=⟨rfl⟩
class TSz (P:Program) (t:TypeId) (k:outParam Nat):Prop where h:∀w,(sizeOf t).run P w = .ok k w
class TAg (P:Program) (t:TypeId) (b:outParam Bool):Prop where h:∀w,(isAgg t).run P w = .ok b w
class TUn (P:Program) (t:TypeId) (u:outParam TypeDesc):Prop where h:P.underlying t=Ad u
def szl:List (Nat×Nat)→Nat→Option Nat
 | [],_=>Ai
 | p::r,t=>bif Nat.beq p.1 t then Ad p.2 else szl r t
class TB (P:Program) where
 sz:List (Nat×Nat)
 h:∀p∈sz,∀w,(sizeOf p.1).run P w = .ok p.2 w
theorem V0 {P:Program}{l:List (Nat×Nat)}{t k:Nat}(hl:∀p∈l,∀w,(sizeOf p.1).run P w = .ok p.2 w)(h:szl l t=Ad k):∀w,(sizeOf t).run P w = .ok k w:=by
 induction l with
 | nil=>cases h
 | cons p r ih=>
  unfold szl at h
  cases hb:Nat.beq p.1 t with
  | true=>rw[hb] at h;cases h;have:=Nat.eq_of_beq_eq_true hb;subst this;exact hl p List.mem_cons_self
  | false=>rw[hb] at h;exact ih (λq hq=>hl q (List.mem_cons_of_mem _ hq)) h
theorem Bc {l:Fr}:∀{l':Fr},(l'.map λp=>look l p.1)=(l'.map λp=>Ad p.2)→EU l' l
 | [],_=>trivial
 | p::r,h=>by
  simp only[AeO,List.cons.injEq] at h;exact⟨⟨p.2,h.1,EJ.refl _⟩,Bc h.2⟩
def NY {α:Type}:Nat→List α→List α
 | _,[]=>[]
 | m,x::r=>bif Nat.beq (m % 2) 1 then x::NY (m/2) r else NY (m/2) r
theorem Jn {α:Type}:∀(m:Nat) (l:List α),(NY m l).Sublist l
 | _,[]=>List.Sublist.slnil
 | m,x::r=>by
  unfold NY
  cases Nat.beq (m % 2) 1
  ·exact List.Sublist.cons _ (Jn _ _)
  ·exact List.Sublist.cons_cons _ (Jn _ _)
theorem cs {a b:α}(h:Ad a=Ad b):a=b:=Option.some.inj h
theorem sK (m:Nat)[h:FEq (NY m l) l']:l'.Sublist l:=h.1▸Jn m l
def SU:Operand→Bool
 | .const (.string _)=>Af
 | _=>Ah
def mv1 (n:Nat)(l:Fr):Oper→Option Fr
 | ⟨Ad d,.move x,_,_,_,Ai⟩=>bif Nat.blt d n&&!SU x then(ev l x).map λr=>(d,r)::l else Ai
 | ⟨Ad d,.assign x,_,_,_,Ai⟩=>bif Nat.blt d n&&!SU x then(ev l x).map λr=>(d,r)::l else Ai
 | _=>Ai
def U8 (n:Nat):Fr→List Oper→Fr×List Oper
 | l,[]=>(l,[])
 | l,o::os=>match mv1 n l o with
  | some l'=>U8 n l' os
  | none=>(l,o::os)
theorem Aal {P:Program}{n:Nat}{c:Cx}{ops:Array Oper}{Q:Exit→Act→World→Prop}{l l':Fr}{o:Oper}(h:mv1 n l o=Ad l')(k:WL P n c ops Q os l' H):WL P n c ops Q (o::os) l H:=by
 have key:∀{d:Nat} {x:Operand},(bif Nat.blt d n&&!SU x then(ev l x).map λr=>(d,r)::l else Ai)=Ad l'→∃r,ev l x=Ad r∧l'=(d,r)::l∧Nat.blt d n=Af:=by
  intro d x h
  cases hb:(Nat.blt d n&&!SU x) with
  | false=>rw[hb] at h;cases h
  | true=>
   rw[hb,cond_true] at h;rw[Ae9] at hb
   cases hx:ev l x with
   | none=>rw[hx] at h;cases h
   | some r=>rw[hx] at h;cases h;exact⟨r,rfl,rfl,hb.1⟩
 unfold mv1 at h
 split at h
 ·obtain⟨r,h1,rfl,h3⟩:=key h;exact wm h1 k h3
 ·obtain⟨r,h1,rfl,h3⟩:=key h;exact wa h1 k h3
 ·cases h
theorem ms {P:Program}{n:Nat}{c:Cx}{ops:Array Oper}{Q:Exit→Act→World→Prop}{H:List Ent}:∀{os:List Oper} {l l':Fr} {os':List Oper},U8 n l os=(l',os')→WL P n c ops Q os' l' H→WL P n c ops Q os l H
 | [],l,l',os',h,k=>by cases h;exact k
 | o::os,l,l',os',h,k=>by
  unfold U8 at h
  cases hm:mv1 n l o with
  | none=>rw[hm] at h;cases h;exact k
  | some l1=>rw[hm] at h;exact Aal hm (ms h k)
abbrev PO (x:Rp):Rp→List Ent→Prop:=λR H=>R=x∧H=[]
omit I in
theorem en {P:Program}{n:Nat}{E:Fz→Prop}{f:FuncId}{fn:Func}{x:Code}{args:List Rp}{Hin:List Ent}{Φ:Rp→List Ent→Prop}(hf:P.funcs[f]? =Ad fn)(hn:fn.ntmps=n)(hb:(fn.body,Nat.ble (Ae args) n)=(Ad x,Af))
  (h:∀w Z,@WC dfr0 P n ⟨w,Z,Hin.flatMap Ent.foot,E,Hin.flatMap Ent.gk⟩ x (bodyPost P fn (U9 ⟨w,Z,Hin.flatMap Ent.foot,E,Hin.flatMap Ent.gk⟩ Φ)) (JD args) Hin):Fn P E f args Hin Φ:=by
 rw[Prod.mk.injEq] at hb;exact enter hf hb.1 hn hb.2 h
section
variable {P : Program} {n : Nat} {c : Cx} {ops : Array Oper} {Q : Exit → Act → World → Prop} {rest : List Oper} {l l' : Fr} {H H' : List Ent} {x y z3 : Operand} {d : Nat} {d' : Option Nat} {t t' e ty : TypeId} {pos : String} {af : Array Edge} {g : Option (Nat × Bool)} {r : Rp} {sz : Nat} {op : Op} {x' y' : Code}
abbrev Tn (P:Program)(y:Code)(Q:Exit→Act→World→Prop):Exit→Act→World→Prop:=Exit.then (λa w=>y.wp P Q a w) Q
section
variable {os os' : List Oper} {z : Code} {id : Nat} {K : Act → World → Prop}
theorem AX (hm:U8 n l os=(l',os'))(h:WL P n c os.toArray (Tn P y' Q) os' l' H):WC P n c ((Code.region id os.toArray Ah).seq y') Q l H:=A3 (ms hm h)
theorem Lz (h:WK n c (Q .ret) l H):WL P n c ops (Tn P .ret Q) [] l H:=Bu (CG h)
theorem BT (h:WC P n c y' Q l H):WC P n c .skip (Tn P y' Q) l H:=BC (CM h)
theorem BN (h:WC P n c x' (Tn P y' Q) l H):WL P n c ops (Tn P (x'.seq y') Q) [] l H:=Bu (B0 h)
theorem B4 (hm:U8 n l os=(l',[]))(h:WK n c (Q .normal) l' H):WL P n c ops Q os l H:=ms hm (AL h)
theorem Cv (hm:U8 n l os=(l',os'))(h:WL P n c os.toArray Q os' l' H):WC P n c (.region id os.toArray Ah) Q l H:=AF (ms hm h)
theorem Bs (h:WK n c (Q .ret) l H):WK n c (Exit.inBlock id (Exit.then K Q) .ret) l H:=CV (AA h)
theorem BI (hm:U8 n l os=(l',os'))(h:WL P n c os.toArray (Tn P y' Q) os' l' H):WL P n c ops (Tn P ((Code.region id os.toArray Ah).seq y') Q) [] l H:=CZ (ms hm h)
theorem BX (h:WC P n c x' (Tn P y' Q) l H):WC P n c .skip (Tn P (x'.seq y') Q) l H:=BT (B0 h)
theorem Bm (hm:U8 n l os=(l',[]))(h:WC P n c y' Q l' H):WL P n c ops (Tn P y' Q) os l H:=ms hm (Bu h)
theorem Bp (hm:U8 n l os=(l',[]))(h:WK n c (Q .ret) l' H):WL P n c ops (Tn P .ret Q) os l H:=Bm hm (CG h)
theorem B1 (hm:U8 n l os=(l',[]))(h:WK n c (Q .ret) l' H):WC P n c ((Code.region id os.toArray Ah).seq .ret) Q l H:=A3 (Bp hm h)
theorem Cg (hm:U8 n l os=(l',[]))(h:WK n c (Q .ret) l' H):WC P n c ((Code.region id os.toArray Ah).seq .ret) (Exit.then K Q) l H:=B1 hm (AA h)
theorem Co (hm:U8 n l os=(l',os'))(h:WL P n c os.toArray (Tn P x' (Tn P y' Q)) os' l' H):WL P n c ops (Tn P (((Code.region id os.toArray Ah).seq x').seq y') Q) [] l H:=BN (AX hm h)
theorem CE (h:WC P n c y' Q l H):WK n c (Exit.inBlock id (Tn P y' Q) .normal) l H:=BZ (CM h)
end
def Ye (j:Nat)(w:Bool)(n:Nat)(g:Option Nat):Fr→List Oper→Fr×List Oper
 | l,⟨Ad d,op,ty,pos,af,Ad (j',w')⟩::os=>bif Nat.beq j' j&&(bif w' then w else !w)&&Nat.blt d n&&(match g with | some q=>!Nat.beq q d | none=>Ah) then Ye j w n g ((d,rv undef)::l) os else(l,⟨Ad d,op,ty,pos,af,Ad (j',w')⟩::os)
 | l,os=>(l,os)
theorem V6 (hb:b = !want):∀{os:List Oper} {l l':Fr} {os':List Oper},(DP ops j).bind (look l)=Ad (rB b)→Ye j want n (DP ops j) l os=(l',os')→WL P n c ops Q os' l' H→WL P n c ops Q os l H:=by
 intro os
 induction os with
 | nil=>intro l l' os' hv hs h;unfold Ye at hs;cases hs;exact h
 | cons o os ih=>
  intro l l' os' hv hs h;rcases o with⟨_ | d,op,ty,pos,af,_ | ⟨j',w'⟩⟩
  ·simp only[Ye] at hs;cases hs;exact h
  ·simp only[Ye] at hs;cases hs;exact h
  ·simp only[Ye] at hs;cases hs;exact h
  ·unfold Ye at hs
   cases hc:(Nat.beq j' j&&(bif w' then want else !want)&&Nat.blt d n&&(match DP ops j with | some q=>!Nat.beq q d | none=>Ah)) with
   | false=>rw[hc] at hs;cases hs;exact h
   | true=>
    rw[hc,cond_true] at hs;simp only[Ae9] at hc;obtain⟨⟨⟨h1,h2⟩,h3⟩,h4⟩:=hc;have e1:j'=j:=Nat.eq_of_beq_eq_true h1;have e2:w'=want:=by cases w'<;>cases want<;>simp_all
    subst e1;subst e2;subst hb
    cases hg:DP ops j' with
    | none=>rw[hg] at h4;cases h4
    | some q=>
     rw[hg] at h4 hs hv;have hv2:look l q=Ad (rB (!w')):=hv;replace h4:(!Nat.beq q d)=Af:=h4;refine wz hg hv2 (ih ?_ ?_ h) h3
     ·rw[hg];show look ((d,rv undef)::l) q=_;have hne:(d ==q)=Ah:=by
       cases hq:Nat.beq q d with
       | true=>rw[hq] at h4;cases h4
       | false=>rw[Bool.eq_false_iff];intro e;rw[eq_of_beq e] at hq;simp at hq
      rw[Ds]
      split
      ·rename_i e;subst e;simp at hne
      ·exact hv2
     ·rw[hg];exact hs
theorem CQ {os':List Oper}(hb:b = !want)(hs:Ye j want n (DP ops j) l ({ dst:=Ad d,op:=op,type:=ty,pos:=pos,after:=af,guard:=Ad (j,want) }::os)=(l',os'))(h:WL P n c ops Q os' l' H)(hv:(DP ops j).bind (look l)=Ad (rB b):=by rfl) :
  WL P n c ops Q ({ dst:=Ad d,op:=op,type:=ty,pos:=pos,after:=af,guard:=Ad (j,want) }::os) l H:=V6 hb hv hs h
theorem DO {os':List Oper}(hs:Ye j want n (DP ops j) l ({ dst:=Ad d,op:=op,type:=ty,pos:=pos,after:=af,guard:=Ad (j,want) }::os)=(l',os'))(h:WL P n c ops Q os' l' H)(hv:(DP ops j).bind (look l)=Ad (rB (!want)):=by rfl) :
  WL P n c ops Q ({ dst:=Ad d,op:=op,type:=ty,pos:=pos,after:=af,guard:=Ad (j,want) }::os) l H:=V6 rfl hv hs h
theorem Bq (hb:b=want)(hr:Cd P n c l H { dst:=Ad d,op:=op,type:=ty,pos:=pos,after:=af,guard:=Ai } r)(h:WL P n c ops Q rest ((d,r)::l) H)(hj:DP ops j=Ad dj:=by rfl)(hv:look l dj=Ad (rB b):=by rfl)(hn:Nat.blt d n=Af:=by rfl) :
  WL P n c ops Q ({ dst:=Ad d,op:=op,type:=ty,pos:=pos,after:=af,guard:=Ad (j,want) }::rest) l H:=wo hb (wv hr h hn) hj hv
theorem DL (ys:List α)(enc:α→List Rp){zz:Value}(ht:P.underlying t=Ad (.slice e))(hz:∀w,(sizeOf e).run P w = .ok sz w)(hzv:∀w,(zeroValue e).run P w = .ok zz w)
  (hv:Jy l (parts.toList.map Prod.snd)=Ad rs) (hc:G2 H rs (ys.map enc)) (henc:∀z,Ae (enc z)=sz)
  (h:∀b,WL P n c ops Q rest ((d,rv (.slice (Ad ⟨b,0,Ai⟩) len len))::l) (.row (.slice (Ad ⟨b,0,Ai⟩) len len) e sz (ys.map enc)::H))
  (hparts:parts.toList=((parts.toList.map Prod.snd).zipIdx 0).map λp=>(p.2,p.1):=by rfl) (hlen:Ae ys=len:=by rfl) (hk:(Nat.blt 0 sz,Nat.ble (len*sz) 16777216,Nat.blt d n)=(Af,Af,Af):=by rfl) :
  WL P n c ops Q ({ dst:=Ad d,op:=.buildSlice t len parts,type:=ty,pos:=pos,after:=af,guard:=Ai }::rest) l H:=by
 rw[Prod.mk.injEq,Prod.mk.injEq] at hk;exact Ez ht hz hzv hparts hlen hv hc rfl henc hk.1 hk.2.1 hk.2.2 h
theorem KB {xs:List α}(i:Nat){z:Value}{bytes:Nat}{v:Value}(ht:P.underlying t=Ad (.slice e))(hf:∃inf,P.info? e=Ad inf∧inf.zero=Ad z∧inf.size=sz∧inf.bytes=bytes)
  (hx:ev l x=Ad (rv v)) (hi:H[i]? =Ad (.row v e sz (xs.map enc))) (hy:J2 P n c l H y sz (Ae ys) (ys.map enc).flatten) (henc:∀z,Ae (enc z)=sz) (hone:∀z,(enc z).all (·.one)=Af) (hg:I0 bytes (Ae xs+Ae ys)=Af)
  (h:∀v',WL P n c ops Q rest ((d,rv v')::l) (.row v' e sz ((xs++ys).map enc)::H.eraseIdx i)) (hk:(z.cells.size,Nat.blt 0 sz,Nat.blt 0 bytes,Nat.blt d n)=(sz,Af,Af,Af):=by rfl) :
  WL P n c ops Q ({ dst:=Ad d,op:=.call { callee:=.builtin .append,args:=#[x,y],argTypes:=#[t,t] },type:=ty,pos:=pos,after:=af,guard:=Ai }::rest) l H:=by
 simp only[Prod.mk.injEq] at hk;obtain⟨inf,q1,q2,q3,q4⟩:=hf;exact Qf ht q1 q2 q3 q4 hk.1 hk.2.1 hk.2.2.1 hx hi hy henc hone hg hk.2.2.2 h
theorem GA {P:Program}{t s b:Nat}{z:Value}(key:(P.info? t).map (λi=>(i.zero,i.size,i.bytes))=Ad (Ad z,s,b)):∃inf,P.info? t=Ad inf∧inf.zero=Ad z∧inf.size=s∧inf.bytes=b:=by
 obtain⟨inf,h1,h2⟩:=Option.map_eq_some_iff.1 key;simp only[Prod.mk.injEq] at h2;exact⟨inf,h1,h2.1,h2.2.1,h2.2.2⟩
def VU:List Ent→Option (List Ent)
 | []=>Ad []
 | e::l=>match VU l with
  | none=>Ai
  | some r=>match e with
   | .blk b cs t=>Ad (.blk b cs t::r)
   | e=>Ad (e::r)
theorem SJ:∀{l l':List Ent},VU l=Ad l'→l=l'
 | [],_,h=>by cases h;rfl
 | e::l,l',h=>by
  unfold VU at h
  cases hq:VU l with
  | none=>rw[hq] at h;cases h
  | some r=>
   rw[hq] at h;have:=SJ hq;subst this
   cases e<;>cases h<;>rfl
def ZS {α:Type}:Nat→List α→Option (α×List α)
 | _,[]=>Ai
 | 0,a::l=>Ad (a,l)
 | i+1,a::l=>match ZS i l with
  | some (e,l')=>Ad (e,a::l')
  | none=>Ai
def pkO {α:Type}:List Nat→List α→Option (List α)
 | [],l=>Ad l
 | i::r,l=>match ZS i l with
  | some (e,l1)=>(match pkO r l1 with
   | some l2=>Ad (e::l2)
   | none=>Ai)
  | none=>Ai
theorem Zm {α:Type}:∀{i:Nat} {l l':List α} {e:α},ZS i l=Ad (e,l')→l.Perm (e::l')
 | _,[],_,_,h=>by simp[ZS] at h
 | 0,a::l,_,_,h=>by cases h;exact Ae5 _
 | i+1,a::l,l',e,h=>by
  unfold ZS at h
  cases hq:ZS i l with
  | none=>rw[hq] at h;cases h
  | some p=>rw[hq] at h;cases h;exact((Zm hq).cons a).trans (List.Perm.swap _ a _)
theorem Zq {α:Type}:∀{is:List Nat} {l l':List α},pkO is l=Ad l'→l.Perm l'
 | [],_,_,h=>by cases h;exact Ae5 _
 | i::r,l,l',h=>by
  unfold pkO at h
  cases hq:ZS i l with
  | none=>rw[hq] at h;cases h
  | some p=>
   rw[hq] at h;obtain⟨e,l1⟩:=p
   cases hr:pkO r l1 with
   | none=>simp[hr] at h
   | some l2=>simp only[hr] at h;cases h;exact(Zm hq).trans ((Zq hr).cons e)
theorem K9 {H2:List Ent}(is:List Nat)(hp:pkO is H=Ad H2)(h:WC P n c x' Q l H2):WC P n c x' Q l H:=XO (Zq hp) h
theorem Ck {a:Bool}(h:(!a)=b):a = !b:=Bool.not_eq_eq_eq_not.1 h
theorem Cu {a b:Prop}(x:a)(y:b):a∧b:=⟨x,y⟩
abbrev HB (k:IntKind)(x:Int):Int:=k.wrap x
abbrev B6 (p:Prop)[Decidable p]:Bool:=decide p
theorem sM (m:Nat){l l':List α}(h:NY m l=l'):l'.Sublist l:=h▸Jn m l
theorem bind_some {β:Type}{a:Option α}{f:α→Option β}{b:β}(h:a.bind f=Ad b):∃x,a=Ad x∧f x=Ad b:=by
 cases a with
 | none=>cases h
 | some x=>exact⟨x,rfl,h⟩
theorem vz (hj:(DP ops j).bind (look l)=Ad (rB (!want)))(h:WL P n c ops Q rest ((d,rv undef)::l) H)(hn:Nat.blt d n=Af:=by rfl) :
  WL P n c ops Q ({ dst:=Ad d,op:=op,type:=ty,pos:=pos,after:=af,guard:=Ad (j,want) }::rest) l H:=let ⟨_,h1,h2⟩:=bind_some hj;wz h1 h2 h hn
theorem Gm (hj:(DP ops j).bind (look l)=Ad (rB want))
  (h:WL P n c ops Q ({ dst:=d',op:=op,type:=ty,pos:=pos,after:=af,guard:=Ai }::rest) l H) :
  WL P n c ops Q ({ dst:=d',op:=op,type:=ty,pos:=pos,after:=af,guard:=Ad (j,want) }::rest) l H:=let ⟨_,h1,h2⟩:=bind_some hj;Em h1 h2 rfl h
theorem Ca {X Y:Option α}{s:α}{cx cy:Code}{o:Operand}(h:BR b X Y=Ad s)[ho:FEq (ev l o) (Ad (rB b))](h1:b=Af→X=Ad s→WC P n c cx Q l H)(h2:b=Ah→Y=Ad s→WC P n c cy Q l H):WC P n c (.cond o cx cy) Q l H:=cz h ho.1 h1 h2
theorem CP (hcall:∀(as1:Array Value) (w:World),(callFunc f as1).run P w = .ok (.enter f as1) w)(hc:Fn0 P c.E f rs r)[hv:FEq (Jy l args) (Ad rs)](h:WL P n c ops Q rest ((d,r)::l) H)[hn:FEq (Nat.blt d n) Af] :
  WL P n c ops Q ({ dst:=Ad d,op:=.call { callee:=.value (.func f),args:=args.toArray,argTypes:=ats },type:=ty,pos:=pos,after:=af,guard:=Ai }::rest) l H:=wc0 hcall hc hv.1 h hn.1
theorem B2 [h:FEq (ev l x) (Ad r)]:Cd P n c l H { dst:=d',op:=.move x,type:=ty,pos:=pos,after:=af,guard:=g } r:=Bl h.1
theorem CJ [h:FEq (ev l x) (Ad r)]:Cd P n c l H { dst:=d',op:=.assign x,type:=ty,pos:=pos,after:=af,guard:=g } r:=DF h.1
theorem A2 (hb:b=Af)[hc:FEq (ev l z3) (Ad (rB b))][h:FEq (ev l x) (Ad r)]:Cd P n c l H { dst:=d',op:=.pick z3 x y,type:=ty,pos:=pos,after:=af,guard:=g } r:=Gh hc.1 hb h.1
theorem AD (hb:b=Ah)[hc:FEq (ev l z3) (Ad (rB b))][h:FEq (ev l y) (Ad r)]:Cd P n c l H { dst:=d',op:=.pick z3 x y,type:=ty,pos:=pos,after:=af,guard:=g } r:=DD hc.1 hb h.1
theorem A4 [h:FEq (ev l x) (Ad (DT rs))][hi:FEq rs[i]? (Ad r)]:Cd P n c l H { dst:=d',op:=.extract x i,type:=ty,pos:=pos,after:=af,guard:=g } r:=Gt h.1 hi.1
theorem Az {b off':Nat}{f:Field}[hu:TUn P t (.struct fs)][hf:FEq fs[i]? (Ad f)][T:TB P][hsz:FEq (szl (TB.sz P) f.type) (Ad (sz+1))]
  [hx:FEq (ev l x) (Ad (rv (.pointer (Ad ⟨b,off,Ai⟩))))] [ho:FEq (off+f.offset) off']:Cd P n c l H { dst:=d',op:=.fieldAddr t x i,type:=ty,pos:=pos,after:=af,guard:=g } (rv (.pointer (Ad ⟨b,off',Ai⟩))):=AN hu.1 hf.1 (V0 TB.h hsz.1) hx.1 ho.1
theorem Aw {b:Nat}{cs:List Rp}(i:Nat)[hag:TAg P t Ah][hx:FEq (ev l x) (Ad (rv (.pointer (Ad ⟨b,off,Ai⟩))))][hi:FEq H[i]? (Ad (.blk b cs e))][hc:FEq cs[off]? (Ad r)] :
  Cd P n c l H { dst:=d',op:=.load t x,type:=ty,pos:=pos,after:=af,guard:=g } r:=BB (i:=i) hag.1 hx.1 hi.1 hc.1
theorem AB {b:Nat}{cs s:List Rp}(i:Nat)[hag:TAg P t Af][hsz:TSz P t sz][hx:FEq (ev l x) (Ad (rv (.pointer (Ad ⟨b,off,Ai⟩))))][hi:FEq H[i]? (Ad (.blk b cs e))][hr:FEq ((cs.drop off).take sz) s][hl:FEq (Ae s) sz] :
  Cd P n c l H { dst:=d',op:=.load t x,type:=ty,pos:=pos,after:=af,guard:=g } (BL s):=Cy (i:=i) hag.1 hsz.1 hx.1 hi.1 hr.1 hl.1
theorem Cb [Inhabited α]{i:Int}(hg:Do i (Ae ys:Int)=Af)[ht:TUn P t (.slice e)][hz:TSz P e sz][h:FEq (ev l x) (Ad (B3 sz (ys.map enc)))][hi:FEq (ev l y) (Ad (rI k i))] :
  Cd P n c l H { dst:=d',op:=.indexAddr t x y,type:=ty,pos:=pos,after:=af,guard:=g } (MO (enc (A8 ys i))):=DN ht.1 hz.1 h.1 hi.1 hg
theorem B8 {cs:List Rp}[hag:TAg P t Ah][hx:FEq (ev l x) (Ad (MO cs))][hc:FEq cs[0]? (Ad r)] :
  Cd P n c l H { dst:=d',op:=.load t x,type:=ty,pos:=pos,after:=af,guard:=g } r:=Dj hag.1 hx.1 hc.1
theorem C0 {cs s:List Rp}[hag:TAg P t Af][hsz:TSz P t sz][hx:FEq (ev l x) (Ad (MO cs))][hr:FEq (cs.take sz) s][hl:FEq (Ae s) sz] :
  Cd P n c l H { dst:=d',op:=.load t x,type:=ty,pos:=pos,after:=af,guard:=g } (BL s):=Jo hag.1 hsz.1 hx.1 hr.1 hl.1
theorem Dm {cs:List Rp}{f:Field}[hu:TUn P t (.struct fs)][hf:FEq fs[i]? (Ad f)][T:TB P][hsz:FEq (szl (TB.sz P) f.type) (Ad (sz+1))]
  [hx:FEq (ev l x) (Ad (MO cs))] [ho:FEq (cs.drop f.offset) cs']:Cd P n c l H { dst:=d',op:=.fieldAddr t x i,type:=ty,pos:=pos,after:=af,guard:=g } (MO cs'):=CC hu.1 hf.1 (V0 TB.h hsz.1) hx.1 ho.1
theorem AZ [ht:TUn P t (.slice e)][h:FEq (ev l x) (Ad (B3 sz (ys.map enc)))]:Cd P n c l H { dst:=d',op:=.call { callee:=.builtin .len,args:=#[x],argTypes:=#[t] },type:=ty,pos:=pos,after:=af,guard:=g } (rI .i64 (Ae ys)):=G9 ht.1 h.1
theorem Dl {p:List UInt8}[ht:TUn P t .string][h:FEq (ev l x) (Ad (rS p))]:Cd P n c l H { dst:=d',op:=.call { callee:=.builtin .len,args:=#[x],argTypes:=#[t] },type:=ty,pos:=pos,after:=af,guard:=g } (rv (.int .i64 (Ae p))):=Mb ht.1 h.1
theorem Ek {p:List UInt8}{i:Int}(hg:Do i (Ae p:Int)=Af)[ht:TUn P t .string][h:FEq (ev l x) (Ad (rS p))][hi:FEq (ev l y) (Ad (rI k i))] :
  Cd P n c l H { dst:=d',op:=.index t x y,type:=ty,pos:=pos,after:=af,guard:=g } (rI .u8 (Gp p i)):=Od ht.1 h.1 hi.1 hg
theorem AR {p:Addr}[hx:FEq (ev l x) (Ad (rv (.pointer (Ad p))))]:Cd P n c l H { dst:=d',op:=.nilCheck x,type:=ty,pos:=pos,after:=af,guard:=g } (rv (.pointer (Ad p))):=Ci hx.1
theorem Ch [h:FEq (ev l x) (Ad (rB b))]:Cd P n c l H { dst:=d',op:=.unOp .not t x,type:=ty,pos:=pos,after:=af,guard:=g } (rB (!b)):=MP h.1
section
variable {k : IntKind} {p q : Int} [hx : FEq (ev l x) (Ad (rI k p))] [hy : FEq (ev l y) (Ad (rI k q))]
include hx hy
theorem Bb:Cd P n c l H { dst:=d',op:=.binOp .eql t x y t',type:=ty,pos:=pos,after:=af,guard:=g } (rv (.bool (Ac (p=q)))):=Qx hx.1 hy.1
theorem BS:Cd P n c l H { dst:=d',op:=.binOp .neq t x y t',type:=ty,pos:=pos,after:=af,guard:=g } (rv (.bool (!Ac (p=q)))):=TN hx.1 hy.1
theorem B5:Cd P n c l H { dst:=d',op:=.binOp .lss t x y t',type:=ty,pos:=pos,after:=af,guard:=g } (rv (.bool (Ac (p<q)))):=VS hx.1 hy.1
theorem GJ:Cd P n c l H { dst:=d',op:=.binOp .leq t x y t',type:=ty,pos:=pos,after:=af,guard:=g } (rv (.bool (Ac (p≤q)))):=Qw hx.1 hy.1
theorem C9:Cd P n c l H { dst:=d',op:=.binOp .gtr t x y t',type:=ty,pos:=pos,after:=af,guard:=g } (rv (.bool (Ac (q<p)))):=OX hx.1 hy.1
theorem Eo:Cd P n c l H { dst:=d',op:=.binOp .geq t x y t',type:=ty,pos:=pos,after:=af,guard:=g } (rv (.bool (Ac (q≤p)))):=R8 hx.1 hy.1
theorem Bv (hz:CO k (p+q)=Af):Cd P n c l H { dst:=d',op:=.binOp .add t x y t',type:=ty,pos:=pos,after:=af,guard:=g } (rv (.int k (p+q))):=Qy hx.1 hy.1 hz
theorem DG (hz:CO k (p-q)=Af):Cd P n c l H { dst:=d',op:=.binOp .sub t x y t',type:=ty,pos:=pos,after:=af,guard:=g } (rv (.int k (p-q))):=IF hx.1 hy.1 hz
end
section
variable {p q : List UInt8} [hx : FEq (ev l x) (Ad (rS p))] [hy : FEq (ev l y) (Ad (rS q))]
include hx hy
theorem C5:Cd P n c l H { dst:=d',op:=.binOp .eql t x y t',type:=ty,pos:=pos,after:=af,guard:=g } (rv (.bool (Ac (p=q)))):=Zt hx.1 hy.1
theorem AcI (hz:CO .i64 ((Ae p:Int)+(Ae q:Int))=Af):Cd P n c l H { dst:=d',op:=.binOp .add t x y t',type:=ty,pos:=pos,after:=af,guard:=g } (rv (.string (B (p++q)))):=VR hx.1 hy.1 hz
end
theorem AO [h:FEq (look l i) (Ad r)]:RV P n c l H (.tmp i) r:=Yg h.1
omit I in
theorem D2 {fn:Func}{i:Nat}{q:Rp}{Φ:Rp→List Ent→Prop}(hr:fn.results = #[.tmp i])(hΦ:Φ q [])[h:FEq (look l i) (Ad q)]:@WK dfr0 n c (bodyPost P fn (U9 c Φ) .ret) l H:=A5 (CH hr (Yg h.1)) (List.nil_sublist _) hΦ
omit I in
theorem Zp {fn:Func}{i j:Nat}{q s:Rp}{Φ:Rp→List Ent→Prop}(hr:fn.results = #[.tmp i,.tmp j])(hΦ:Φ (DT [q,s]) [])[h:FEq (look l i) (Ad q)][h':FEq (look l j) (Ad s)]:@WK dfr0 n c (bodyPost P fn (U9 c Φ) .ret) l H:=A5 (Gr hr (Yg h.1) (Yg h'.1)) (List.nil_sublist _) hΦ
end
def GF:List Rp→Nat→List Rp→Option (List Rp)
 | cs,0,[]=>Ad cs
 | [],_,_=>Ai
 | _::cs,0,n::ns=>match GF cs 0 ns with
  | some r=>Ad (n::r)
  | none=>Ai
 | c::cs,k+1,ns=>match GF cs k ns with
  | some r=>Ad (c::r)
  | none=>Ai
def Wm:List Value→Option (List Rp)
 | []=>Ad []
 | z::zs=>match Wm zs with
  | some r=>Ad (rv z::r)
  | none=>Ai
def Ol (place:Nat→Option (Nat×Nat)):Option (List Rp)→List (Nat×List Rp)→Option (List Rp)
 | o,[]=>o
 | none,_=>Ai
 | some cs,(i,ns)::rest=>match place i with
  | some (off,size)=>bif Nat.beq (Ae ns) size then Ol place (GF cs off ns) rest else Ai
  | none=>Ai
theorem NX:∀{cs:List Rp} {off:Nat} {n:Rp} {ns out:List Rp},GF cs off (n::ns)=Ad out→GF (cs.set off n) (off+1) ns=Ad out
 | [],0,n,ns,out,h=>by simp[GF] at h
 | [],_+1,n,ns,out,h=>by simp[GF] at h
 | c::cs,0,n,ns,out,h=>by simpa[GF] using h
 | c::cs,k+1,n,ns,out,h=>by
  unfold GF at h
  cases hq:GF cs k (n::ns) with
  | none=>rw[hq] at h;cases h
  | some r=>
   rw[hq] at h;cases h;rw[List.set_cons_succ,GF,NX hq]
theorem OT:∀{cs:List Rp} {off:Nat} {ns out:List Rp},GF cs off ns=Ad out→off+Ae ns≤Ae cs
 | cs,0,[],out,h=>by simp
 | [],0,n::ns,out,h=>by simp[GF] at h
 | [],_+1,ns,out,h=>by simp[GF] at h
 | c::cs,0,n::ns,out,h=>by
  unfold GF at h
  cases hq:GF cs 0 ns with
  | none=>rw[hq] at h;cases h
  | some r=>have:=OT hq;simp at this ⊢;omega
 | c::cs,k+1,ns,out,h=>by
  unfold GF at h
  cases hq:GF cs k ns with
  | none=>rw[hq] at h;cases h
  | some r=>have:=OT hq;simp at this ⊢;omega
theorem BH.setv {Z:Fz}{n:Rp}{u:Value}(hn:n.p Z u):∀{cs:List Rp} {vs:List Value} {i:Nat},BH Z cs vs→BH Z (cs.set i n) (vs.set i u)
 | [],[],_,h=>trivial
 | c::cs,v::vs,0,⟨h1,h2⟩=>⟨hn,h2⟩
 | c::cs,v::vs,i+1,⟨h1,h2⟩=>⟨h1,BH.setv hn h2⟩
theorem Qr:∀{cs:List Rp} {off:Nat} {out:List Rp},GF cs off []=Ad out→out=cs
 | cs,0,out,h=>by simp[GF] at h;exact h.symm
 | [],_+1,out,h=>by simp[GF] at h
 | c::cs,k+1,out,h=>by
  unfold GF at h
  cases hq:GF cs k [] with
  | none=>rw[hq] at h;cases h
  | some r=>rw[hq] at h;cases h;rw[Qr hq]
theorem QD {Z:Fz}{off:Nat}:∀{us:List Value} {ns:List Rp} {k:Nat} {A:Array Value} {cs out:List Rp},BH Z ns us→BH Z cs A.toList→GF cs (off+k) ns=Ad out→
  BH Z out ((us.zipIdx k).foldl (λA p=>A.setIfInBounds (off+p.2) p.1) A).toList
 | [],[],k,A,cs,out,_,hc,ho=>by rw[Qr ho];simpa using hc
 | u::us,n::ns,k,A,cs,out,⟨h1,h2⟩,hc,ho=>by
  rw[List.zipIdx_cons,List.foldl_cons];refine QD (k:=k+1) (cs:=cs.set (off+k) n) h2 ?_ (NX ho);rw[Array.toList_setIfInBounds];exact BH.setv h1 hc
theorem BH.len2 {Z:Fz}:∀{cs:List Rp} {vs:List Value},BH Z cs vs→Ae cs=Ae vs
 | [],[],_=>rfl
 | c::cs,v::vs,⟨_,h⟩=>by simp[BH.len2 h]
def AaL (Z:Fz):List (Nat×List Rp)→List (Nat×Value)→Prop
 | [],[]=>True
 | p::ps,q::qs=>p.1=q.1∧BH Z p.2 q.2.cells.toList∧AaL Z ps qs
 | _,_=>False
theorem Nk:∀{ps:List (Nat×List Rp)},Ol place Ai ps=Ai
 | []=>rfl
 | _::_=>rfl
theorem Tf {Z:Fz}{place:Nat→Option (Nat×Nat)}:∀{ps:List (Nat×List Rp)} {qs:List (Nat×Value)} {A:Array Value} {cs out:List Rp},AaL Z ps qs→BH Z cs A.toList→Ol place (Ad cs) ps=Ad out→
  ∃B,Instr.fill place A qs=Ad B∧BH Z out B.toList
 | [],[],A,cs,out,_,hc,h=>by cases h;exact⟨A,rfl,hc⟩
 | (i,ns)::ps,(j,v)::qs,A,cs,out,⟨e,h1,h2⟩,hc,h=>by
  replace e:i=j:=e;subst e;unfold Ol at h
  cases hp:place i with
  | none=>rw[hp] at h;cases h
  | some p=>
   obtain⟨off,size⟩:=p;simp only[hp] at h
   cases hb:Nat.beq (Ae ns) size with
   | false=>rw[hb] at h;cases h
   | true=>
    rw[hb,cond_true] at h
    cases hq:GF cs off ns with
    | none=>rw[hq,Nk] at h;cases h
    | some cs2=>
     rw[hq] at h;have hl:=BH.len2 h1;replace hl:Ae ns=v.cells.size:=by simpa using hl
     have hs:v.cells.size=size:=by rw[← hl];exact Nat.eq_of_beq_eq_true hb
     have hle:=OT hq;have hlc:=BH.len2 hc;have hf:=QD (off:=off) (k:=0) (A:=A) h1 hc hq;unfold Instr.fill;simp only[hp];rw[AeN (by simp at hlc ⊢;exact⟨hs,Ab⟩)];refine Tf h2 ?_ h;have:(v.cells.zipIdx.foldl (λcs x=>match x with | (c,j)=>cs.setIfInBounds (off+j) c) A)=(v.cells.toList.zipIdx 0).foldl (λA p=>A.setIfInBounds (off+p.2) p.1) A:=by
      rw[← Array.foldl_toList,Array.toList_zipIdx]
     rw[this];exact hf
theorem SR {Z:Fz}:∀{zs:List Value} {cs:List Rp},Wm zs=Ad cs→BH Z cs zs
 | [],_,h=>by cases h;trivial
 | z::zs,cs,h=>by
  unfold Wm at h
  cases hq:Wm zs with
  | none=>rw[hq] at h;cases h
  | some r=>rw[hq] at h;cases h;exact⟨rfl,SR hq⟩
theorem Uo {o:Option (List Rp)}{ps:List (Nat×List Rp)}{out:List Rp}(h:Ol place o ps=Ad out):∃cs,o=Ad cs:=by
 cases o with
 | none=>rw[Nk] at h;cases h
 | some cs=>exact⟨cs,rfl⟩
section
variable {P : Program} {n : Nat} {c : Cx} {l : Fr} {H : List Ent} {d : Option Nat} {t ty : TypeId} {pos : String} {af : Array Edge} {g : Option (Nat × Bool)}
theorem Ac7 {Z:Fz}{w:World}(hw:St c H Z w):∀{ps:List (Nat×Operand)} {rs:List Rp} {css:List (List Rp)} {a:Act},BH Z rs (ps.map λp=>a.eval p.2)→G2 H rs css→AaL Z ((ps.map Prod.fst).zip css) (ps.map λp=>(p.1,a.eval p.2))
 | [],[],[],_,_,_=>trivial
 | p::ps,r::rs,cs::css,a,⟨h1,h2⟩,⟨h3,h4⟩=>⟨rfl,h3 c Z w _ hw h1,Ac7 hw h2 h4⟩
theorem C3 {zs:List Value}{ps:Array (Nat×Operand)}{out:List Rp}(hb:∀parts,P.built t parts=Instr.fill place zs.toArray parts)
  (hv:Jy l (ps.toList.map Prod.snd)=Ad rs) (hc:G2 H rs css) (ho:Ol place (Wm zs) ((ps.toList.map Prod.fst).zip css)=Ad out) :
  Cd P n c l H { dst:=d,op:=.build t ps,type:=ty,pos:=pos,after:=af,guard:=g } (BL out):=λa w Z ha hw=>by
 obtain⟨cs0,h0⟩:=Uo ho;rw[h0] at ho;have h1:=E9 ha hv;rw[AeV] at h1;obtain⟨B,h2,h3⟩:=Tf (A:=zs.toArray) (Ac7 hw h1 hc) (by simpa using SR h0) ho;have h4:P.built t (ps.map λp=>(p.1,a.eval p.2)).toList=Ad B:=by rw[hb];simpa using h2
 have:=run_build w t (ps.map λp=>(p.1,a.eval p.2)) _ h4;exact⟨.agg B,⟨B.toList,Aj,h3⟩,by simp[execOp,this]⟩
end
theorem cA {cs:List Rp}:UB H (BL cs) cs:=UB.agg (EA.refl _)
theorem cO (h:r.one=Af):UB H r [r]:=UB.one h (Up.refl _)
theorem cN:G2 H [] []:=trivial
theorem YR {cs:List Rp}(t:G2 H rs css):G2 H (BL cs::rs) (cs::css):=⟨cA,t⟩
theorem D0 (h:r.one=Af)(t:G2 H rs css):G2 H (r::rs) ([r]::css):=⟨cO h,t⟩
abbrev Ac1:=TAg.mk NL
abbrev Ac0:=TAg.mk NK
abbrev Acz:=TAg.mk isAgg120
abbrev Acy:=TAg.mk isAgg122
abbrev Acx:=TAg.mk isAgg127
abbrev Acw:=TAg.mk isAgg128
abbrev Acv:=TAg.mk isAgg154
abbrev Acu:=TAg.mk K0
abbrev Acs:=TAg.mk J8
abbrev Acr:=TAg.mk J7
abbrev Acq:=TAg.mk isAgg184
abbrev Acp:=TAg.mk isAgg208
abbrev Aco:=TAg.mk isAgg210
abbrev Acn:=TAg.mk isAgg219
abbrev Acm:=TAg.mk isAgg221
abbrev Acl:=TAg.mk isAgg237
abbrev Aea:=TAg.mk X6
abbrev Ack:=TAg.mk isAgg268
abbrev fi3:=TAg.mk EF
abbrev AdZ:=TAg.mk isAgg31
abbrev AdY:=TAg.mk isAgg33
abbrev AdX:=TAg.mk Tx
abbrev AdW:=TAg.mk UR
abbrev AdV:=TAg.mk GK
abbrev fi4:=TAg.mk ya4
abbrev AdU:=TAg.mk isAgg42
abbrev AdT:=TAg.mk isAgg44
abbrev AdS:=TAg.mk Lj
abbrev fi5:=TAg.mk isAgg5
abbrev AdR:=TAg.mk Tw
abbrev AdQ:=TAg.mk isAgg57
abbrev AdP:=TAg.mk isAgg58
abbrev AdO:=TAg.mk isAgg60
abbrev AdN:=TAg.mk isAgg63
abbrev AdM:=TAg.mk Li
abbrev AdL:=TAg.mk UQ
abbrev AdK:=TAg.mk isAgg69
abbrev AdJ:=TAg.mk UP
abbrev AdI:=TAg.mk isAgg71
abbrev AdH:=TAg.mk isAgg73
abbrev AdG:=TAg.mk PU
abbrev AdF:=TAg.mk isAgg79
abbrev fi9:=TAg.mk Xv
abbrev AdE:=TAg.mk isAgg94
abbrev Aci:=TSz.mk Ms
abbrev Ach:=TSz.mk PL
abbrev Acg:=TSz.mk I5
abbrev Acf:=TSz.mk Mr
abbrev Ace:=TSz.mk Sr
abbrev Acd:=TSz.mk Ge
abbrev Acc:=TSz.mk sizeOf148
abbrev Acb:=TSz.mk PK
abbrev Aca:=TSz.mk Di
abbrev AbZ:=TSz.mk I4
abbrev AbY:=TSz.mk DS
abbrev AbX:=TSz.mk J4
abbrev AbW:=TSz.mk sizeOf208
abbrev AbV:=TSz.mk I3
abbrev AbU:=TSz.mk sizeOf219
abbrev AbT:=TSz.mk sizeOf221
abbrev AbS:=TSz.mk Mq
abbrev AbR:=TSz.mk NF
abbrev fs3:=TSz.mk D9
abbrev AdD:=TSz.mk sizeOf31
abbrev AdC:=TSz.mk PI
abbrev AdB:=TSz.mk Hv
abbrev AdA:=TSz.mk N3
abbrev Ad9:=TSz.mk D1
abbrev fs4:=TSz.mk Ny
abbrev Ad8:=TSz.mk sizeOf42
abbrev Ad7:=TSz.mk sizeOf44
abbrev Ad6:=TSz.mk Ky
abbrev fs5:=TSz.mk sizeOf5
abbrev Ad5:=TSz.mk Gq
abbrev Ad4:=TSz.mk X2
abbrev Ad3:=TSz.mk X1
abbrev Ad2:=TSz.mk Re
abbrev Ad1:=TSz.mk X0
abbrev Ad0:=TSz.mk Jw
abbrev Adz:=TSz.mk Hu
abbrev Ady:=TSz.mk sizeOf69
abbrev Adx:=TSz.mk LT
abbrev Adw:=TSz.mk Xz
abbrev Adv:=TSz.mk sizeOf73
abbrev Adu:=TSz.mk Ht
abbrev Adt:=TSz.mk sizeOf79
abbrev Ads:=TSz.mk sizeOf86
abbrev fs9:=TSz.mk IZ
abbrev AbQ:=TUn.mk LK
abbrev AbP:=TUn.mk LJ
abbrev AbO:=TUn.mk HE
abbrev AbN:=TUn.mk DV
abbrev AbM:=TUn.mk So
abbrev AbL:=TUn.mk underlying127
abbrev AbK:=TUn.mk DB
abbrev AbJ:=TUn.mk underlying130
abbrev AbI:=TUn.mk G5
abbrev AbH:=TUn.mk EO
abbrev AbG:=TUn.mk underlying150
abbrev AbF:=TUn.mk Mp
abbrev AbE:=TUn.mk HD
abbrev AbD:=TUn.mk PH
abbrev AbC:=TUn.mk DA
abbrev AbB:=TUn.mk Sn
abbrev Adr:=TUn.mk ZG
abbrev AbA:=TUn.mk underlying223
abbrev Ab9:=TUn.mk underlying240
abbrev Ab8:=TUn.mk underlying268
abbrev Adq:=TUn.mk ZF
abbrev Adp:=TUn.mk Rd
abbrev Ado:=TUn.mk underlying36
abbrev Adn:=TUn.mk Ts
abbrev Adm:=TUn.mk underlying42
abbrev Adl:=TUn.mk underlying44
abbrev Adk:=TUn.mk Gd
abbrev Adj:=TUn.mk N2
abbrev Adi:=TUn.mk UF
abbrev Adh:=TUn.mk ZE
abbrev Adg:=TUn.mk ZD
abbrev Adf:=TUn.mk ZC
abbrev Ade:=TUn.mk HP
abbrev Add:=TUn.mk Kx
abbrev Adc:=TUn.mk JG
abbrev Adb:=TUn.mk underlying71
abbrev Ada:=TUn.mk underlying73
abbrev AcZ:=TUn.mk UE
abbrev AcY:=TUn.mk UD
abbrev AcX:=TUn.mk underlying81
abbrev AcW:=TUn.mk Rc
abbrev fu9:=TUn.mk Lg
attribute [instance] Ac1 Ac0 Acz Acy Acx Acw Acv Acu Acs Acr Acq Acp Aco Acn Acm Acl Aea Ack fi3 AdZ AdY AdX AdW AdV fi4 AdU AdT AdS fi5 AdR AdQ AdP AdO AdN AdM AdL AdK AdJ AdI AdH AdG AdF fi9 AdE Aci Ach Acg Acf Ace Acd Acc Acb Aca AbZ AbY AbX AbW AbV AbU AbT AbS AbR fs3 AdD AdC AdB AdA Ad9 fs4 Ad8 Ad7 Ad6 fs5 Ad5 Ad4 Ad3 Ad2 Ad1 Ad0 Adz Ady Adx Adw Adv Adu Adt Ads fs9 AbQ AbP AbO AbN AbM AbL AbK AbJ AbI AbH AbG AbF AbE AbD AbC AbB Adr AbA Ab9 Ab8 Adq Adp Ado Adn Adm Adl Adk Adj Adi Adh Adg Adf Ade Add Adc Adb Ada AcZ AcY AcX AcW fu9
instance:TB prog:=⟨[(107,_),(120,_),(122,_),(127,_),(128,_),(138,_),(148,_),(154,_),(156,_),(168,_),(170,_),(184,_),(208,_),(210,_),(219,_),(221,_),(237,_),(268,_),(3,_),(31,_),(33,_),(34,_),(36,_),(38,_),(4,_),(42,_),(44,_),(45,_),(5,_),(51,_),(57,_),(58,_),(60,_),(63,_),(64,_),(66,_),(69,_),(70,_),(71,_),(73,_),(75,_),(79,_),(86,_),(9,_)],List.forall_mem_cons.2 ⟨Ms,List.forall_mem_cons.2 ⟨PL,List.forall_mem_cons.2 ⟨I5,List.forall_mem_cons.2 ⟨Mr,List.forall_mem_cons.2 ⟨Sr,List.forall_mem_cons.2 ⟨Ge,List.forall_mem_cons.2 ⟨sizeOf148,List.forall_mem_cons.2 ⟨PK,List.forall_mem_cons.2 ⟨Di,List.forall_mem_cons.2 ⟨I4,List.forall_mem_cons.2 ⟨DS,List.forall_mem_cons.2 ⟨J4,List.forall_mem_cons.2 ⟨sizeOf208,List.forall_mem_cons.2 ⟨I3,List.forall_mem_cons.2 ⟨sizeOf219,List.forall_mem_cons.2 ⟨sizeOf221,List.forall_mem_cons.2 ⟨Mq,List.forall_mem_cons.2 ⟨NF,List.forall_mem_cons.2 ⟨D9,List.forall_mem_cons.2 ⟨sizeOf31,List.forall_mem_cons.2 ⟨PI,List.forall_mem_cons.2 ⟨Hv,List.forall_mem_cons.2 ⟨N3,List.forall_mem_cons.2 ⟨D1,List.forall_mem_cons.2 ⟨Ny,List.forall_mem_cons.2 ⟨sizeOf42,List.forall_mem_cons.2 ⟨sizeOf44,List.forall_mem_cons.2 ⟨Ky,List.forall_mem_cons.2 ⟨sizeOf5,List.forall_mem_cons.2 ⟨Gq,List.forall_mem_cons.2 ⟨X2,List.forall_mem_cons.2 ⟨X1,List.forall_mem_cons.2 ⟨Re,List.forall_mem_cons.2 ⟨X0,List.forall_mem_cons.2 ⟨Jw,List.forall_mem_cons.2 ⟨Hu,List.forall_mem_cons.2 ⟨sizeOf69,List.forall_mem_cons.2 ⟨LT,List.forall_mem_cons.2 ⟨Xz,List.forall_mem_cons.2 ⟨sizeOf73,List.forall_mem_cons.2 ⟨Ht,List.forall_mem_cons.2 ⟨sizeOf79,List.forall_mem_cons.2 ⟨sizeOf86,List.forall_mem_cons.2 ⟨IZ,List.forall_mem_nil _⟩⟩⟩⟩⟩⟩⟩⟩⟩⟩⟩⟩⟩⟩⟩⟩⟩⟩⟩⟩⟩⟩⟩⟩⟩⟩⟩⟩⟩⟩⟩⟩⟩⟩⟩⟩⟩⟩⟩⟩⟩⟩⟩⟩⟩
end
end Go.Proofs.YtoegakndmanfoaaGreatDoor.Q
namespace Go.Proofs
open Go.Shelf
def Tryz.laysM171_ren:Go.Shelf.Ren:=⟨fun | 171=>217 | 243=>246 | 246=>266 | 283=>283 | 284=>284 | 285=>285 | 286=>286 | 129=>294 | 317=>293 | 318=>295 | 319=>296 | 320=>297 | 337=>301 | 338=>302 | n=>n,fun | 3=>3 | 9=>9 | 2=>2 | 4=>4 | 171=>349 | 0=>0 | 53=>193 | 37=>22 | 5=>5 | 173=>352 | 212=>357 | 51=>346 | 20=>20 | 213=>358 | 46=>247 | 232=>363 | 233=>364 | n=>n,fun | 17=>4 | 18=>5 | 19=>6 | n=>n⟩
theorem Tryz.laysM171:Go.Proofs.LaysM.n171 prog Tryz.laysM171_ren:={
 mixed:=by kernel_rfl
 f129:=func294.trans (congrArg Ad (by kernel_rfl))
 f171:=func217.trans (congrArg Ad (by kernel_rfl))
 f243:=func246.trans (congrArg Ad (by kernel_rfl))
 f246:=func266.trans (congrArg Ad (by kernel_rfl))
 f283:=func283.trans (congrArg Ad (by kernel_rfl))
 f284:=func284.trans (congrArg Ad (by kernel_rfl))
 f285:=func285.trans (congrArg Ad (by kernel_rfl))
 f286:=func286.trans (congrArg Ad (by kernel_rfl))
 f317:=func293.trans (congrArg Ad (by kernel_rfl))
 f318:=func295.trans (congrArg Ad (by kernel_rfl))
 f319:=func296.trans (congrArg Ad (by kernel_rfl))
 f320:=func297.trans (congrArg Ad (by kernel_rfl))
 f337:=func301.trans (congrArg Ad (by kernel_rfl))
 f338:=func302.trans (congrArg Ad (by kernel_rfl))
 t0:=underlying0
 a0:=isAgg0
 z0:=sizeOf0
 v0:=zeroValue0
 t2:=underlying2
 a2:=isAgg2
 z2:=sizeOf2
 v2:=zeroValue2
 t3:=underlying3
 a3:=isAgg3
 z3:=sizeOf3
 v3:=zeroValue3
 t4:=underlying4
 a4:=isAgg4
 z4:=sizeOf4
 v4:=zeroValue4
 t5:=underlying5
 a5:=isAgg5
 z5:=sizeOf5
 v5:=zeroValue5
 t9:=underlying9
 a9:=isAgg9
 z9:=sizeOf9
 v9:=zeroValue9
 t20:=underlying20
 a20:=isAgg20
 z20:=sizeOf20
 v20:=zeroValue20
 t37:=underlying22
 a37:=isAgg22
 z37:=sizeOf22
 v37:=zeroValue22
 t46:=underlying247
 a46:=isAgg247
 z46:=sizeOf247
 v46:=zeroValue247
 t51:=underlying346
 a51:=isAgg346
 z51:=sizeOf346
 v51:=zeroValue346
 t53:=underlying193
 a53:=isAgg193
 z53:=sizeOf193
 v53:=zeroValue193
 t171:=underlying349
 a171:=isAgg349
 z171:=sizeOf349
 v171:=zeroValue349
 t173:=underlying352
 a173:=isAgg352
 z173:=sizeOf352
 v173:=zeroValue352
 t212:=underlying357
 a212:=isAgg357
 z212:=sizeOf357
 v212:=zeroValue357
 t213:=underlying358
 a213:=isAgg358
 z213:=sizeOf358
 t232:=underlying363
 a232:=isAgg363
 z232:=sizeOf363
 v232:=zeroValue363
 t233:=underlying364
 a233:=isAgg364
 z233:=sizeOf364
 v233:=zeroValue364
 g17:=by kernel_rfl
 g18:=by kernel_rfl
 g19:=by kernel_rfl
 i0:=by kernel_rfl
 i2:=by kernel_rfl
 i3:=by kernel_rfl
 i4:=by kernel_rfl
 i5:=by kernel_rfl
 i9:=by kernel_rfl
 i20:=by kernel_rfl
 i37:=by kernel_rfl
 i46:=by kernel_rfl
 i51:=by kernel_rfl
 i53:=by kernel_rfl
 i171:=by kernel_rfl
 i173:=by kernel_rfl
 i212:=by kernel_rfl
 i232:=by kernel_rfl
 i233:=by kernel_rfl
 m17:=by kernel_rfl
 m18:=by kernel_rfl
 m19:=by kernel_rfl }
open Go.RowKit Go.Sort Go.Lib in
theorem Tryz.strconv_Itoa (n : Int) (h0 : -9223372036854775808 ≤ n) (h1 : n ≤ 9223372036854775807) (w : World) (htab : Lib.TabIs prog w "internal/strconv.uint64pow10" .u64 Lib.pow10Tab) :
  Calls prog 217 #[.int .i64 n] w λe w'=>e = .returned (.string ⟨(Lib.itoa n).toArray⟩)∧∃k os,w'=grow (w.drewN k) os:=Any.strconv_Itoa Tryz.laysM171 n h0 h1 w htab
end Go.Proofs
namespace Go.Proofs.YtoegakndmanfoaaGreatDoor
open Go Go.RowKit
set_option linter.unusedVariables false
noncomputable def IG:Nat:=Nat.max (Nat.max (Nat.max 4 3) 6) 0+1
def Te:DataW Unit→Value
 | .lit (.int k z)=>.int k z
 | .lit (.bool b)=>.bool b
 | .lit (.string s)=>.string (B s)
 | _=>undef
def Mk:DataW Unit→List Value
 | .agg es=>es.map Te
 | _=>[]
def Nj:DataW Unit→List Value
 | .agg ds=>ds.flatMap Mk
 | _=>[]
def ID:List Value:=Nj Rows.laid_faas_code_shapes
def Zl:List Int:=Lib.deBruijn64tab.map Int.ofNat
structure P9 (w:World):Prop where
 pow : Lib.TabIs prog w "internal/strconv.uint64pow10" .u64 Lib.pow10Tab
 tz : Lib.TabIs prog w "math/bits.deBruijn64tab" .u8 Zl
 rng : ∃ tp p, w.var? prog "strconv.ErrRange" = Ad #[.iface tp p]
 shp : w.var? prog "faas/code.shapes" = Ad ID.toArray
theorem Aa3 : prog.globalNamed "internal/strconv.uint64pow10" = Ad 4 := by kernel_rfl
theorem Aa2 : prog.globalNamed "strconv.ErrRange" = Ad 3 := by kernel_rfl
theorem gTz : prog.globalNamed "math/bits.deBruijn64tab" = Ad 6 := by kernel_rfl
theorem W6 : prog.globalNamed "faas/code.shapes" = Ad 0 := by kernel_rfl
theorem TU:0<IG:=by decide +kernel
theorem VV:6<IG:=by decide +kernel
theorem TW:4<IG:=by decide +kernel
theorem TV:3<IG:=by decide +kernel
theorem P9.block (w w':World)(h:∀k,k<IG→w'.heap[k]? =w.heap[k]?)(hT:P9 w):P9 w':=by
 obtain⟨tp,p,hr⟩:=hT.rng;have hp:=hT.pow;have hz:=hT.tz;have hs:=hT.shp;unfold Lib.TabIs at hp hz;refine⟨?_,?_,⟨tp,p,?_⟩,?_⟩
 ·unfold Lib.TabIs;unfold World.var? at hp ⊢;rw[Aa3] at hp ⊢;simp only[Option.bind_some] at hp ⊢;rw[h _ TW];exact hp
 ·unfold Lib.TabIs;unfold World.var? at hz ⊢;rw[gTz] at hz ⊢;simp only[Option.bind_some] at hz ⊢;rw[h _ VV];exact hz
 ·unfold World.var? at hr ⊢;rw[Aa2] at hr ⊢;simp only[Option.bind_some] at hr ⊢;rw[h _ TV];exact hr
 ·unfold World.var? at hs ⊢;rw[W6] at hs ⊢;simp only[Option.bind_some] at hs ⊢;rw[h _ TU];exact hs
def Xt (w:World)(M:List Nat):Prop:=IG≤w.heap.size∧∀k∈M,IG≤k
variable{H:List Ent}{w:World}
theorem P9.st {w0:World}{M:List Nat}(hT:P9 w0)(hG:Xt w0 M)(hw:St w0 M H w):P9 w:=
 P9.block w0 w (λk hk=>hw.old k (Nat.lt_of_lt_of_le hk hG.1) (λhm=>by have:=hG.2 k hm;omega)) hT
theorem Xt.nil (h:IG≤w.heap.size):Xt w []:=⟨h,Aj⟩
theorem Xt.st {w0:World}{M:List Nat}(hG:Xt w0 M)(hw:St w0 M H w):IG≤w.heap.size:=Nat.le_trans hG.1 hw.size
structure UA (w:World):Prop where
 tabs:P9 w
 size:IG≤w.heap.size
theorem UA.st {w0 w:World}{M:List Nat}{H:List Ent}(hE:UA w0)(hM:∀k∈M,IG≤k)(hw:St w0 M H w):UA w:=
 ⟨hE.tabs.st ⟨hE.size,hM⟩ hw,Nat.le_trans hE.size hw.size⟩
theorem UA.st0 {w0:World}(hE:UA w0)(hw:St w0 [] H w):UA w:=hE.st Aj hw
theorem AaQ (p:List UInt8):(B p).data.toList=p:=by simp[B]
theorem Aau (m:Int)(h0:-9223372036854775808≤m)(h1:m≤9223372036854775807)(w:World)(hE:UA w):Calls prog 217 [.int .i64 m].toArray w (PA w (.string (B (Lib.itoa m)))):=
 (Tryz.strconv_Itoa m h0 h1 w hE.tabs.pow).mono λe w' ⟨he,k,os,hw⟩=>⟨he,by rw[hw];exact St.of_below (Lib.below_grow _ _ (AeG _) _ _)⟩
end Go.Proofs.YtoegakndmanfoaaGreatDoor
