/-
  Texts of the proof, put together: AL, FwA, FwB, QA, FwC, FwD, QB, PlA, PQ0, QC, FwE, FwF, FwH, FwK, QD, QE, QR, QS, QZ, Q0.
-/
import Derived.Test.YtiddaamglmmnaaaGreatDoorProg
import Derived.WalkKit
import Derived.Deep.QuietTactic
import Derived.Deep.LoopGhost
import Derived.Lib.Strings
import Derived.Scope
import GoSem.Core.View
import GoSem.Op.String
import Derived.IntWalk
import Derived.Lib.Bytealg
import Derived.Laws.AppendOwn
import Derived.Laws.OwnMore
import Derived.Great.FillDense
import Derived.Laws.BytesString
import Derived.Lib.Builder
import Derived.Lib.UnsafeStr
import Derived.Lib.AppendStr
import Derived.Laws.Externs
open Decidable renaming decide → Ac
open Option renaming some → Ad, none → Ai
open Bool renaming true → Af, false → Ah
open List renaming length → Ae, drop → Ap, take → Aq, replicate → Au, range → As
open Int renaming toNat → Ao
open UInt8 renaming ofNat → Ar
open Go.Proofs.Tryz
namespace Go.Proofs.YtiddaamglmmnaaaGreatDoor
open Go
abbrev P1:=@Tryz.isAgg124
abbrev Ul:=@Tryz.isAgg135
abbrev Z1:=@Tryz.isAgg136
abbrev Kh:=@Tryz.isAgg3
abbrev LV:=@Tryz.isAgg31
abbrev Tp:=@Tryz.isAgg34
abbrev ya4:=@Tryz.isAgg4
abbrev Uk:=@Tryz.isAgg42
abbrev AgX:=@Tryz.isAgg45
abbrev To:=@Tryz.isAgg52
abbrev Uj:=@Tryz.isAgg54
abbrev Akg:=@Tryz.isAgg57
abbrev Akf:=@Tryz.isAgg59
abbrev AgW:=@Tryz.isAgg66
abbrev Gb:=@Tryz.isAgg9
abbrev Zz:=@Tryz.call100
abbrev Wn:=@Tryz.call118
abbrev N3:=@Tryz.call137
abbrev KP:=@Tryz.call144
abbrev NE:=@Tryz.call149
abbrev Zy:=@Tryz.call153
abbrev AgV:=@Tryz.call16
abbrev ND:=@Tryz.call176
abbrev KO:=@Tryz.call180
abbrev AgU:=@Tryz.call22
abbrev AgT:=@Tryz.call23
abbrev Abz:=@Tryz.call26
abbrev AgS:=@Tryz.call27
abbrev XN:=@Tryz.call34
abbrev Aby:=@Tryz.call35
abbrev Abx:=@Tryz.call36
abbrev Ui:=@Tryz.call47
abbrev AgR:=@Tryz.call50
abbrev Ae3:=@Tryz.call55
abbrev AgQ:=@Tryz.call56
abbrev AgP:=@Tryz.call60
abbrev AgO:=@Tryz.call61
abbrev AgN:=@Tryz.call64
abbrev AgM:=@Tryz.call76
abbrev AgL:=@Tryz.call84
abbrev AgK:=@Tryz.call85
abbrev Wm:=@Tryz.results100
abbrev P0:=@Tryz.results108
abbrev Uh:=@Tryz.results110
abbrev Zx:=@Tryz.results112
abbrev Ug:=@Tryz.results118
abbrev Zw:=@Tryz.results119
abbrev Adb:=@Tryz.results120
abbrev Ada:=@Tryz.results139
abbrev Zv:=@Tryz.results146
abbrev S8:=@Tryz.results149
abbrev Uf:=@Tryz.results153
abbrev AcZ:=@Tryz.results183
abbrev N2:=@Tryz.results184
abbrev Pz:=@Tryz.results185
abbrev RH:=@Tryz.results22
abbrev Ake:=@Tryz.results24
abbrev Ae2:=@Tryz.results26
abbrev Tm:=@Tryz.results27
abbrev Ae1:=@Tryz.results29
abbrev Zu:=@Tryz.results31
abbrev Akd:=@Tryz.results40
abbrev Akc:=@Tryz.results42
abbrev Ae0:=@Tryz.results53
abbrev Akb:=@Tryz.results56
abbrev Tl:=@Tryz.results57
abbrev Aez:=@Tryz.results58
abbrev Aka:=@Tryz.results59
abbrev AjZ:=@Tryz.results61
abbrev AgJ:=@Tryz.results63
abbrev yr7:=@Tryz.results7
abbrev AgI:=@Tryz.results75
abbrev AjY:=@Tryz.results77
abbrev yr8:=@Tryz.results8
abbrev AgH:=@Tryz.results80
abbrev Aey:=@Tryz.results85
abbrev KN:=@Tryz.results86
abbrev Abw:=@Tryz.results90
abbrev AjX:=@Tryz.results91
abbrev Ji:=@Tryz.sizeOf124
abbrev Py:=@Tryz.sizeOf136
abbrev Zt:=@Tryz.sizeOf154
abbrev AcY:=@Tryz.sizeOf180
abbrev H6:=@Tryz.sizeOf3
abbrev Hf:=@Tryz.sizeOf31
abbrev Abv:=@Tryz.sizeOf32
abbrev Jf:=@Tryz.sizeOf34
abbrev Tk:=@Tryz.sizeOf4
abbrev KM:=@Tryz.sizeOf42
abbrev XM:=@Tryz.sizeOf45
abbrev ys5:=@Tryz.sizeOf5
abbrev RG:=@Tryz.sizeOf52
abbrev Ha:=@Tryz.sizeOf54
abbrev Mk:=@Tryz.sizeOf57
abbrev DM:=@Tryz.sizeOf59
abbrev AjV:=@Tryz.sizeOf65
abbrev Aex:=@Tryz.sizeOf66
abbrev AjU:=@Tryz.sizeOf69
abbrev AjT:=@Tryz.sizeOf75
abbrev G0:=@Tryz.sizeOf77
abbrev AgG:=@Tryz.sizeOf79
abbrev AgF:=@Tryz.sizeOf84
abbrev VU:=@Tryz.sizeOf86
abbrev DS:=@Tryz.sizeOf9
abbrev Zs:=@Tryz.underlying124
abbrev Zr:=@Tryz.underlying135
abbrev EH:=@Tryz.underlying136
abbrev Zq:=@Tryz.underlying138
abbrev Jh:=@Tryz.underlying141
abbrev Mj:=@Tryz.underlying149
abbrev N1:=@Tryz.underlying151
abbrev N0:=@Tryz.underlying154
abbrev Abu:=@Tryz.underlying26
abbrev S7:=@Tryz.underlying3
abbrev El:=@Tryz.underlying31
abbrev MR:=@Tryz.underlying32
abbrev GG:=@Tryz.underlying34
abbrev Amt:=@Tryz.underlying36
abbrev Ev:=@Tryz.underlying42
abbrev Dx:=@Tryz.underlying45
abbrev PN:=@Tryz.underlying48
abbrev Mi:=@Tryz.underlying5
abbrev Gm:=@Tryz.underlying54
abbrev XL:=@Tryz.underlying57
abbrev GQ:=@Tryz.underlying59
abbrev AgE:=@Tryz.underlying65
abbrev Aew:=@Tryz.underlying66
abbrev Ue:=@Tryz.underlying68
abbrev VT:=@Tryz.underlying69
abbrev Qy:=@Tryz.underlying70
abbrev Zp:=@Tryz.underlying77
abbrev AjS:=@Tryz.underlying79
abbrev Qx:=@Tryz.underlying82
abbrev AjR:=@Tryz.underlying84
abbrev Ams:=@Tryz.underlying86
abbrev GB:=@Tryz.underlying9
abbrev Ky:=@Tryz.underlying96
abbrev Zo:=@Tryz.zeroValue124
abbrev Amr:=@Tryz.zeroValue31
abbrev Abt:=@Tryz.zeroValue34
abbrev Ud:=@Tryz.zeroValue42
abbrev yz5:=@Tryz.zeroValue5
abbrev NA:=@Tryz.zeroValue54
abbrev AgD:=@Tryz.zeroValue57
abbrev Tj:=@Tryz.zeroValue59
abbrev HK:=@Tryz.zeroValue77
abbrev AjP:=@Tryz.zeroValue82
abbrev Aev:=@Tryz.zeroValue84
abbrev AjO:=@Tryz.zeroValue86
abbrev Uc:=@Tryz.zeroValue9
theorem Aa {α:Sort _}{a:α}:a=a:=rfl
variable{p:Prop}
theorem Ab (h:p:=by omega):p:=h
theorem Aj (h:p:=by simp):p:=h
theorem Al (h:p:=by decide):p:=h
theorem Am (h:p:=by simp;omega):p:=h
theorem Ak (h:p:=by kernel_rfl):p:=h
theorem An (h:p:=by rfl):p:=h
abbrev Aqn:=@decide_eq_false
abbrev Aqo:=@decide_eq_true
abbrev Aqp:=@List.length_cons
abbrev Aqq:=@decide_eq_true_eq
abbrev Aqr:=@cond_false
abbrev Aqs:=@List.length_append
abbrev Aqt:=@decide_eq_false_iff_not
abbrev Aqu:=@Bool.and_eq_true
abbrev Aqv:=@cond_true
abbrev Aqw:=@Nat.lt_succ_self
abbrev Aqx:=@List.getElem?_eq_getElem
abbrev Aqy:=@List.getD_eq_getElem?_getD
abbrev Aqz:=@List.length_map
abbrev Aq0:=@of_decide_eq_true
abbrev Aq1:=@List.mem_of_getElem?
abbrev Aq2:=@Bool.eq_iff_iff
abbrev Aq3:=@Bool.true_and
abbrev Aq4:=@List.append_assoc
abbrev Aq5:=@Bool.not_true
abbrev Aq6:=@Bool.not_eq_true'
abbrev Aq7:=@Nat.le_refl
abbrev Aq8:=@Int.le_refl
abbrev Aq9:=@Bool.false_or
abbrev AqA:=@List.length_singleton
abbrev AqB:=@List.eq_nil_of_length_eq_zero
abbrev AqC:=@List.Perm.refl
abbrev AqD:=@Bool.or_eq_false_iff
abbrev AqE:=@Option.getD_some
abbrev AqF:=@Bool.or_eq_true
abbrev AqG:=@List.mem_singleton
abbrev AqH:=@List.nil_append
abbrev AqI:=@List.getElem?_map
abbrev AqJ:=@List.append_nil
abbrev AqK:=@List.Perm.cons
abbrev AqL:=@Nat.zero_le
abbrev AqM:=@if_neg
abbrev AqN:=@Bool.false_and
abbrev AqO:=@List.length_drop
abbrev AqP:=@Bool.false_eq_true
abbrev AqQ:=@Bool.and_true
abbrev AqR:=@Bool.not_false
abbrev AqS:=@of_decide_eq_false
abbrev AqT:=@Nat.zero_add
abbrev AqU:=@List.getElem?_take
abbrev AqV:=@List.length_take
abbrev AqW:=@Bool.and_false
abbrev AqX:=@List.all_eq_true
abbrev AqY:=@List.map_cons
abbrev AqZ:=@Bool.or_false
abbrev Ara:=@List.cons_append
abbrev Arb:=@Bool.or_true
abbrev Arc:=@if_pos
abbrev Ard:=@List.take_append_drop
abbrev Are:=@List.all_cons
abbrev Arf:=@List.map_append
abbrev Arg:=@Bool.true_or
abbrev Arh:=@List.flatMap_cons
abbrev Ari:=@List.length_nil
abbrev Arj:=@Bool.and_eq_false_iff
abbrev Ark:=@UInt8.toNat_inj
abbrev Arl:=@if_false
abbrev Arm:=@Bool.not_eq_false'
abbrev Arn:=@List.take_length
abbrev Aro:=@List.map_map
abbrev Arp:=@if_true
abbrev Arq:=@List.drop_drop
abbrev Arr:=@List.getElem?_append_left
abbrev Ars:=@List.mem_cons
abbrev Art:=@List.getElem?_append_right
open Go Go.RowKit
set_option linter.unusedVariables false
abbrev Fr:=List (Nat×Value)
def look:Fr→Nat→Option Value
 | [],_=>Ai
 | p::l,i=>bif Nat.beq p.1 i then Ad p.2 else look l i
theorem DO (j:Nat)(v:Value)(l:Fr)(i:Nat):look ((j,v)::l) i=if j=i then Ad v else look l i:=by
 by_cases h:j=i
 ·subst h;simp[look]
 ·have:Nat.beq j i=Ah:=by
   cases hb:Nat.beq j i
   ·rfl
   ·exact absurd (Nat.eq_of_beq_eq_true hb) h
  simp[look,this,h]
structure Gl (n:Nat) (l:Fr) (a:Act):Prop where
 size:a.tmps.size=n
 defers:a.defers=[]
 tm:∀i v,look l i=Ad v→a.tmps[i]? =Ad v
def ev:Fr→Operand→Option Value
 | l,.tmp t=>look l t
 | _,.const v=>Ad v
 | _,.global g=>Ad (.pointer (Ad ⟨g,0,Ai⟩))
 | _,.func f=>Ad (.func (.func f) #[] #[])
section
variable {n : Nat} {l l' : Fr} {a : Act}
theorem Gl.eval (h:Gl n l a){x:Operand}{v:Value}(hx:ev l x=Ad v):a.eval x=v:=by
 cases x with
 | tmp t=>simp[Act.eval,Array.getD_eq_getD_getElem?,h.tm t v hx]
 | const u=>simp only[ev,Option.some.injEq] at hx;subst hx;rfl
 | global g=>simpa[ev,Act.eval] using hx
 | func f=>simpa[ev,Act.eval] using hx
theorem Gl.put (h:Gl n l a){d:Nat}(hd:Nat.blt d n=Af)(v:Value):Gl n ((d,v)::l) (a.put (Ad d) v):=by
 have hd':d<n:=by simpa using hd
 refine⟨by simp[Act.put,h.size],by simp[Act.put,h.defers],λi u hi=>?_⟩;rw[DO] at hi;simp only[Act.put,Array.getElem?_setIfInBounds]
 split at hi
 ·rename_i e;subst e;simp at hi;subst hi;simp[h.size,hd']
 ·rename_i e;rw[AqM e];exact h.tm i u hi
def Hj:Fr→Fr→Prop
 | [],_=>True
 | p::r,l=>look l p.1=Ad p.2∧Hj r l
theorem Hj.look:∀{l' l:Fr},Hj l' l→∀i v,look l' i=Ad v→Proofs.YtiddaamglmmnaaaGreatDoor.look l i=Ad v
 | [],_,_,i,v,h=>by simp[Proofs.YtiddaamglmmnaaaGreatDoor.look] at h
 | p::r,l,⟨h1,h2⟩,i,v,h=>by
  obtain⟨j,u⟩:=p;rw[DO] at h
  split at h
  ·rename_i e;subst e;simp at h;subst h;exact h1
  ·exact Hj.look h2 i v h
theorem Gl.sub (h:Gl n l a)(hs:Hj l' l):Gl n l' a:=⟨h.size,h.defers,λi v hi=>h.tm i v (hs.look i v hi)⟩
end
inductive Ent where
 | blk (b:Nat) (o:Obj)
 | row (v:Value) (e:TypeId) (sz:Nat) (n:Nat) (xs:List Value)
def Ent.foot:Ent→List Nat
 | .blk b _=>[b]
 | .row v _ _ _ _=>v.ownBlock.toList
def Ent.holds (w:World):Ent→Prop
 | .blk b o=>w.heap[b]? =Ad o
 | .row v e sz n xs=>w.ownsRow 0 e sz v n xs
theorem Ent.lt {w:World}{e:Ent}(h:e.holds w){k:Nat}(hk:k∈e.foot):k<w.heap.size:=by
 cases e with
 | blk b o=>simp[Ent.foot] at hk;subst hk;exact(Array.getElem?_eq_some_iff.1 h).1
 | row v e sz n xs=>simp[Ent.foot,Option.mem_toList] at hk;exact(World.ownsRow.lt h k hk).2
theorem Ent.keep {w w':World}{e:Ent}(h:e.holds w)(hk:∀k∈e.foot,w'.heap[k]? =w.heap[k]?):e.holds w':=by
 cases e with
 | blk b o=>exact(hk b (by simp[Ent.foot])).trans h
 | row v e sz n xs=>
  refine⟨h.1,?_⟩;rcases h.2 with hn | ⟨g,cap,cur,rfl,hb,hgg,rest⟩
  ·exact .inl hn
  ·exact .inr ⟨g,cap,cur,rfl,hb,(hk g (by simp[Ent.foot,Value.ownBlock])).trans hgg,rest⟩
structure St (w0:World) (M:List Nat) (H:List Ent) (w:World):Prop where
 os:w.os=w0.os
 tape:w.tape=w0.tape
 output:w.output=w0.output
 size:w0.heap.size≤w.heap.size
 old:∀k,k<w0.heap.size→k ∉ M→w.heap[k]? =w0.heap[k]?
 has:∀e∈H,e.holds w
 own:∀e∈H,∀k∈e.foot,w0.heap.size≤k∨k∈M
 dis:H.Pairwise (λe e'=>∀k∈e.foot,k ∉ e'.foot)
section
variable {w0 w w' : World} {M M2 : List Nat} {H H' Hr Hin Hout : List Ent}
theorem St.refl (w:World)(M:List Nat):St w M [] w:=⟨rfl,rfl,rfl,Aq7 _,λ_ _ _=>rfl,Aj,Aj,.nil⟩
theorem St.of_below (h:Below w0.heap.size w0 w):St w0 [] [] w:=⟨h.os,h.tape,h.output,h.size,λk hk _=>h.block k hk,Aj,Aj,.nil⟩
theorem St.sub (h:St w0 M H w)(hs:H'.Sublist H):St w0 M H' w:=
 ⟨h.os,h.tape,h.output,h.size,h.old,λe he=>h.has e (hs.subset he),λe he=>h.own e (hs.subset he),h.dis.sublist hs⟩
theorem St.perm (h:St w0 M H w)(hp:H.Perm H'):St w0 M H' w:=
 ⟨h.os,h.tape,h.output,h.size,h.old,λe he=>h.has e (hp.mem_iff.2 he),λe he=>h.own e (hp.mem_iff.2 he),
  (hp.pairwise_iff (λhxy k hk hk'=>hxy k hk' hk)).1 h.dis⟩
theorem Cm:∀{H:List Ent} {i:Nat} {e:Ent},H[i]? =Ad e→H.Perm (e::H.eraseIdx i)
 | x::r,0,e,h=>by simp at h;subst h;simp
 | x::r,i+1,e,h=>by
  simp at h;exact((Cm h).cons x).trans (List.Perm.swap e x _)
theorem St.front (h:St w0 M H w){i:Nat}{e:Ent}(hi:H[i]? =Ad e):St w0 M (e::H.eraseIdx i) w:=h.perm (Cm hi)
theorem St.mem_lt (h:St w0 M H w){e:Ent}(he:e∈H){k:Nat}(hk:k∈e.foot):k<w.heap.size:=Ent.lt (h.has e he) hk
theorem St.call (h:St w0 M (Hin++Hr) w)(h':St w M2 Hout w')(hM:∀k∈M2,∃e∈Hin,k∈e.foot):St w0 M (Hout++Hr) w':=by
 have hd:=List.pairwise_append.1 h.dis;have hM2:∀k,k<w0.heap.size→k ∉ M→k ∉ M2:=λk hk hkM hkM2=>by
  obtain⟨e,he,hke⟩:=hM k hkM2;rcases h.own e (List.mem_append_left _ he) k hke with h1 | h1
  ·omega
  ·exact hkM h1
 have hr:∀e∈Hr,∀k∈e.foot,k<w.heap.size∧k ∉ M2:=λe he k hk=>by
  refine⟨h.mem_lt (List.mem_append_right _ he) hk,λhkM2=>?_⟩;obtain⟨e',he',hke'⟩:=hM k hkM2;exact hd.2.2 e' he' e he k hke' hk
 refine⟨h'.os.trans h.os,h'.tape.trans h.tape,h'.output.trans h.output,Nat.le_trans h.size h'.size,λk hk hkM=>?_,λe he=>?_,λe he k hk=>?_,?_⟩
 ·exact(h'.old k (Nat.lt_of_lt_of_le hk h.size) (hM2 k hk hkM)).trans (h.old k hk hkM)
 ·rcases List.mem_append.1 he with he | he
  ·exact h'.has e he
  ·exact Ent.keep (h.has e (List.mem_append_right _ he)) λk hk=>h'.old k (hr e he k hk).1 (hr e he k hk).2
 ·rcases List.mem_append.1 he with he | he
  ·rcases h'.own e he k hk with h1 | h1
   ·exact .inl (Nat.le_trans h.size h1)
   ·obtain⟨e',he',hke'⟩:=hM k h1;exact h.own e' (List.mem_append_left _ he') k hke'
  ·exact h.own e (List.mem_append_right _ he) k hk
 ·refine List.pairwise_append.2 ⟨h'.dis,hd.2.1,λe he e' he' k hk hk'=>?_⟩;rcases h'.own e he k hk with h1 | h1
  ·have:=(hr e' he' k hk').1;omega
  ·exact(hr e' he' k hk').2 h1
theorem St.call0 (h:St w0 M H w)(h':St w [] Hout w'):St w0 M (Hout++H) w':=
 St.call (Hin:=[]) (by simpa using h) h' Aj
theorem St.set (h:St w0 M H w){i:Nat}{e e':Ent}(hi:H[i]? =Ad e)(os:w'.os=w.os)(tape:w'.tape=w.tape)(output:w'.output=w.output)(size:w.heap.size≤w'.heap.size)
  (hb:∀k,k<w.heap.size→k ∉ e.foot→w'.heap[k]? =w.heap[k]?) (he:e'.holds w') (hf:∀k∈e'.foot,k∈e.foot∨w.heap.size≤k):St w0 M (H.set i e') w':=by
 have hp:(e::H.eraseIdx i).Perm H:=(Cm hi).symm;have h1:St w0 M ([e]++H.eraseIdx i) w:=h.perm (Cm hi);have hil:i<Ae H:=(List.getElem?_eq_some_iff.1 hi).1;have h2:St w e.foot [e'] w':=
  ⟨os,tape,output,size,hb,by simpa using he,by simpa using λk hk=>(hf k hk).symm,Aj⟩
 have h3:=h1.call h2 (λk hk=>⟨e,Aj,hk⟩);have hq:(H.set i e')[i]? =Ad e':=by simp[hil]
 have:=Cm hq;rw[List.eraseIdx_set_eq] at this;exact h3.perm this.symm
theorem St.alloc (h:St w0 M H w)(o:Obj):St w0 M (.blk w.heap.size o::H) (w.alloc o):=by
 have h2:St w [] [.blk w.heap.size o] (w.alloc o):=
  ⟨rfl,rfl,rfl,Aj,λk hk _=>Below.heap_alloc w o k hk,by simpa[Ent.holds] using heap_alloc_new w o,by simp[Ent.foot],Aj⟩
 exact h.call0 h2
end
section
variable (P : Program) (n : Nat) (w0 : World) (M : List Nat)
def WL (ops:Array Oper)(Q:Exit→Act→World→Prop)(rest:List Oper)(l:Fr)(H:List Ent):Prop:=∀a w,Gl n l a→St w0 M H w→wpList P ops Q rest a w
def WC (c:Code)(Q:Exit→Act→World→Prop)(l:Fr)(H:List Ent):Prop:=∀a w,Gl n l a→St w0 M H w→c.wp P Q a w
def WK (K:Act→World→Prop)(l:Fr)(H:List Ent):Prop:=∀a w,Gl n l a→St w0 M H w→K a w
def LU {S:Type}(inv:S→Prop)(fr:S→Fr)(hp:S→List Ent):Act→World→Prop:=λa w=>∃s,inv s∧Gl n (fr s) a∧St w0 M (hp s) w
def Ck (l:Fr)(H:List Ent)(o:Oper)(v:Value):Prop:=∀a w,Gl n l a→St w0 M H w→(execOp a.eval o).run P w = .ok (.value v) w
end
def Ret (w:World)(M:List Nat)(Φ:Value→List Ent→Prop):Ending→World→Prop:=λe w'=>∃v H,e = .returned v∧St w M H w'∧Φ v H
def Qs (w:World)(v:Value):Ending→World→Prop:=λe w'=>e = .returned v∧St w [] [] w'
variable{pos:String}{b:Bool}{ty:TypeId}{id j:Nat}{af:Array Edge}{op:Op}{d:Nat}
section
variable {P : Program} {n : Nat} {w0 : World} {M : List Nat} {ops : Array Oper} {Q : Exit → Act → World → Prop} {rest : List Oper} {l l' : Fr} {H H' : List Ent} {x y c : Code} {K : Act → World → Prop}
theorem WC.sub (hl:Hj l' l)(hH:H'.Sublist H)(h:WC P n w0 M c Q l' H'):WC P n w0 M c Q l H:=λa w ha hw=>h a w (ha.sub hl) (hw.sub hH)
theorem WK.sub (hl:Hj l' l)(hH:H'.Sublist H)(h:WK n w0 M K l' H'):WK n w0 M K l H:=λa w ha hw=>h a w (ha.sub hl) (hw.sub hH)
theorem WL.sub (hl:Hj l' l)(hH:H'.Sublist H)(h:WL P n w0 M ops Q rest l' H'):WL P n w0 M ops Q rest l H:=λa w ha hw=>h a w (ha.sub hl) (hw.sub hH)
theorem WL.front {i:Nat}{e:Ent}(hi:H[i]? =Ad e)(h:WL P n w0 M ops Q rest l (e::H.eraseIdx i)):WL P n w0 M ops Q rest l H:=λa w ha hw=>h a w ha (hw.front hi)
theorem Bl (h:WC P n w0 M x (Exit.then (λa w=>y.wp P Q a w) Q) l H):WC P n w0 M (x.seq y) Q l H:=λa w ha hw=>wp_seq (h a w ha hw)
theorem AA {S:Type}{inv:S→Prop}{fr:S→Fr}{hp:S→List Ent}(s:S)(hi:inv s)(hl:Hj (fr s) l)(hH:(hp s).Sublist H):WK n w0 M (LU n w0 M inv fr hp) l H:=
 λ_ _ ha hw=>⟨s,hi,ha.sub hl,hw.sub hH⟩
theorem AG (h:WK n w0 M K l H):WK n w0 M (Exit.then K Q .normal) l H:=h
theorem A3 (h:WK n w0 M (Q (.exit id)) l H):WK n w0 M (Exit.then K Q (.exit id)) l H:=h
theorem A5 (h:WK n w0 M (Q .ret) l H):WK n w0 M (Exit.then K Q .ret) l H:=h
theorem Bm (h:WK n w0 M (Q .normal) l H):WK n w0 M (Exit.inBlock id Q .normal) l H:=h
theorem Dc (h:WK n w0 M (Q .ret) l H):WK n w0 M (Exit.inBlock id Q .ret) l H:=h
theorem Ba {J:Prop}(b:Bool)(h1:b=Af→J)(h2:b=Ah→J):J:=by cases b;exact h2 rfl;exact h1 rfl
def Mid (n:Nat)(w0:World)(M:List Nat)(φ:Prop)(l:Fr)(H:List Ent):Act→World→Prop:=λa w=>φ∧Gl n l a∧St w0 M H w
theorem AM (l1:Fr)(H1:List Ent){φ:Prop}(h:WC P n w0 M x (Exit.then (Mid n w0 M φ l1 H1) Q) l H)(h2:φ→WC P n w0 M y Q l1 H1):WC P n w0 M (x.seq y) Q l H:=λa w ha hw=>
 wp_seq (wp_mono (h a w ha hw) λe a w q=>by
  cases e with
  | normal=>exact h2 q.1 a w q.2.1 q.2.2
  | _=>exact q)
theorem IL {φ:Prop}{l1:Fr}{H1:List Ent}(hφ:φ)(hl:Hj l1 l)(hH:H1.Sublist H):WK n w0 M (Mid n w0 M φ l1 H1) l H:=λ_ _ ha hw=>⟨hφ,ha.sub hl,hw.sub hH⟩
theorem fb {a:Bool}(h:a=b):Ad (Value.bool a)=Ad (Value.bool b):=by rw[h]
theorem CJ (h:WC P n w0 M y Q l H):WK n w0 M (λa w=>y.wp P Q a w) l H:=h
theorem Cf (h:WK n w0 M (Q .normal) l H):WC P n w0 M .skip Q l H:=λa w ha hw=>wp_skip (h a w ha hw)
theorem BE (h:WK n w0 M (Q (.exit id)) l H):WC P n w0 M (.exit id) Q l H:=λa w ha hw=>wp_exit (h a w ha hw)
theorem CM (h:WK n w0 M (Q .ret) l H):WC P n w0 M .ret Q l H:=λa w ha hw=>wp_ret (h a w ha hw)
theorem AL (h:WC P n w0 M c (Exit.inBlock id Q) l H):WC P n w0 M (.block id c) Q l H:=λa w ha hw=>wp_block (h a w ha hw)
theorem Bo (h:WK n w0 M (Q .normal) l H):WK n w0 M (Exit.inBlock id Q (.exit id)) l H:=λa w ha hw=>by
 show if id=id then _ else _
 rw[Arc rfl];exact h a w ha hw
theorem JD {o:Operand}(ho:ev l o=Ad (.bool b))(h1:b=Af→WC P n w0 M x Q l H)(h2:b=Ah→WC P n w0 M y Q l H):WC P n w0 M (.cond o x y) Q l H:=
 λa w ha hw=>wp_cond_split (ha.eval ho) (λe=>h1 e a w ha hw) (λe=>h2 e a w ha hw)
theorem G4 {o:Operand}(ho:ev l o=Ad (.bool b))(hb:b=Af)(h:WC P n w0 M x Q l H):WC P n w0 M (.cond o x y) Q l H:=
 λa w ha hw=>by subst hb;exact wp_cond_true (ha.eval ho) (h a w ha hw)
theorem DZ {o:Operand}(ho:ev l o=Ad (.bool b))(hb:b=Ah)(h:WC P n w0 M y Q l H):WC P n w0 M (.cond o x y) Q l H:=
 λa w ha hw=>by subst hb;exact wp_cond_false (ha.eval ho) (h a w ha hw)
theorem T0 {S:Type}(inv:S→Prop)(fr:S→Fr)(hp:S→List Ent)(μ:S→Nat)(s0:S)(h0:inv s0)(hl:Hj (fr s0) l)(hH:(hp s0).Sublist H)
  (round:∀s,inv s→WC P n w0 M c (Exit.then (LU n w0 M (λs'=>inv s'∧μ s'<μ s) fr hp) Q) (fr s) (hp s)):WC P n w0 M (.loop c) Q l H:=λa w ha hw=>by
 refine wp_loop_ghost (λk a w=>∃s,μ s=k∧inv s∧Gl n (fr s) a∧St w0 M (hp s) w) (μ s0) ⟨s0,rfl,h0,ha.sub hl,hw.sub hH⟩ ?_;rintro k a w ⟨s,rfl,hi,ha,hw⟩;refine wp_mono (round s hi a w ha hw) λe a' w' q=>?_
 cases e with
 | normal=>
  obtain⟨s',⟨hi',hlt⟩,ha',hw'⟩:=q;exact⟨μ s',hlt,s',rfl,hi',ha',hw'⟩
 | _=>exact q
theorem AU {ops:List Oper}(h:WL P n w0 M ops.toArray Q ops l H):WC P n w0 M (.region id ops.toArray Ah) Q l H:=λa w ha hw=>wp_region_lit (h a w ha hw)
theorem AD (h:WK n w0 M (Q .normal) l H):WL P n w0 M ops Q [] l H:=λa w ha hw=>wpList_nil (h a w ha hw)
def Eu (ops:Array Oper)(j:Nat):Option Nat:=(ops[j]?).bind (·.dst)
theorem GH {a:Act}(ha:Gl n l a)(hj:Eu ops j=Ad d)(hv:look l d=Ad (.bool b)):yielded ops a.tmps j=Ad b:=by
 unfold Eu at hj;simp[yielded,hj,ha.tm d _ hv]
theorem JC {a:Act}(ha:Gl n l a)(hj:Eu ops j=Ad d)(hv:look l d=Ad undef):yielded ops a.tmps j=Ai:=by
 unfold Eu at hj;simp[yielded,hj,ha.tm d _ hv,undef]
theorem BL {d:Option Nat}{dj:Nat}{want:Bool}(hj:Eu ops j=Ad dj)(hv:look l dj=Ad (.bool b))(hb:b=want)
  (h:WL P n w0 M ops Q ({ dst:=d,op:=op,type:=ty,pos:=pos,after:=af,guard:=Ai }::rest) l H) :
  WL P n w0 M ops Q ({ dst:=d,op:=op,type:=ty,pos:=pos,after:=af,guard:=Ad (j,want) }::rest) l H:=λa w ha hw=>by
 have h1:=h a w ha hw;have hy:=GH ha hj hv;subst hb;simp only[wpList,Region.wanted,hy,beq_self_eq_true,Arp] at h1 ⊢;exact h1
theorem Dh {dj:Nat}{want:Bool}(hj:Eu ops j=Ad dj)(hv:look l dj=Ad (.bool b))(hb:b = !want)(hn:Nat.blt d n=Af)
  (h:WL P n w0 M ops Q rest ((d,undef)::l) H) :
  WL P n w0 M ops Q ({ dst:=Ad d,op:=op,type:=ty,pos:=pos,after:=af,guard:=Ad (j,want) }::rest) l H:=λa w ha hw=>by
 have hy:=GH ha hj hv;subst hb;refine wpList_skip ?_ (h _ w (ha.put hn _) hw);simp[Region.wanted,hy]
theorem Ez {dj:Nat}{want:Bool}(hj:Eu ops j=Ad dj)(hv:look l dj=Ad undef)(hn:Nat.blt d n=Af)
  (h:WL P n w0 M ops Q rest ((d,undef)::l) H) :
  WL P n w0 M ops Q ({ dst:=Ad d,op:=op,type:=ty,pos:=pos,after:=af,guard:=Ad (j,want) }::rest) l H:=λa w ha hw=>by
 have hy:=JC ha hj hv;refine wpList_skip ?_ (h _ w (ha.put hn _) hw);simp[Region.wanted,hy]
theorem C2 {v:Value}(hr:Ck P n w0 M l H { dst:=Ad d,op:=op,type:=ty,pos:=pos,after:=af,guard:=Ai } v)
  (hn:Nat.blt d n=Af) (h:WL P n w0 M ops Q rest ((d,v)::l) H):WL P n w0 M ops Q ({ dst:=Ad d,op:=op,type:=ty,pos:=pos,after:=af,guard:=Ai }::rest) l H:=λa w ha hw=>
 wpList_plain rfl λK hK=>by
  unfold Oper.wp;rw[hr a w ha hw];exact hK _ _ (h _ w (ha.put hn v) hw)
theorem PP
  (hr:∀a w,Gl n l a→St w0 M H w→∃v w' H',(execOp a.eval { dst:=Ad d,op:=op,type:=ty,pos:=pos,after:=af,guard:=Ai }).run P w = .ok (.value v) w'∧St w0 M H' w'∧WL P n w0 M ops Q rest ((d,v)::l) H')
  (hn:Nat.blt d n=Af):WL P n w0 M ops Q ({ dst:=Ad d,op:=op,type:=ty,pos:=pos,after:=af,guard:=Ai }::rest) l H:=λa w ha hw=>
 wpList_plain rfl λK hK=>by
  obtain⟨v,w',H',h1,h2,h3⟩:=hr a w ha hw;unfold Oper.wp;rw[h1];exact hK _ _ (h3 _ w' (ha.put hn v) h2)
theorem O4 {f:FuncId}{args:Array Value}
  (hr:∀a w,Gl n l a→St w0 M H w→(execOp a.eval { dst:=Ad d,op:=op,type:=ty,pos:=pos,after:=af,guard:=Ai }).run P w = .ok (.enter f args) w)
  (hc:∀w,St w0 M H w→Calls P f args w (λe w'=>∃v H',e = .returned v∧St w0 M H' w'∧WL P n w0 M ops Q rest ((d,v)::l) H'))
  (hn:Nat.blt d n=Af):WL P n w0 M ops Q ({ dst:=Ad d,op:=op,type:=ty,pos:=pos,after:=af,guard:=Ai }::rest) l H:=λa w ha hw=>
 wpList_plain rfl λK hK=>by
  unfold Oper.wp;rw[hr a w ha hw];refine(hc w hw).mono ?_;rintro e w' ⟨v,H',rfl,h2,h3⟩;exact hK _ _ (h3 _ w' (ha.put hn v) h2)
end
def B (l:List UInt8):ByteArray:=⟨l.toArray⟩
theorem Ke (l:List UInt8):(B l).toList=l:=by
 rw[Go.ByteArray.toList_eq];rfl
theorem I3 (l:List UInt8):(B l).size=Ae l:=by simp[B,ByteArray.size]
theorem ApW (s:ByteArray):s=B s.data.toList:=by cases s;simp[B]
theorem AjL (p q:List UInt8):B p++B q=B (p++q):=by
 apply ByteArray.ext;simp[B,ByteArray.data_append]
theorem S4 (l:List UInt8)(i j:Nat):(B l).extract i j=B ((l.drop i).take (j-i)):=by
 rw[Lib.extract_eq];rfl
theorem AoB (l:List UInt8)(i:Nat):(B l)[i]? =l[i]?:=by
 by_cases h:i<(B l).size
 ·have h':i<Ae l:=by rw[I3] at h;exact h
  rw[Go.ByteArray.getElem?_lt' _ _ h,Aqx h'];rfl
 ·have h' : ¬ i<Ae l:=by rw[I3] at h;exact h
  rw[Go.ByteArray.getElem?_ge' _ _ h,List.getElem?_eq_none Ab]
section
variable {P : Program} {n : Nat} {w0 : World} {M : List Nat} {l : Fr} {H : List Ent} {d : Option Nat} {x y c : Operand} {ty t t' : TypeId} {pos : String} {af : Array Edge} {g : Option (Nat × Bool)} {v u : Value}
theorem AQ (h:ev l x=Ad v):Ck P n w0 M l H { dst:=d,op:=.move x,type:=ty,pos:=pos,after:=af,guard:=g } v:=λa w ha _=>by
 simp[execOp,ha.eval h]
theorem Cj (h:ev l x=Ad v):Ck P n w0 M l H { dst:=d,op:=.assign x,type:=ty,pos:=pos,after:=af,guard:=g } v:=λa w ha _=>by
 simp[execOp,ha.eval h]
theorem E2 (hc:ev l c=Ad (.bool b))(hb:b=Af)(h:ev l x=Ad v):Ck P n w0 M l H { dst:=d,op:=.pick c x y,type:=ty,pos:=pos,after:=af,guard:=g } v:=λa w ha _=>by
 subst hb;simp[execOp,ha.eval h,ha.eval hc,asBool]
theorem DE (hc:ev l c=Ad (.bool b))(hb:b=Ah)(h:ev l y=Ad v):Ck P n w0 M l H { dst:=d,op:=.pick c x y,type:=ty,pos:=pos,after:=af,guard:=g } v:=λa w ha _=>by
 subst hb;simp[execOp,ha.eval h,ha.eval hc,asBool]
theorem EP {vs:Array Value}{i:Nat}(h:ev l x=Ad (.tuple vs))(hi:vs[i]? =Ad v):Ck P n w0 M l H { dst:=d,op:=.extract x i,type:=ty,pos:=pos,after:=af,guard:=g } v:=λa w ha _=>by
 simp[execOp,ha.eval h,Instr.extract,hi]
theorem QX (h:ev l x=Ad (.bool b)):Ck P n w0 M l H { dst:=d,op:=.unOp .not t x,type:=ty,pos:=pos,after:=af,guard:=g } (.bool (!b)):=λa w ha _=>by
 simp[execOp,ha.eval h,Op.unary]
theorem CN (op:BinOp)(k k':IntKind)(p q:Int)(w:World):(eqGuard op t x y (.int k p) (.int k' q)).run P w = .ok () w:=by
 unfold eqGuard;split<;>simp
theorem II (op:BinOp)(p q:ByteArray)(w:World):(eqGuard op t x y (.string p) (.string q)).run P w = .ok () w:=by
 unfold eqGuard;split<;>simp
theorem YU (op:BinOp)(p q:Bool)(w:World):(eqGuard op t x y (.bool p) (.bool q)).run P w = .ok () w:=by
 unfold eqGuard;split<;>simp
section
variable {k : IntKind} {p q z : Int} (hx : ev l x = Ad (.int k p)) (hy : ev l y = Ad (.int k q))
include hx hy
theorem Aie:Ck P n w0 M l H { dst:=d,op:=.binOp .leq t x y t',type:=ty,pos:=pos,after:=af,guard:=g } (.bool (Ac (p≤q))):=λa w ha _=>by
 simp[execOp,ha.eval hx,ha.eval hy,CN,binOp,Op.intCmp]
theorem Aft:Ck P n w0 M l H { dst:=d,op:=.binOp .geq t x y t',type:=ty,pos:=pos,after:=af,guard:=g } (.bool (Ac (q≤p))):=λa w ha _=>by
 simp[execOp,ha.eval hx,ha.eval hy,CN,binOp,Op.intCmp]
theorem AmJ:Ck P n w0 M l H { dst:=d,op:=.binOp .eql t x y t',type:=ty,pos:=pos,after:=af,guard:=g } (.bool (Ac (p=q))):=λa w ha _=>by
 have e:(p ==q)=Ac (p=q):=by rw[Aq2];simp
 simp[execOp,ha.eval hx,ha.eval hy,CN,binOp,Op.intCmp,e]
theorem M4:Ck P n w0 M l H { dst:=d,op:=.binOp .neq t x y t',type:=ty,pos:=pos,after:=af,guard:=g } (.bool (!Ac (p=q))):=λa w ha _=>by
 have e:(p !=q) = !Ac (p=q):=by rw[Aq2];simp
 simp[execOp,ha.eval hx,ha.eval hy,CN,binOp,Op.intCmp,e]
end
section
variable {p q : List UInt8} (hx : ev l x = Ad (.string (B p))) (hy : ev l y = Ad (.string (B q)))
include hx hy
end
theorem LD {p:List UInt8}(ht:P.underlying t=Ad .string)(h:ev l x=Ad (.string (B p))):Ck P n w0 M l H { dst:=d,op:=.call { callee:=.builtin .len,args:=#[x],argTypes:=#[t] },type:=ty,pos:=pos,after:=af,guard:=g } (.int .i64 (Ae p)):=λa w ha _=>by
 simp[execOp,resolve,invoke,builtin,ha.eval h,Builtin.len_,run_underlying ht,goInt,I3]
theorem Cc {k:IntKind}{i:Int}{m:Nat}(code:BoundsCode)(w:World)(h0:0≤i)(h1:i≤m):(Instr.sliceBound (.int k i) m code).run P w = .ok i.toNat w:=by
 simp[Instr.sliceBound,asIntOf,h0,h1]
end
end Go.Proofs.YtiddaamglmmnaaaGreatDoor
namespace Go.Proofs.YtiddaamglmmnaaaGreatDoor.Q
open Go Go.RowKit
set_option linter.unusedVariables false
structure Fz where
 f:Nat→Option Obj
 nm:Nat→Nat→Option Nat
instance:CoeFun Fz (λ_=>Nat→Option Obj):=⟨Fz.f⟩
structure Fz.le (Z Z':Fz):Prop where
 f:∀b o,Z b=Ad o→Z' b=Ad o
 nm:∀k i b,Z.nm k i=Ad b→Z'.nm k i=Ad b
instance {Z Z':Fz}:CoeFun (Fz.le Z Z') (λ_=>∀b o,Z b=Ad o→Z' b=Ad o):=⟨Fz.le.f⟩
theorem Fz.le.refl (Z:Fz):Fz.le Z Z:=⟨λ_ _ h=>h,λ_ _ _ h=>h⟩
theorem Fz.le.trans {Z Z' Z'':Fz}(h:Fz.le Z Z')(h':Fz.le Z' Z''):Fz.le Z Z'':=⟨λb o e=>h' b o (h b o e),λk i b e=>h'.nm k i b (h.nm k i b e)⟩
structure Frz (Z:Fz) (w:World):Prop where
 f:∀b o,Z b=Ad o→w.heap[b]? =Ad o
 nm:∀k i b,Z.nm k i=Ad b→k<w.heap.size
instance {Z:Fz}{w:World}:CoeFun (Frz Z w) (λ_=>∀b o,Z b=Ad o→w.heap[b]? =Ad o):=⟨Frz.f⟩
def Nz (Z:Fz)(b o:Nat):Option Value:=match Z b with
 | some (.cells cs _ _)=>cs[o]?
 | _=>Ai
variable{v:Value}
theorem Ub {Z Z':Fz}(h:Fz.le Z Z'){b o:Nat}(e:Nz Z b o=Ad v):Nz Z' b o=Ad v:=by
 unfold Nz at *
 cases hz:Z b with
 | none=>simp[hz] at e
 | some ob=>rw[h b ob hz];simpa[hz] using e
theorem PM {Z:Fz}{w:World}(h:Frz Z w){b o:Nat}(e:Nz Z b o=Ad v):w.cell? ⟨b,o,Ai⟩=Ad v:=by
 unfold Nz at e
 cases hz:Z b with
 | none=>simp[hz] at e
 | some ob=>
  rw[hz] at e
  cases ob with
  | cells cs t fz=>rw[cell_of_row w b o cs t fz (h b _ hz)];exact e
  | _=>cases e
structure Rp where
 p:Fz→Value→Prop
 mono:∀{Z Z':Fz} {v:Value},Fz.le Z Z'→p Z v→p Z' v
 one:Bool
 hone:one=Af→∀Z v,p Z v→v.oneCell'=Af
def rv (x:Value):Rp:=⟨λ_ y=>y=x,λ_ h=>h,x.oneCell',λh _ _ e=>by rw[e];exact h⟩
abbrev rI (k:IntKind)(n:Int):Rp:=rv (.int k n)
abbrev rB (b:Bool):Rp:=rv (.bool b)
abbrev rS (s:List UInt8):Rp:=rv (.string (B s))
def BM (Z:Fz):List Rp→List Value→Prop
 | [],[]=>True
 | r::rs,v::vs=>r.p Z v∧BM Z rs vs
 | _,_=>False
theorem BM.mono {Z Z':Fz}(h:Fz.le Z Z'):∀{rs:List Rp} {vs:List Value},BM Z rs vs→BM Z' rs vs
 | [],[],_=>trivial
 | r::rs,v::vs,⟨h1,h2⟩=>⟨r.mono h h1,BM.mono h h2⟩
theorem BM.length {Z:Fz}:∀{rs:List Rp} {vs:List Value},BM Z rs vs→Ae vs=Ae rs
 | [],[],_=>rfl
 | r::rs,v::vs,⟨_,h2⟩=>by simp[BM.length h2]
theorem BM.at {Z:Fz}:∀{rs:List Rp} {vs:List Value},BM Z rs vs→∀{i:Nat} {r:Rp},rs[i]? =Ad r→∃v,vs[i]? =Ad v∧r.p Z v
 | [],[],_,i,r,h=>by simp at h
 | r::rs,v::vs,⟨h1,h2⟩,0,r',h=>by simp at h;subst h;exact⟨v,rfl,h1⟩
 | r::rs,v::vs,⟨h1,h2⟩,i+1,r',h=>by simpa using BM.at h2 (by simpa using h)
theorem BM.append {Z:Fz}:∀{rs:List Rp} {vs:List Value} {rs':List Rp} {vs':List Value},BM Z rs vs→BM Z rs' vs'→BM Z (rs++rs') (vs++vs')
 | [],[],_,_,_,h=>h
 | r::rs,v::vs,_,_,⟨h1,h2⟩,h=>⟨h1,BM.append h2 h⟩
theorem BM.take {Z:Fz}:∀{rs:List Rp} {vs:List Value} (k:Nat),BM Z rs vs→BM Z (rs.take k) (vs.take k)
 | _,_,0,_=>by simp[BM]
 | [],[],k+1,_=>by simp[BM]
 | r::rs,v::vs,k+1,⟨h1,h2⟩=>⟨h1,BM.take k h2⟩
theorem BM.drop {Z:Fz}:∀{rs:List Rp} {vs:List Value} (k:Nat),BM Z rs vs→BM Z (rs.drop k) (vs.drop k)
 | _,_,0,h=>by simpa using h
 | [],[],k+1,_=>by simp[BM]
 | r::rs,v::vs,k+1,⟨h1,h2⟩=>by simpa using BM.drop k h2
theorem BM.set {Z:Fz}:∀{rs:List Rp} {vs:List Value} (k:Nat) {r:Rp} {v:Value},BM Z rs vs→r.p Z v→BM Z (rs.set k r) (vs.set k v)
 | [],[],k,_,_,h,_=>by simp[BM]
 | r::rs,v::vs,0,_,_,⟨h1,h2⟩,h=>⟨h,h2⟩
 | r::rs,v::vs,k+1,_,_,⟨h1,h2⟩,h=>⟨h1,BM.set k h2 h⟩
theorem BM.one {Z:Fz}:∀{rs:List Rp} {vs:List Value},rs.all (·.one)=Af→BM Z rs vs→∀v∈vs,v.oneCell'=Af
 | [],[],_,_,_,h=>by simp at h
 | r::rs,v::vs,ho,⟨h1,h2⟩,u,h=>by
  simp only[Are,Aqu] at ho;rcases List.mem_cons.1 h with rfl | h
  ·exact r.hone ho.1 Z _ h1
  ·exact BM.one ho.2 h2 u h
theorem BM.eq_rv {Z:Fz}:∀{us vs:List Value},BM Z (us.map Q.rv) vs→vs=us
 | [],[],_=>rfl
 | u::us,v::vs,⟨h1,h2⟩=>by rw[show v=u from h1,BM.eq_rv h2]
def Dr (rs:List Rp):Rp:=⟨λZ v=>∃us:List Value,v = .agg us.toArray∧BM Z rs us,λh ⟨us,e,hu⟩=>⟨us,e,hu.mono h⟩,Ah,λh=>by cases h⟩
def Du (rs:List Rp):Rp:=⟨λZ v=>∃us:List Value,v = .tuple us.toArray∧BM Z rs us,λh ⟨us,e,hu⟩=>⟨us,e,hu.mono h⟩,Ah,λh=>by cases h⟩
def SlZ (sz:Nat)(xs:List (List Rp))(Z:Fz)(v:Value):Prop:=
 ∃A cap,v = .slice A (Ae xs) cap∧Ae xs≤cap∧cap≤maxLen∧(A=Ai→cap=0)∧
  ∀i c,xs[i]? =Ad c→Ae c=sz∧∃a:Addr,A=Ad a∧a.spot=Ai∧∀j r,c[j]? =Ad r→∃u,Nz Z a.block (a.off+(i*sz+j))=Ad u∧r.p Z u
theorem SlZ.mono {sz:Nat}{xs:List (List Rp)}{Z Z':Fz}{v:Value}(h:Fz.le Z Z'):SlZ sz xs Z v→SlZ sz xs Z' v:=λ⟨A,cap,e,h1,h2,h3,h4⟩=>
 ⟨A,cap,e,h1,h2,h3,λi c hi=>by
  obtain⟨hl,a,ha,hs,hc⟩:=h4 i c hi;exact⟨hl,a,ha,hs,λj r hj=>by
   obtain⟨u,hu,hr⟩:=hc j r hj;exact⟨u,Ub h hu,r.mono h hr⟩⟩⟩
def Cg (sz:Nat)(xs:List (List Rp)):Rp:=⟨SlZ sz xs,SlZ.mono,Af,λ_ Z v ⟨A,cap,e,_⟩=>by rw[e];rfl⟩
theorem SlZ.nil (sz:Nat)(Z:Fz):SlZ sz [] Z (.slice Ai 0 0):=⟨Ai,0,rfl,Aq7 _,by simp[maxLen],λ_=>rfl,λi c h=>by simp at h⟩
def If (r r':Rp):Prop:=∀Z v,r.p Z v→r'.p Z v
theorem If.refl (r:Rp):If r r:=λ_ _ h=>h
theorem If.nil (sz:Nat):If (rv (.slice Ai 0 0)) (Cg sz []):=λZ v h=>by rw[show v=_ from h];exact SlZ.nil sz Z
abbrev Fr:=List (Nat×Rp)
def look:Fr→Nat→Option Rp
 | [],_=>Ai
 | p::l,i=>bif Nat.beq p.1 i then Ad p.2 else look l i
theorem DO (j:Nat)(v:Rp)(l:Fr)(i:Nat):look ((j,v)::l) i=if j=i then Ad v else look l i:=by
 by_cases h:j=i
 ·subst h;simp[look]
 ·have:Nat.beq j i=Ah:=by
   cases hb:Nat.beq j i
   ·rfl
   ·exact absurd (Nat.eq_of_beq_eq_true hb) h
  simp[look,this,h]
structure Gl (n:Nat) (l:Fr) (a:Act) (Z:Fz):Prop where
 size:a.tmps.size=n
 defers:a.defers=[]
 tm:∀i r,look l i=Ad r→∃v,a.tmps[i]? =Ad v∧r.p Z v
def ev:Fr→Operand→Option Rp
 | l,.tmp t=>look l t
 | _,.const v=>Ad (rv v)
 | _,.global g=>Ad (rv (.pointer (Ad ⟨g,0,Ai⟩)))
 | _,.func f=>Ad (rv (.func (.func f) #[] #[]))
variable{i:Nat}
section
variable {n : Nat} {l l' : Fr} {a : Act} {Z Z' : Fz}
theorem Gl.ev (h:Gl n l a Z){x:Operand}{r:Rp}(hx:Q.ev l x=Ad r):r.p Z (a.eval x):=by
 cases x with
 | tmp t=>obtain⟨v,hv,hp⟩:=h.tm t r hx;simpa[Act.eval,Array.getD_eq_getD_getElem?,hv] using hp
 | const u=>simp only[Q.ev,Option.some.injEq] at hx;subst hx;rfl
 | global g=>simp only[Q.ev,Option.some.injEq] at hx;subst hx;rfl
 | func f=>simp only[Q.ev,Option.some.injEq] at hx;subst hx;rfl
theorem Gl.eval (h:Gl n l a Z){x:Operand}(hx:Q.ev l x=Ad (rv v)):a.eval x=v:=h.ev hx
theorem Gl.put (h:Gl n l a Z){d:Nat}(hd:Nat.blt d n=Af){r:Rp}{v:Value}(hv:r.p Z v):Gl n ((d,r)::l) (a.put (Ad d) v) Z:=by
 have hd':d<n:=by simpa using hd
 refine⟨by simp[Act.put,h.size],by simp[Act.put,h.defers],λi u hi=>?_⟩;rw[DO] at hi;simp only[Act.put,Array.getElem?_setIfInBounds]
 split at hi
 ·rename_i e;subst e;simp at hi;subst hi;exact⟨v,by simp[h.size,hd'],hv⟩
 ·rename_i e;rw[AqM e];exact h.tm i u hi
theorem Gl.put_none (h:Gl n l a Z)(v:Value):Gl n l (a.put Ai v) Z:=h
theorem Gl.mono (h:Gl n l a Z)(hz:Fz.le Z Z'):Gl n l a Z':=⟨h.size,h.defers,λi r hi=>let ⟨v,hv,hp⟩:=h.tm i r hi;⟨v,hv,r.mono hz hp⟩⟩
def Hj:Fr→Fr→Prop
 | [],_=>True
 | p::r,l=>(∃q,look l p.1=Ad q∧If q p.2)∧Hj r l
theorem Hj.look:∀{l' l:Fr},Hj l' l→∀i v,Q.look l' i=Ad v→∃q,Q.look l i=Ad q∧If q v
 | [],_,_,i,v,h=>by simp[Q.look] at h
 | p::r,l,⟨h1,h2⟩,i,v,h=>by
  obtain⟨j,u⟩:=p;rw[DO] at h
  split at h
  ·rename_i e;subst e;simp at h;subst h;exact h1
  ·exact Hj.look h2 i v h
theorem Hj.nil:Hj [] l:=trivial
theorem Hj.c {r:Rp}{t:Fr}(h:Q.look l i=Ad r)(ht:Hj t l):Hj ((i,r)::t) l:=⟨⟨r,h,If.refl r⟩,ht⟩
theorem Hj.c5 {i1 i2 i3 i4 i5:Nat}{r1 r2 r3 r4 r5:Rp}{t:Fr}(h1:Q.look l i1=Ad r1)(h2:Q.look l i2=Ad r2)(h3:Q.look l i3=Ad r3)(h4:Q.look l i4=Ad r4)(h5:Q.look l i5=Ad r5)(ht:Hj t l):Hj ((i1,r1)::(i2,r2)::(i3,r3)::(i4,r4)::(i5,r5)::t) l:=
 Hj.c h1 (Hj.c h2 (Hj.c h3 (Hj.c h4 (Hj.c h5 ht))))
theorem Gl.sub (h:Gl n l a Z)(hs:Hj l' l):Gl n l' a Z:=⟨h.size,h.defers,λi v hi=>by
 obtain⟨q,hq,hle⟩:=hs.look i v hi;obtain⟨u,hu,hp⟩:=h.tm i q hq;exact⟨u,hu,hle Z u hp⟩⟩
end
inductive Ent where
 | obj (b:Nat) (o:Obj)
 | blk (b:Nat) (cs:List Rp) (e:TypeId)
 | row (v:Value) (e:TypeId) (sz:Nat) (xs:List (List Rp))
 | map (b:Nat) (m:List (List UInt8×Rp))
 | fact (v:Value) (r:Rp)
 | bld (T e:TypeId) (b:Nat) (v:Value) (l:List UInt8)
 | mit (b it:Nat) (m rest:List (List UInt8×Rp)) (cur:Option (List UInt8×Rp))
 | itz (it:Nat) (m rest:List (List UInt8×Rp)) (cur:Option (List UInt8×Rp))
 | imap (b:Nat) (m:List (Int×Rp))
 | pool (k:Nat) (v:Value) (e:TypeId) (xs:List (List Rp))
 | poolw (k:Nat) (v:Value) (e re:TypeId) (rz:Nat) (xs:List ((Value→List Rp)×List (List Rp))) (out:Option (Nat×(Nat×Value)))
 | poolm (k:Nat) (v:Value) (e:TypeId) (xs:List ((Nat→List Rp)×List (List UInt8×Rp))) (out:Option (Nat×(Nat×Nat)))
def AcN:Value→List Nat
 | .tuple a=>a.toList.map λx=>match x with
  | .int _ n=>n.toNat
  | _=>0
 | _=>[]
def AnX:Value→Nat×Value
 | .tuple a=>match a.toList with
  | [.int _ n,r]=>(n.toNat,r)
  | _=>(0,.tuple #[])
 | _=>(0,.tuple #[])
def Aaj:Value→List (Nat×Value)
 | .tuple a=>a.toList.map AnX
 | _=>[]
def ftW (ps:List (Nat×Value)):List Nat:=ps.flatMap λp=>p.1::p.2.ownBlock.toList
def AhO:List (Nat×Value)→Option (Nat×(Nat×Value))→List (Nat×Value)
 | ps,Ai=>ps
 | ps,Ad o=>ps.eraseIdx o.1
def Acv (v:Value):List (Nat×Nat):=(Aaj v).map λp=>(p.1,match p.2 with
 | .int _ n=>n.toNat
 | _=>0)
def ftM (ps:List (Nat×Nat)):List Nat:=ps.flatMap λp=>[p.1,p.2]
def AhP:List (Nat×Nat)→Option (Nat×(Nat×Nat))→List (Nat×Nat)
 | ps,Ai=>ps
 | ps,Ad o=>ps.eraseIdx o.1
def Ent.gk:Ent→List Nat
 | .pool k _ _ _=>[k]
 | .poolw k _ _ _ _ _ _=>[k]
 | .poolm k _ _ _ _=>[k]
 | _=>[]
def Ent.gn:Ent→Nat
 | .pool _ v _ _=>Ae (AcN v)
 | .poolw _ v _ _ _ _ _=>Ae (Aaj v)
 | .poolm _ v _ _ _=>Ae (Acv v)
 | _=>0
def Ent.foot:Ent→List Nat
 | .obj b _=>[b]
 | .blk b _ _=>[b]
 | .row v _ _ _=>v.ownBlock.toList
 | .map b _=>[b]
 | .fact _ _=>[]
 | .bld _ _ b v _=>b::v.ownBlock.toList
 | .mit b it _ _ _=>[b,it]
 | .itz it _ _ _=>[it]
 | .imap b _=>[b]
 | .pool _ v _ _=>AcN v
 | .poolw _ v _ _ _ _ out=>ftW (AhO (Aaj v) out)
 | .poolm _ v _ _ out=>ftM (AhP (Acv v) out)
def Ag7 (Z:Fz):List (Int×Rp)→List MapEntry→Prop
 | [],[]=>True
 | p::f,e::es=>(e.key = .int .i64 p.1∧p.2.p Z e.val)∧Ag7 Z f es
 | _,_=>False
theorem Ag7.mono {Z Z':Fz}(h:Fz.le Z Z'):∀{f:List (Int×Rp)} {es:List MapEntry},Ag7 Z f es→Ag7 Z' f es
 | [],[],_=>trivial
 | p::f,e::es,⟨⟨h1,h2⟩,h3⟩=>⟨⟨h1,p.2.mono h h2⟩,Ag7.mono h h3⟩
def RF (Z:Fz):List (List UInt8×Rp)→List MapEntry→Prop
 | [],[]=>True
 | p::f,e::es=>(e.key = .string (B p.1)∧p.2.p Z e.val)∧RF Z f es
 | _,_=>False
theorem RF.mono {Z Z':Fz}(h:Fz.le Z Z'):∀{f:List (List UInt8×Rp)} {es:List MapEntry},RF Z f es→RF Z' f es
 | [],[],_=>trivial
 | p::f,e::es,⟨⟨h1,h2⟩,h3⟩=>⟨⟨h1,p.2.mono h h2⟩,RF.mono h h3⟩
def Ih (Z:Fz)(m:List (List UInt8×Rp))(es:List MapEntry)(ck:Nat):Prop:=
 (m.map (·.1)).Nodup∧(es.map (·.born)).Nodup∧(∀e∈es,e.born<ck)∧∃f:List (List UInt8×Rp),f.Perm m∧RF Z f es
theorem Ih.mono {Z Z':Fz}(h:Fz.le Z Z'){m:List (List UInt8×Rp)}{es:List MapEntry}{ck:Nat}:Ih Z m es ck→Ih Z' m es ck:=λ⟨h1,h2,h3,f,h4,h5⟩=>⟨h1,h2,h3,f,h4,h5.mono h⟩
def Ao7 (Z:Fz)(rest:List (List UInt8×Rp))(es:List MapEntry)(seen:Array Nat):Prop:=∃f,f.Perm rest∧RF Z f (es.filter λe=>!seen.contains e.born)
def Cur (Z:Fz)(es:List MapEntry)(ck:Nat)(seen:Array Nat)(c0:Nat):Option (List UInt8×Rp)→Prop
 | none=>True
 | some kr=>c0=ck∧∃s0 e,seen=Array.push s0 e.born∧e∈es∧e.key = .string (B kr.1)∧kr.2.p Z e.val
theorem Cur.mono {Z Z':Fz}(h:Fz.le Z Z'){es:List MapEntry}{ck:Nat}{seen:Array Nat}{c0:Nat}:∀{cur:Option (List UInt8×Rp)},Cur Z es ck seen c0 cur→Cur Z' es ck seen c0 cur
 | none,_=>trivial
 | some kr,⟨h1,s0,e,h2,h3,h4,h5⟩=>⟨h1,s0,e,h2,h3,h4,kr.2.mono h h5⟩
def Ent.holds (Z:Fz)(w:World):Ent→Prop
 | .obj b o=>w.heap[b]? =Ad o
 | .blk b cs e=>∃us:List Value,w.heap[b]? =Ad (.cells us.toArray e (0,0))∧BM Z cs us
 | .row v e sz xs=>(∀c∈xs,Ae c=sz)∧∃us:List Value,w.ownsRow 0 e sz v (Ae xs) us∧BM Z xs.flatten us
 | .map b m=>∃es ck,w.heap[b]? =Ad (.map es ck)∧Ih Z m es.toList ck
 | .fact v r=>r.p Z v
 | .bld T e b v l=>∃p,(p = .pointer Ai∨p = .pointer (Ad ⟨b,0,Ai⟩))∧w.heap[b]? =Ad (.cells #[p,v] T (0,0))∧w.ownsRow 0 e 1 v (Ae l) (l.map λc=>Value.int .u8 c.toNat)∧v.ownBlock≠Ad b
 | .mit b it m rest cur=>∃es ck seen since c0,w.heap[b]? =Ad (.map es ck)∧w.heap[it]? =Ad (.mapIter (Ad b) since seen c0)∧Ih Z m es.toList ck∧(∀e∈es.toList,e.born<since)∧since≤c0∧c0≤ck∧b≠it∧Ao7 Z rest es.toList seen∧Cur Z es.toList ck seen c0 cur
 | .itz it m rest cur=>(w.heap[it]? =Ad (.mapIter Ai 0 #[] 0)∧m=[]∧rest=[]∧cur=Ai)∨∃b es ck seen since c0,Z b=Ad (.map es ck)∧w.heap[it]? =Ad (.mapIter (Ad b) since seen c0)∧Ih Z m es.toList ck∧(∀e∈es.toList,e.born<since)∧since≤c0∧c0≤ck∧Ao7 Z rest es.toList seen∧Cur Z es.toList ck seen c0 cur
 | .imap b m=>∃es ck,w.heap[b]? =Ad (.map es ck)∧Ag7 Z m es.toList
 | .pool k v e xs=>(AcN v).Nodup∧Ae (AcN v)=Ae xs∧∀i b cs,(AcN v)[i]? =Ad b→xs[i]? =Ad cs→Z.nm k i=Ad b∧∃us:List Value,w.heap[b]? =Ad (.cells us.toArray e (0,0))∧BM Z cs us
 | .poolw k v e re rz xs out=>Ae (Aaj v)=Ae xs∧(ftW (AhO (Aaj v) out)).Nodup∧(∀i p,(Aaj v)[i]? =Ad p→Z.nm k i=Ad p.1)∧(∀o,out=Ad o→(Aaj v)[o.1]? =Ad o.2)∧
   ∀i p x,(Aaj v)[i]? =Ad p→xs[i]? =Ad x→(∀o,out=Ad o→o.1≠i)→(∃us:List Value,w.heap[p.1]? =Ad (.cells us.toArray e (0,0))∧BM Z (x.1 p.2) us)∧(∀c∈x.2,Ae c=rz)∧∃us:List Value,w.ownsRow 0 re rz p.2 (Ae x.2) us∧BM Z x.2.flatten us
 | .poolm k v e xs out=>Ae (Acv v)=Ae xs∧(ftM (AhP (Acv v) out)).Nodup∧(∀i p,(Acv v)[i]? =Ad p→Z.nm k i=Ad p.1)∧(∀o,out=Ad o→(Acv v)[o.1]? =Ad o.2)∧
   ∀i p x,(Acv v)[i]? =Ad p→xs[i]? =Ad x→(∀o,out=Ad o→o.1≠i)→(∃us:List Value,w.heap[p.1]? =Ad (.cells us.toArray e (0,0))∧BM Z (x.1 p.2) us)∧∃es ck,w.heap[p.2]? =Ad (.map es ck)∧Ih Z x.2 es.toList ck
variable{k:Nat}
theorem AkX {ps:List (Nat×Nat)}{out:Option (Nat×(Nat×Nat))}(h:k∈ftM (AhP ps out)):∃i p,ps[i]? =Ad p∧(∀o,out=Ad o→o.1≠i)∧(k=p.1∨k=p.2):=by
 unfold ftM at h;obtain⟨p,hp,hk⟩:=List.mem_flatMap.1 h;obtain⟨j,hj⟩:=List.mem_iff_getElem?.1 hp;have hk:k=p.1∨k=p.2:=by simpa using hk
 cases out with
 | none=>exact⟨j,p,hj,(λo h=>by cases h),hk⟩
 | some o=>
  rw[AhP,List.getElem?_eraseIdx] at hj
  split at hj
  ·exact⟨j,p,hj,(λo' h=>by cases h;omega),hk⟩
  ·exact⟨j+1,p,hj,(λo' h=>by cases h;omega),hk⟩
theorem Aeb {ps:List (Nat×Nat)}{out:Option (Nat×(Nat×Nat))}{p:Nat×Nat}(hp:ps[i]? =Ad p)(ho:∀o,out=Ad o→o.1≠i)(hk:k=p.1∨k=p.2):k∈ftM (AhP ps out):=by
 unfold ftM;refine List.mem_flatMap.2 ⟨p,?_,by simpa using hk⟩
 cases out with
 | none=>exact Aq1 hp
 | some o=>
  have hne:=ho o rfl
  by_cases hlt:i<o.1
  ·exact Aq1 (show(ps.eraseIdx o.1)[i]? =Ad p by rw[List.getElem?_eraseIdx,Arc hlt];exact hp)
  ·exact Aq1 (show(ps.eraseIdx o.1)[i-1]? =Ad p by rw[List.getElem?_eraseIdx,AqM Ab,show i-1+1=i from Ab];exact hp)
variable{out:Option (Nat×(Nat×Value))}
theorem AkW {ps:List (Nat×Value)}(h:k∈ftW (AhO ps out)):∃i p,ps[i]? =Ad p∧(∀o,out=Ad o→o.1≠i)∧(k=p.1∨k∈p.2.ownBlock.toList):=by
 unfold ftW at h;obtain⟨p,hp,hk⟩:=List.mem_flatMap.1 h;obtain⟨j,hj⟩:=List.mem_iff_getElem?.1 hp
 cases out with
 | none=>exact⟨j,p,hj,(λo h=>by cases h),List.mem_cons.1 hk⟩
 | some o=>
  rw[AhO,List.getElem?_eraseIdx] at hj
  split at hj
  ·exact⟨j,p,hj,(λo' h=>by cases h;omega),List.mem_cons.1 hk⟩
  ·exact⟨j+1,p,hj,(λo' h=>by cases h;omega),List.mem_cons.1 hk⟩
theorem Aea {ps:List (Nat×Value)}{p:Nat×Value}(hp:ps[i]? =Ad p)(ho:∀o,out=Ad o→o.1≠i)(hk:k=p.1∨k∈p.2.ownBlock.toList):k∈ftW (AhO ps out):=by
 unfold ftW;refine List.mem_flatMap.2 ⟨p,?_,List.mem_cons.2 hk⟩
 cases out with
 | none=>exact Aq1 hp
 | some o=>
  have hne:=ho o rfl
  by_cases hlt:i<o.1
  ·exact Aq1 (show(ps.eraseIdx o.1)[i]? =Ad p by rw[List.getElem?_eraseIdx,Arc hlt];exact hp)
  ·exact Aq1 (show(ps.eraseIdx o.1)[i-1]? =Ad p by rw[List.getElem?_eraseIdx,AqM Ab,show i-1+1=i from Ab];exact hp)
theorem Ent.lt {Z:Fz}{w:World}{e:Ent}(h:e.holds Z w){k:Nat}(hk:k∈e.foot):k<w.heap.size:=by
 cases e with
 | obj b o=>simp[Ent.foot] at hk;subst hk;exact(Array.getElem?_eq_some_iff.1 h).1
 | blk b cs e=>simp[Ent.foot] at hk;subst hk;obtain⟨us,h,_⟩:=h;exact(Array.getElem?_eq_some_iff.1 h).1
 | row v e sz xs=>simp[Ent.foot,Option.mem_toList] at hk;obtain⟨_,us,h,_⟩:=h;exact(World.ownsRow.lt h k hk).2
 | map b m=>simp[Ent.foot] at hk;subst hk;obtain⟨es,ck,h,_⟩:=h;exact(Array.getElem?_eq_some_iff.1 h).1
 | fact v r=>simp[Ent.foot] at hk
 | bld T e b v l=>
  obtain⟨p,_,h1,h2,_⟩:=h;simp only[Ent.foot,Ars,Option.mem_toList] at hk;rcases hk with rfl | hk
  ·exact(Array.getElem?_eq_some_iff.1 h1).1
  ·exact(World.ownsRow.lt h2 k hk).2
 | mit b it m rest cur=>
  obtain⟨es,ck,seen,since,c0,h1,h2,_⟩:=h;simp only[Ent.foot,Ars,List.not_mem_nil,or_false] at hk;rcases hk with rfl | rfl
  ·exact(Array.getElem?_eq_some_iff.1 h1).1
  ·exact(Array.getElem?_eq_some_iff.1 h2).1
 | itz it m rest cur=>
  simp[Ent.foot] at hk;subst hk;rcases h with⟨h1,_⟩ | ⟨b,es,ck,seen,since,c0,_,h2,_⟩
  ·exact(Array.getElem?_eq_some_iff.1 h1).1
  ·exact(Array.getElem?_eq_some_iff.1 h2).1
 | imap b m=>simp[Ent.foot] at hk;subst hk;obtain⟨es,ck,h,_⟩:=h;exact(Array.getElem?_eq_some_iff.1 h).1
 | pool q v e xs=>
  obtain⟨_,hl,h⟩:=h;obtain⟨i,hi,rfl⟩:=List.getElem_of_mem (show k∈AcN v from hk);obtain⟨_,us,h1,_⟩:=h i (AcN v)[i] xs[i] (Aqx hi) (Aqx Ab);exact(Array.getElem?_eq_some_iff.1 h1).1
 | poolw q v e re rz xs out=>
  obtain⟨hl,_,_,_,h⟩:=h;obtain⟨i,p,h1,h2,h3⟩:=AkW hk;have hi:i<Ae xs:=by rw[← hl];exact(List.getElem?_eq_some_iff.1 h1).1
  obtain⟨⟨us,h4,_⟩,_,vs,h5,_⟩:=h i p xs[i] h1 (Aqx hi) h2;rcases h3 with rfl | h3
  ·exact(Array.getElem?_eq_some_iff.1 h4).1
  ·exact(World.ownsRow.lt h5 k (by simpa[Option.mem_toList] using h3)).2
 | poolm q v e xs out=>
  obtain⟨hl,_,_,_,h⟩:=h;obtain⟨i,p,h1,h2,h3⟩:=AkX hk;have hi:i<Ae xs:=by rw[← hl];exact(List.getElem?_eq_some_iff.1 h1).1
  obtain⟨⟨us,h4,_⟩,es,ck,h5,_⟩:=h i p xs[i] h1 (Aqx hi) h2;rcases h3 with rfl | rfl
  ·exact(Array.getElem?_eq_some_iff.1 h4).1
  ·exact(Array.getElem?_eq_some_iff.1 h5).1
theorem Nf {w w':World}{e:TypeId}{sz n:Nat}{us:List Value}(h:w.ownsRow 0 e sz v n us)(hk:∀k∈v.ownBlock.toList,w'.heap[k]? =w.heap[k]?):w'.ownsRow 0 e sz v n us:=by
 refine⟨h.1,?_⟩;rcases h.2 with hn | ⟨g,cap,cur,rfl,hb,hgg,rest⟩
 ·exact .inl hn
 ·exact .inr ⟨g,cap,cur,rfl,hb,(hk g (by simp[Value.ownBlock])).trans hgg,rest⟩
variable{e:Ent}
theorem Ent.keep {Z Z':Fz}{w w':World}(h:e.holds Z w)(hz:Fz.le Z Z')(hk:∀k∈e.foot,w'.heap[k]? =w.heap[k]?):e.holds Z' w':=by
 cases e with
 | obj b o=>exact(hk b (by simp[Ent.foot])).trans h
 | blk b cs e=>obtain⟨us,h1,h2⟩:=h;exact⟨us,(hk b (by simp[Ent.foot])).trans h1,h2.mono hz⟩
 | row v e sz xs=>obtain⟨h0,us,h1,h2⟩:=h;exact⟨h0,us,Nf h1 hk,h2.mono hz⟩
 | map b m=>obtain⟨es,ck,h1,h2⟩:=h;exact⟨es,ck,(hk b (by simp[Ent.foot])).trans h1,h2.mono hz⟩
 | fact v r=>exact r.mono hz h
 | bld T e b v l=>obtain⟨p,h0,h1,h2,h3⟩:=h;exact⟨p,h0,(hk b (by simp[Ent.foot])).trans h1,Nf h2 (λk hk'=>hk k (by simp only[Ent.foot,Ars];exact .inr hk')),h3⟩
 | mit b it m rest cur=>
  obtain⟨es,ck,seen,since,c0,h1,h2,h3,h4,h5,h6,h7,⟨f,h8,h9⟩,ha⟩:=h;exact⟨es,ck,seen,since,c0,(hk b (by simp[Ent.foot])).trans h1,(hk it (by simp[Ent.foot])).trans h2,h3.mono hz,h4,h5,h6,h7,⟨f,h8,h9.mono hz⟩,ha.mono hz⟩
 | itz it m rest cur=>
  rcases h with⟨h1,h2⟩ | ⟨b,es,ck,seen,since,c0,h1,h2,h3,h4,h5,h6,⟨f,h8,h9⟩,ha⟩
  ·exact .inl ⟨(hk it (by simp[Ent.foot])).trans h1,h2⟩
  ·exact .inr ⟨b,es,ck,seen,since,c0,hz.f b _ h1,(hk it (by simp[Ent.foot])).trans h2,h3.mono hz,h4,h5,h6,⟨f,h8,h9.mono hz⟩,ha.mono hz⟩
 | imap b m=>obtain⟨es,ck,h1,h2⟩:=h;exact⟨es,ck,(hk b (by simp[Ent.foot])).trans h1,h2.mono hz⟩
 | pool q v e xs=>
  obtain⟨h0,hl,h⟩:=h;refine⟨h0,hl,λi b cs hi hx=>?_⟩;obtain⟨h1,us,h2,h3⟩:=h i b cs hi hx;exact⟨hz.nm q i b h1,us,(hk b (Aq1 hi)).trans h2,h3.mono hz⟩
 | poolw q v e re rz xs out=>
  obtain⟨hl,hn,hm,ho,h⟩:=h;refine⟨hl,hn,λi p hi=>hz.nm q i _ (hm i p hi),ho,λi p x hi hx hne=>?_⟩;obtain⟨⟨us,h4,h5⟩,h6,vs,h7,h8⟩:=h i p x hi hx hne;exact⟨⟨us,(hk p.1 (Aea hi hne (.inl rfl))).trans h4,h5.mono hz⟩,h6,vs,Nf h7 (λk hk'=>hk k (Aea hi hne (.inr hk'))),h8.mono hz⟩
 | poolm q v e xs out=>
  obtain⟨hl,hn,hm,ho,h⟩:=h;refine⟨hl,hn,λi p hi=>hz.nm q i _ (hm i p hi),ho,λi p x hi hx hne=>?_⟩;obtain⟨⟨us,h4,h5⟩,es,ck,h6,h7⟩:=h i p x hi hx hne;exact⟨⟨us,(hk p.1 (Aeb hi hne (.inl rfl))).trans h4,h5.mono hz⟩,es,ck,(hk p.2 (Aeb hi hne (.inr rfl))).trans h6,h7.mono hz⟩
structure Cx where
 w0:World
 Z0:Fz
 M:List Nat
 E:Fz→Prop
 G:List Nat
structure RD (c:Cx) (H:List Ent) (Z:Fz) (w:World):Prop where
 own:∀e∈H,∀k∈e.gk,c.w0.heap.size≤k∨k∈c.G
 sz:∀e∈H,∀k∈e.gk,k<w.heap.size
 dis:H.Pairwise (λe e'=>∀k∈e.gk,k ∉ e'.gk)
 new:∀k i b,Z.nm k i=Ad b→c.Z0.nm k i=Ad b∨c.w0.heap.size≤k∨k∈c.G
 cap:∀e∈H,∀k∈e.gk,∀i,e.gn≤i→Z.nm k i=Ai
structure St (c:Cx) (H:List Ent) (Z:Fz) (w:World):Prop where
 os:w.os=c.w0.os
 tape:w.tape=c.w0.tape
 output:w.output=c.w0.output
 size:c.w0.heap.size≤w.heap.size
 old:∀k,k<c.w0.heap.size→k ∉ c.M→w.heap[k]? =c.w0.heap[k]?
 has:∀e∈H,e.holds Z w
 own:∀e∈H,∀k∈e.foot,c.w0.heap.size≤k∨k∈c.M
 dis:H.Pairwise (λe e'=>∀k∈e.foot,k ∉ e'.foot)
 frz:Frz Z w
 le:Fz.le c.Z0 Z
 new:∀b o,Z b=Ad o→c.Z0 b=Ad o∨c.w0.heap.size≤b∨b∈c.M
 zdis:∀e∈H,∀k∈e.foot,Z k=Ai
 env:c.E Z
 emono:∀{Z Z':Fz},Fz.le Z Z'→c.E Z→c.E Z'
 gst:RD c H Z w
variable{E:Fz→Prop}{M G:List Nat}
section
variable {c : Cx} {w w' : World} {Z Z' : Fz} {H H' Hr Hin Hout : List Ent}
theorem RD.sub (h:RD c H Z w)(hs:H'.Sublist H):RD c H' Z w:=⟨λe he=>h.own e (hs.subset he),λe he=>h.sz e (hs.subset he),h.dis.sublist hs,h.new,λe he=>h.cap e (hs.subset he)⟩
theorem RD.perm (h:RD c H Z w)(hp:H.Perm H'):RD c H' Z w:=⟨λe he=>h.own e (hp.mem_iff.2 he),λe he=>h.sz e (hp.mem_iff.2 he),(hp.pairwise_iff (λhxy k hk hk'=>hxy k hk' hk)).1 h.dis,h.new,λe he=>h.cap e (hp.mem_iff.2 he)⟩
theorem RD.grow (h:RD c H Z w)(hw:w.heap.size≤w'.heap.size):RD c H Z w':=⟨h.own,λe he k hk=>Nat.lt_of_lt_of_le (h.sz e he k hk) hw,h.dis,h.new,h.cap⟩
theorem RD.names {Z Z':Fz}(h:RD c H Z w)(hn:Z'.nm=Z.nm):RD c H Z' w:=⟨h.own,h.sz,h.dis,λk i b e=>h.new k i b (by rw[← hn];exact e),λe he k hk i hi=>by rw[hn];exact h.cap e he k hk i hi⟩
theorem RD.none (hg:H.flatMap Ent.gk=[]):RD ⟨w,Z,M,E,G⟩ H Z w':=by
 have h0:∀e∈H,∀k,k ∉ e.gk:=λe he k hk=>by
  have:k∈H.flatMap Ent.gk:=List.mem_flatMap.2 ⟨e,he,hk⟩;rw[hg] at this;cases this
 exact⟨λe he k hk=>absurd hk (h0 e he k),λe he k hk=>absurd hk (h0 e he k),List.Pairwise.imp_of_mem (R:=λ_ _=>True) (fun {a b} ha _ _ k hk=>absurd hk (h0 a ha k)) (List.pairwise_iff_getElem.2 λ_ _ _ _ _=>trivial),λ_ _ _ e=>.inl e,λe he k hk=>absurd hk (h0 e he k)⟩
theorem RD.enter (h:RD c (Hin++Hr) Z w):RD ⟨w,Z,M,E,Hin.flatMap Ent.gk⟩ Hin Z w:=
 ⟨λe he k hk=>.inr (List.mem_flatMap.2 ⟨e,he,hk⟩),λe he=>h.sz e (List.mem_append_left _ he),(List.pairwise_append.1 h.dis).1,λ_ _ _ e=>.inl e,λe he=>h.cap e (List.mem_append_left _ he)⟩
theorem RD.call (h:RD c (Hin++Hr) Z w)(hsz:c.w0.heap.size≤w.heap.size)(hsz':w.heap.size≤w'.heap.size)(h':RD ⟨w,Z,M,E,Hin.flatMap Ent.gk⟩ Hout Z' w'):RD c (Hout++Hr) Z' w':=by
 have hd:=List.pairwise_append.1 h.dis;have hG:∀k∈Hin.flatMap Ent.gk,∃e∈Hin,k∈e.gk:=λk hk=>List.mem_flatMap.1 hk;have hr:∀e∈Hr,∀k∈e.gk,k<w.heap.size∧k ∉ Hin.flatMap Ent.gk:=λe he k hk=>by
  refine⟨h.sz e (List.mem_append_right _ he) k hk,λhkG=>?_⟩;obtain⟨e',he',hke'⟩:=hG k hkG;exact hd.2.2 e' he' e he k hke' hk
 refine⟨λe he k hk=>?_,λe he k hk=>?_,?_,λk i b hb=>?_,λe he k hk i hi=>?_⟩
 ·rcases List.mem_append.1 he with he | he
  ·rcases h'.own e he k hk with h1 | h1
   ·exact .inl (Nat.le_trans hsz h1)
   ·obtain⟨e',he',hke'⟩:=hG k h1;exact h.own e' (List.mem_append_left _ he') k hke'
  ·exact h.own e (List.mem_append_right _ he) k hk
 ·rcases List.mem_append.1 he with he | he
  ·exact h'.sz e he k hk
  ·exact Nat.lt_of_lt_of_le (hr e he k hk).1 hsz'
 ·refine List.pairwise_append.2 ⟨h'.dis,hd.2.1,λe he e' he' k hk hk'=>?_⟩;have h2:=hr e' he' k hk';rcases h'.own e he k hk with h1 | h1
  ·simp only at h1;omega
  ·exact h2.2 h1
 ·rcases h'.new k i b hb with h1 | h1 | h1
  ·exact h.new k i b h1
  ·exact .inr (.inl (Nat.le_trans hsz h1))
  ·obtain⟨e',he',hke'⟩:=hG k h1;exact .inr (h.own e' (List.mem_append_left _ he') k hke')
 ·rcases List.mem_append.1 he with he | he
  ·exact h'.cap e he k hk i hi
  ·have h2:=hr e he k hk
   cases hz:Z'.nm k i with
   | none=>rfl
   | some b=>
    rcases h'.new k i b hz with h1 | h1 | h1
    ·have:=h.cap e (List.mem_append_right _ he) k hk i hi;simp only at h1;rw[this] at h1;cases h1
    ·simp only at h1;omega
    ·exact absurd h1 h2.2
theorem Frz.lt (h:Frz Z w){b:Nat}{o:Obj}(e:Z b=Ad o):b<w.heap.size:=(Array.getElem?_eq_some_iff.1 (h b o e)).1
theorem St.enter (h:St c (Hin++Hr) Z w):St ⟨w,Z,Hin.flatMap Ent.foot,c.E,Hin.flatMap Ent.gk⟩ Hin Z w:=
 ⟨rfl,rfl,rfl,Aq7 _,λ_ _ _=>rfl,λe he=>h.has e (List.mem_append_left _ he),λe he k hk=>.inr (List.mem_flatMap.2 ⟨e,he,hk⟩),(List.pairwise_append.1 h.dis).1,
  h.frz,Fz.le.refl _,λ_ _ e=>.inl e,λe he=>h.zdis e (List.mem_append_left _ he),h.env,h.emono,h.gst.enter⟩
theorem St.sub (h:St c H Z w)(hs:H'.Sublist H):St c H' Z w:=
 { h with has:=λe he=>h.has e (hs.subset he),own:=λe he=>h.own e (hs.subset he),dis:=h.dis.sublist hs,zdis:=λe he=>h.zdis e (hs.subset he),gst:=h.gst.sub hs }
theorem St.perm (h:St c H Z w)(hp:H.Perm H'):St c H' Z w:=
 { h with has:=λe he=>h.has e (hp.mem_iff.2 he),own:=λe he=>h.own e (hp.mem_iff.2 he),dis:=(hp.pairwise_iff (λhxy k hk hk'=>hxy k hk' hk)).1 h.dis,zdis:=λe he=>h.zdis e (hp.mem_iff.2 he),gst:=h.gst.perm hp }
theorem Cm:∀{H:List Ent} (i:Nat) {e:Ent},H[i]? =Ad e→H.Perm (e::H.eraseIdx i)
 | x::r,0,e,h=>by simp at h;subst h;simp
 | x::r,i+1,e,h=>by
  simp at h;exact((Cm _ h).cons x).trans (List.Perm.swap e x _)
theorem St.front (h:St c H Z w)(hi:H[i]? =Ad e):St c (e::H.eraseIdx i) Z w:=h.perm (Cm _ hi)
theorem St.ent (h:St c H Z w){en:Ent}(hi:H[i]? =Ad en):en.holds Z w:=h.has en (Aq1 hi)
theorem St.drawn (h:St c H Z w)(k:Nat):St c H Z { w with drawn:=k }:=
 { h with has:=λe he=>Ent.keep (h.has e he) (Fz.le.refl _) λ_ _=>rfl,frz:=⟨h.frz.f,h.frz.nm⟩,gst:=h.gst.grow (Aq7 _) }
theorem St.mem_lt (h:St c H Z w)(he:e∈H)(hk:k∈e.foot):k<w.heap.size:=Ent.lt (h.has e he) hk
theorem St.call (h:St c (Hin++Hr) Z w){E:Fz→Prop}(h':St ⟨w,Z,Hin.flatMap Ent.foot,E,Hin.flatMap Ent.gk⟩ Hout Z' w'):St c (Hout++Hr) Z' w':=by
 have hd:=List.pairwise_append.1 h.dis;have hM:∀k∈Hin.flatMap Ent.foot,∃e∈Hin,k∈e.foot:=λk hk=>List.mem_flatMap.1 hk;have hM2:∀k,k<c.w0.heap.size→k ∉ c.M→k ∉ Hin.flatMap Ent.foot:=λk hk hkM hkM2=>by
  obtain⟨e,he,hke⟩:=hM k hkM2;rcases h.own e (List.mem_append_left _ he) k hke with h1 | h1
  ·omega
  ·exact hkM h1
 have hr:∀e∈Hr,∀k∈e.foot,k<w.heap.size∧k ∉ Hin.flatMap Ent.foot:=λe he k hk=>by
  refine⟨h.mem_lt (List.mem_append_right _ he) hk,λhkM2=>?_⟩;obtain⟨e',he',hke'⟩:=hM k hkM2;exact hd.2.2 e' he' e he k hke' hk
 refine⟨h'.os.trans h.os,h'.tape.trans h.tape,h'.output.trans h.output,Nat.le_trans h.size h'.size,λk hk hkM=>?_,λe he=>?_,λe he k hk=>?_,?_,h'.frz,h.le.trans h'.le,λb o hb=>?_,λe he k hk=>?_,h.emono h'.le h.env,h.emono,h.gst.call h.size h'.size h'.gst⟩
 ·exact(h'.old k (Nat.lt_of_lt_of_le hk h.size) (hM2 k hk hkM)).trans (h.old k hk hkM)
 ·rcases List.mem_append.1 he with he | he
  ·exact h'.has e he
  ·exact Ent.keep (h.has e (List.mem_append_right _ he)) h'.le λk hk=>h'.old k (hr e he k hk).1 (hr e he k hk).2
 ·rcases List.mem_append.1 he with he | he
  ·rcases h'.own e he k hk with h1 | h1
   ·exact .inl (Nat.le_trans h.size h1)
   ·obtain⟨e',he',hke'⟩:=hM k h1;exact h.own e' (List.mem_append_left _ he') k hke'
  ·exact h.own e (List.mem_append_right _ he) k hk
 ·refine List.pairwise_append.2 ⟨h'.dis,hd.2.1,λe he e' he' k hk hk'=>?_⟩;rcases h'.own e he k hk with h1 | h1
  ·have h2:=(hr e' he' k hk').1;simp only at h1;omega
  ·exact(hr e' he' k hk').2 h1
 ·rcases h'.new b o hb with h1 | h1 | h1
  ·exact h.new b o h1
  ·exact .inr (.inl (Nat.le_trans h.size h1))
  ·obtain⟨e',he',hke'⟩:=hM b h1;exact .inr (h.own e' (List.mem_append_left _ he') b hke')
 ·rcases List.mem_append.1 he with he | he
  ·exact h'.zdis e he k hk
  ·have h2:=hr e he k hk
   cases hz:Z' k with
   | none=>rfl
   | some o=>
    rcases h'.new k o hz with h1 | h1 | h1
    ·have:=h.zdis e (List.mem_append_right _ he) k hk;simp only at h1;rw[this] at h1;cases h1
    ·simp only at h1;omega
    ·exact absurd h1 h2.2
theorem St.call0 (h:St c H Z w)(h':St ⟨w,Z,[],E,[]⟩ Hout Z' w'):St c (Hout++H) Z' w':=St.call (Hin:=[]) (by simpa using h) h'
theorem St.callF (h:St c H Z w)(hi:H[i]? =Ad e)(h':St ⟨w,Z,e.foot,E,e.gk⟩ Hout Z' w'):St c (Hout++H.eraseIdx i) Z' w':=
 St.call (Hin:=[e]) (Hr:=H.eraseIdx i) (h.front hi) (by simpa using h')
theorem St.oneG {e':Ent}(hz:Frz Z w)(he0:E Z)(hm:∀{Z Z':Fz},Fz.le Z Z'→E Z→E Z')(os:w'.os=w.os)(tape:w'.tape=w.tape)(output:w'.output=w.output)(size:w.heap.size≤w'.heap.size)
  (hb:∀k,k<w.heap.size→k ∉ M→w'.heap[k]? =w.heap[k]?) (hM:∀k∈M,Z k=Ai) (he:e'.holds Z w') (hf:∀k∈e'.foot,k∈M∨w.heap.size≤k) (hg:RD ⟨w,Z,M,E,G⟩ [e'] Z w'):St ⟨w,Z,M,E,G⟩ [e'] Z w':=by
 refine⟨os,tape,output,size,hb,by simpa using he,by simpa using λk hk=>(hf k hk).symm,Aj,⟨λb o hbo=>?_,λk i b hb=>Nat.lt_of_lt_of_le (hz.nm k i b hb) size⟩,Fz.le.refl _,λ_ _ e=>.inl e,?_,he0,hm,hg⟩
 ·rw[hb b (hz.lt hbo) (λh=>by rw[hM b h] at hbo;cases hbo)];exact hz b o hbo
 ·simp only[AqG,forall_eq];intro k hk;rcases hf k hk with h | h
  ·exact hM k h
  ·cases hz':Z k with
   | none=>rfl
   | some o=>have:=hz.lt hz';omega
theorem St.one {e':Ent}(hz:Frz Z w)(he0:E Z)(hm:∀{Z Z':Fz},Fz.le Z Z'→E Z→E Z')(os:w'.os=w.os)(tape:w'.tape=w.tape)(output:w'.output=w.output)(size:w.heap.size≤w'.heap.size)
  (hb:∀k,k<w.heap.size→k ∉ M→w'.heap[k]? =w.heap[k]?) (hM:∀k∈M,Z k=Ai) (he:e'.holds Z w') (hf:∀k∈e'.foot,k∈M∨w.heap.size≤k) (hg:e'.gk=[]:=by rfl):St ⟨w,Z,M,E,G⟩ [e'] Z w':=St.oneG hz he0 hm os tape output size hb hM he hf (RD.none (by simp[hg]))
theorem St.set (h:St c H Z w){i:Nat}{e e':Ent}(hi:H[i]? =Ad e)(os:w'.os=w.os)(tape:w'.tape=w.tape)(output:w'.output=w.output)(size:w.heap.size≤w'.heap.size)
  (hb:∀k,k<w.heap.size→k ∉ e.foot→w'.heap[k]? =w.heap[k]?) (he:e'.holds Z w') (hf:∀k∈e'.foot,k∈e.foot∨w.heap.size≤k) (hg:e'.gk=[]:=by rfl):St c (H.set i e') Z w':=by
 have hmem:=Aq1 hi;have h3:=h.callF hi (St.one (e':=e') h.frz h.env h.emono os tape output size hb (h.zdis e hmem) he hf hg);have hil:i<Ae H:=(List.getElem?_eq_some_iff.1 hi).1;have hq:(H.set i e')[i]? =Ad e':=by simp[hil]
 have:=Cm _ hq;rw[List.eraseIdx_set_eq] at this;exact h3.perm this.symm
theorem St.add (h:St c H Z w){e':Ent}(os:w'.os=w.os)(tape:w'.tape=w.tape)(output:w'.output=w.output)(size:w.heap.size≤w'.heap.size)
  (hb:∀k,k<w.heap.size→w'.heap[k]? =w.heap[k]?) (he:e'.holds Z w') (hf:∀k∈e'.foot,w.heap.size≤k) (hg:e'.gk=[]:=by rfl):St c (e'::H) Z w':=
 h.call0 (St.one (e':=e') (M:=[]) h.frz h.env h.emono os tape output size (λk hk _=>hb k hk) Aj he (λk hk=>.inr (hf k hk)) hg)
theorem St.alloc (h:St c H Z w)(o:Obj)(he:e.holds Z (w.alloc o))(hf:e.foot=[w.heap.size])(hg:e.gk=[]:=by rfl):St c (e::H) Z (w.alloc o):=
 h.add rfl rfl rfl Aj (λk hk=>Below.heap_alloc w o k hk) he (by simp[hf]) hg
theorem Ow {α:Type}{sz:Nat}:∀{vs:List (List α)} (hs:∀c∈vs,Ae c=sz) {i:Nat} {c:List α} (hi:vs[i]? =Ad c) {j:Nat} {u:α} (hj:c[j]? =Ad u),vs.flatten[i*sz+j]? =Ad u
 | [],hs,i,c,hi,j,u,hj=>by simp at hi
 | x::r,hs,0,c,hi,j,u,hj=>by
  simp at hi;subst hi;simp only[List.flatten_cons,Nat.zero_mul,AqT];rw[Arr (by have:=(List.getElem?_eq_some_iff.1 hj).1;exact this)];exact hj
 | x::r,hs,i+1,c,hi,j,u,hj=>by
  have hx:Ae x=sz:=hs x Aj;simp only[List.flatten_cons];rw[Art (by rw[hx,Nat.succ_mul];omega)];have e:(i+1)*sz+j-Ae x=i*sz+j:=by rw[hx,Nat.succ_mul];omega
  rw[e];exact Ow (vs:=r) (λc hc=>hs c (by simp[hc])) (by simpa using hi) hj
theorem KK {α:Type}{sz:Nat}:∀{vs:List (List α)} (hs:∀c∈vs,Ae c=sz),Ae vs.flatten=Ae vs*sz
 | [],_=>by simp
 | x::r,hs=>by
  have:=KK (vs:=r) (λc hc=>hs c (by simp[hc]));have hx:=hs x Aj;simp only[List.flatten_cons,Aqs,Aqp] at this ⊢;rw[this,hx,Nat.succ_mul];omega
theorem St.freeze (h:St c H Z w){e:TypeId}{sz:Nat}{xs:List (List Rp)}(hi:H[i]? =Ad (.row v e sz xs)):∃Z',Fz.le Z Z'∧St c (H.eraseIdx i) Z' w∧SlZ sz xs Z' v:=by
 obtain⟨h0,us,⟨h1,h2⟩,h3⟩:=h.ent hi;have hlen:=h3.length;rcases h2 with⟨rfl,hn⟩ | ⟨g,cap,cur,rfl,_,hg,hc,hm,hsz,htk⟩
 ·have:xs=[]:=AqB hn;subst this;exact⟨Z,Fz.le.refl _,h.sub (List.eraseIdx_sublist _ _),SlZ.nil _ _⟩
 ·have hmem:=Aq1 hi;have hgz:Z g=Ai:=h.zdis _ hmem g (by simp[Ent.foot,Value.ownBlock])
  let Z':Fz:=⟨λb=>if b=g then Ad (.cells cur e (0,0)) else Z b,Z.nm⟩
  have hle:Fz.le Z Z':=⟨λb o hb=>by
   have:b≠g:=λe=>by subst e;rw[hgz] at hb;cases hb
   simpa[Z',this] using hb,λ_ _ _ h=>h⟩
  have hfr:=h.front hi;have hd:=List.pairwise_cons.1 hfr.dis;refine⟨Z',hle,?_,?_⟩
  ·have hs:=hfr.sub (List.sublist_cons_self _ _);refine { hs with has:=λen he=>Ent.keep (hs.has en he) hle λ_ _=>rfl,frz:=⟨λb o hb=>?_,h.frz.nm⟩,gst:=hs.gst.names rfl,le:=hs.le.trans hle,new:=λb o hb=>?_,zdis:=λen he k hk=>?_,env:=hs.emono hle hs.env }
   ·by_cases hbg:b=g
    ·subst hbg;simp[Z'] at hb;rw[← hb];exact hg
    ·simp[Z',hbg] at hb;exact h.frz b o hb
   ·by_cases hbg:b=g
    ·subst hbg;exact .inr (h.own _ hmem b (by simp[Ent.foot,Value.ownBlock]))
    ·simp[Z',hbg] at hb;exact h.new b o hb
   ·have hkg:k≠g:=λe=>hd.1 en he g (by simp[Ent.foot,Value.ownBlock]) (e▸hk);simp only[Z',hkg,Arl];exact hs.zdis en he k hk
  ·refine⟨Ad ⟨g,0,Ai⟩,cap,rfl,hc,hm,(λh=>by cases h),λj cl hj=>⟨h0 cl (Aq1 hj),⟨g,0,Ai⟩,rfl,rfl,λq r hq=>?_⟩⟩;have hfl:xs.flatten[j*sz+q]? =Ad r:=Ow h0 hj hq;obtain⟨u,hu,hp⟩:=h3.at hfl;refine⟨u,?_,r.mono hle hp⟩;rw[← htk,AqU] at hu
   split at hu
   ·simpa[Nz,Z'] using hu
   ·cases hu
end
end Go.Proofs.YtiddaamglmmnaaaGreatDoor.Q
namespace Go.Proofs.YtiddaamglmmnaaaGreatDoor
open Go Go.RowKit
set_option linter.unusedVariables false
theorem MP (b o j:Nat):(⟨b,o,Ai⟩:Addr).add j=⟨b,o+j,Ai⟩:=by unfold Addr.add;split<;>simp_all
section
variable {P : Program} {n : Nat} {w0 : World} {M : List Nat} {ops : Array Oper} {Q : Exit → Act → World → Prop} {rest : List Oper} {l : Fr} {H H' : List Ent} {d : Nat} {x y c : Operand} {ty t t' e : TypeId} {pos : String} {af : Array Edge} {g : Option (Nat × Bool)} {v u : Value}
theorem St.ent {w:World}(h:St w0 M H w){i:Nat}{en:Ent}(hi:H[i]? =Ad en):en.holds w:=h.has en (Aq1 hi)
end
def RB:Nat→List Value→Fr
 | _,[]=>[]
 | i,v::r=>(i,v)::RB (i+1) r
theorem Lp:∀(args:List Value) (k i:Nat) (v:Value),look (RB k args) i=Ad v→k≤i∧args[i-k]? =Ad v
 | [],k,i,v,h=>by simp[RB,look] at h
 | u::r,k,i,v,h=>by
  rw[RB,DO] at h
  split at h
  ·rename_i e;subst e;simp at h;subst h;simp
  ·rename_i e
   have:=Lp r (k+1) i v h;refine⟨Ab,?_⟩;rw[show i-k=(i-(k+1))+1 from Ab];simpa using this.2
variable{R:Ending→World→Prop}{fn:Func}{ats:Array TypeId}{vs:List Value}{f:FuncId}
section
variable {P : Program} {n : Nat} {w0 w : World} {M : List Nat} {ops : Array Oper} {Q : Exit → Act → World → Prop} {rest : List Oper} {l l' : Fr} {H H' : List Ent} {d : Nat} {ty t : TypeId} {pos : String} {af : Array Edge} {v u : Value}
theorem Ank {c:Code}{args:List Value}(hf:P.funcs[f]? =Ad fn)(hb:fn.body=Ad c)(hn:fn.ntmps=n)(hle:Nat.ble (Ae args) n=Af)
  (hw:St w0 M H w) (h:WC P n w0 M c (bodyPost P fn R) (RB 0 args) H):Calls P f args.toArray w R:=by
 have hle':Ae args≤n:=by simpa using hle
 refine calls_of_wp hf hb (h _ w ⟨?_,rfl,λi v hi=>?_⟩ hw)
 ·simp[hn];omega
 ·have:=(Lp args 0 i v hi).2;simp only[Nat.sub_zero] at this;have hlt:i<Ae args:=(List.getElem?_eq_some_iff.1 this).1;rw[Array.getElem?_append_left (by simpa using hlt)];simpa using this
theorem V8 {c:Code}{args:List Value}(hf:P.funcs[f]? =Ad fn)(hb:fn.body=Ad c)(hn:fn.ntmps=n)(hle:Nat.ble (Ae args) n=Af)
  (h:WC P n w [] c (bodyPost P fn R) (RB 0 args) []):Calls P f args.toArray w R:=Ank hf hb hn hle (St.refl w []) h
theorem AC (hr:∀a w,Gl n l a→St w0 M H w→(results fn a.tmps).run P w = .ok v w)(h:∀w,St w0 M H w→R (.returned v) w):WK n w0 M (bodyPost P fn R .ret) l H:=
 λa w ha hw=>⟨ha.defers,v,hr a w ha hw,h w hw⟩
theorem U0 {a:Act}(ha:Gl n l a){i:Nat}(h:look l i=Ad v):a.tmps[i]?.getD undef=v:=by
 rw[ha.tm i v h];rfl
theorem Dj {i:Nat}(hr:fn.results = #[.tmp i])(h:look l i=Ad v):∀a w,Gl n l a→St w0 M H w→(results fn a.tmps).run P w = .ok v w:=λa w ha hw=>by
 have e:=U0 ha h;simp[results,hr,e]
theorem Eb {i j:Nat}(hr:fn.results = #[.tmp i,.tmp j])(h:look l i=Ad v)(h2:look l j=Ad u):∀a w,Gl n l a→St w0 M H w→(results fn a.tmps).run P w = .ok (.tuple #[v,u]) w:=λa w ha hw=>by
 have e:=U0 ha h;have e2:=U0 ha h2;simp[results,hr,e,e2]
theorem Ye (e:v=u):∀w,St w0 [] H w→Qs w0 u (.returned v) w:=λw hw=>⟨by rw[e],hw.sub (List.nil_sublist _)⟩
theorem Iq {args:Array Operand}{o:Oper}{a:Act}(ho:o.op = .call { callee:=.value (.func f),args:=args,argTypes:=ats })
  (hcall:∀(as1:Array Value) (w:World),(callFunc f as1).run P w = .ok (.enter f as1) w) (hv:(args.map a.eval)=vs.toArray) (w:World):(execOp a.eval o).run P w = .ok (.enter f vs.toArray) w:=by
 simp[execOp,ho,resolve,Act.eval,Deferred.ofValue,invoke,hv,hcall]
def R0 (l:Fr):List Operand→Option (List Value)
 | []=>Ad []
 | x::r=>match ev l x,R0 l r with
  | some v,Ad vs=>Ad (v::vs)
  | _,_=>Ai
theorem TR {a:Act}(ha:Gl n l a):∀{xs:List Operand} {vs:List Value},R0 l xs=Ad vs→xs.map a.eval=vs
 | [],vs,h=>by simp[R0] at h;subst h;rfl
 | x::r,vs,h=>by
  simp only[R0] at h
  split at h
  ·rename_i v vs' h1 h2
   simp at h;subst h;simp[ha.eval h1,TR ha h2]
  ·cases h
theorem Em {args:List Operand}(hcall:∀(as1:Array Value) (w:World),(callFunc f as1).run P w = .ok (.enter f as1) w)(hv:R0 l args=Ad vs)
  (hc:∀w,St w0 M H w→Calls P f vs.toArray w (Qs w u)) (hn:Nat.blt d n=Af) (h:WL P n w0 M ops Q rest ((d,u)::l) H) :
  WL P n w0 M ops Q ({ dst:=Ad d,op:=.call { callee:=.value (.func f),args:=args.toArray,argTypes:=ats },type:=ty,pos:=pos,after:=af,guard:=Ai }::rest) l H:=
 O4 (λa w ha hw=>Iq rfl hcall (by simp[TR ha hv]) w) (λw hw=>(hc w hw).mono λe w' ⟨he,hs⟩=>⟨u,H,he,by simpa using hw.call0 hs,h⟩) hn
theorem Adc {args:List Operand}{Φ:Value→List Ent→Prop}(hcall:∀(as1:Array Value) (w:World),(callFunc f as1).run P w = .ok (.enter f as1) w)(hv:R0 l args=Ad vs)
  (hc:∀w,St w0 M H w→Calls P f vs.toArray w (Ret w [] Φ)) (hn:Nat.blt d n=Af) (h:∀u Ho,Φ u Ho→WL P n w0 M ops Q rest ((d,u)::l) (Ho++H)) :
  WL P n w0 M ops Q ({ dst:=Ad d,op:=.call { callee:=.value (.func f),args:=args.toArray,argTypes:=ats },type:=ty,pos:=pos,after:=af,guard:=Ai }::rest) l H:=
 O4 (λa w ha hw=>Iq rfl hcall (by simp[TR ha hv]) w) (λw hw=>(hc w hw).mono λe w' ⟨v,Ho,he,hs,hf⟩=>⟨v,Ho++H,he,hw.call0 hs,h v Ho hf⟩) hn
end
end Go.Proofs.YtiddaamglmmnaaaGreatDoor
namespace Go.Proofs.YtiddaamglmmnaaaGreatDoor.Q
open Go Go.RowKit
set_option linter.unusedVariables false
section
variable (P : Program) (n : Nat) (c : Cx)
def WL (ops:Array Oper)(Q:Exit→Act→World→Prop)(rest:List Oper)(l:Fr)(H:List Ent):Prop:=∀a w Z,Gl n l a Z→St c H Z w→wpList P ops Q rest a w
def WC (x:Code)(Q:Exit→Act→World→Prop)(l:Fr)(H:List Ent):Prop:=∀a w Z,Gl n l a Z→St c H Z w→x.wp P Q a w
def WK (K:Act→World→Prop)(l:Fr)(H:List Ent):Prop:=∀a w Z,Gl n l a Z→St c H Z w→K a w
def LU {S:Type}(inv:S→Prop)(fr:S→Fr)(hp:S→List Ent):Act→World→Prop:=λa w=>∃s Z,inv s∧Gl n (fr s) a Z∧St c (hp s) Z w
def Ck (l:Fr)(H:List Ent)(o:Oper)(r:Rp):Prop:=∀a w Z,Gl n l a Z→St c H Z w→∃v,r.p Z v∧(execOp a.eval o).run P w = .ok (.value v) w
end
def Ret (c:Cx)(Φ:Rp→List Ent→Prop):Ending→World→Prop:=λe w'=>∃r v H Z,e = .returned v∧Φ r H∧r.p Z v∧St c H Z w'
def Fn (P:Program)(E:Fz→Prop)(f:FuncId)(args:List Rp)(Hin:List Ent)(Φ:Rp→List Ent→Prop):Prop:=
 ∀w Z (vs:List Value),BM Z args vs→St ⟨w,Z,Hin.flatMap Ent.foot,E,Hin.flatMap Ent.gk⟩ Hin Z w→Calls P f vs.toArray w (Ret ⟨w,Z,Hin.flatMap Ent.foot,E,Hin.flatMap Ent.gk⟩ Φ)
abbrev Fn0 (P:Program)(E:Fz→Prop)(f:FuncId)(args:List Rp)(r:Rp):Prop:=Fn P E f args [] (λr' H=>r'=r∧H=[])
def Anw:List Rp→List Rp→Prop
 | [],[]=>True
 | a::as1,b::bs=>If a b∧Anw as1 bs
 | _,_=>False
theorem Anw.all {Z:Fz}:∀{rs rs':List Rp} {vs:List Value},Anw rs rs'→BM Z rs vs→BM Z rs' vs
 | [],[],[],_,_=>trivial
 | a::as1,b::bs,v::vs,⟨h1,h2⟩,⟨h3,h4⟩=>⟨h1 Z v h3,h2.all h4⟩
variable{α:Type}{l1:List α}{b:Bool}{ats:Array TypeId}{r:Rp}{sz:Nat}{S:Type}{Hin:List Ent}{j:Nat}{H2:List Ent}{af:Array Edge}{d:Nat}{pos:String}{xs:List (List Rp)}{E:Fz→Prop}{ty:TypeId}{args:List Operand}{i:Nat}{e:TypeId}{Φ:Rp→List Ent→Prop}{f:FuncId}{v:Value}{Z:Fz}{fn:Func}{id:Nat}{op:Op}
section
variable {P : Program} {n : Nat} {c : Cx} {ops : Array Oper} {Q : Exit → Act → World → Prop} {rest : List Oper} {l l' : Fr} {H H' : List Ent} {x y : Code} {K : Act → World → Prop}
theorem WC.sub (hl:Hj l' l)(hH:H'.Sublist H)(h:WC P n c x Q l' H'):WC P n c x Q l H:=λa w Z ha hw=>h a w Z (ha.sub hl) (hw.sub hH)
theorem WK.sub (hl:Hj l' l)(hH:H'.Sublist H)(h:WK n c K l' H'):WK n c K l H:=λa w Z ha hw=>h a w Z (ha.sub hl) (hw.sub hH)
theorem WL.sub (hl:Hj l' l)(hH:H'.Sublist H)(h:WL P n c ops Q rest l' H'):WL P n c ops Q rest l H:=λa w Z ha hw=>h a w Z (ha.sub hl) (hw.sub hH)
theorem St.freezeF {w:World}(h:St c H Z w)(hi:H[i]? =Ad (.row v e sz xs)):∃Z',Fz.le Z Z'∧St c (.fact v (Cg sz xs)::H.eraseIdx i) Z' w:=by
 obtain⟨Z',hz,hs,hr⟩:=h.freeze hi;exact⟨Z',hz,hs.add rfl rfl rfl (Aq7 _) (λ_ _=>rfl) (e':=.fact v (Cg sz xs)) hr (by simp[Ent.foot])⟩
theorem WK.freeze (hi:H[i]? =Ad (.row v e sz xs))(h:WK n c K l (.fact v (Cg sz xs)::H.eraseIdx i)):WK n c K l H:=λa w Z ha hw=>by
 obtain⟨Z',hz,hs⟩:=St.freezeF hw hi;exact h a w Z' (ha.mono hz) hs
theorem WC.freeze (hi:H[i]? =Ad (.row v e sz xs))(h:WC P n c x Q l (.fact v (Cg sz xs)::H.eraseIdx i)):WC P n c x Q l H:=λa w Z ha hw=>by
 obtain⟨Z',hz,hs⟩:=St.freezeF hw hi;exact h a w Z' (ha.mono hz) hs
theorem WL.freeze (hi:H[i]? =Ad (.row v e sz xs))(h:WL P n c ops Q rest l (.fact v (Cg sz xs)::H.eraseIdx i)):WL P n c ops Q rest l H:=λa w Z ha hw=>by
 obtain⟨Z',hz,hs⟩:=St.freezeF hw hi;exact h a w Z' (ha.mono hz) hs
def Up (H:List Ent)(q r:Rp):Prop:=∀(c:Cx) Z w v,St c H Z w→q.p Z v→r.p Z v
theorem Up.refl (r:Rp):Up H r r:=λ_ _ _ _ _ h=>h
theorem Up.le {q:Rp}(h:If q r):Up H q r:=λ_ Z _ v _ hp=>h Z v hp
theorem Up.fact (i:Nat)(hi:H[i]? =Ad (.fact v r)):Up H (rv v) r:=λc Z w u hw hp=>by rw[show u=v from hp];exact hw.ent hi
def N9 (H:List Ent):List Rp→List Rp→Prop
 | [],[]=>True
 | q::qs,r::rs=>Up H q r∧N9 H qs rs
 | _,_=>False
theorem N9.refl:∀rs:List Rp,N9 H rs rs
 | []=>trivial
 | r::rs=>⟨Up.refl r,N9.refl rs⟩
theorem N9.all {c:Cx}{Z:Fz}{w:World}(hw:St c H Z w):∀{qs rs:List Rp} {vs:List Value},N9 H qs rs→BM Z qs vs→BM Z rs vs
 | [],[],[],_,_=>trivial
 | q::qs,r::rs,v::vs,⟨h1,h2⟩,⟨h3,h4⟩=>⟨h1 c Z w v hw h3,h2.all hw h4⟩
theorem Gl.up {a:Act}{w:World}(ha:Gl n l a Z)(hw:St c H Z w){q:Rp}(hd:look l d=Ad q)(hr:Up H q r):Gl n ((d,r)::l) a Z:=
 ⟨ha.size,ha.defers,λi s hi=>by
  rw[DO] at hi
  split at hi
  ·rename_i e;subst e;simp at hi;subst hi
   obtain⟨u,hu,hp⟩:=ha.tm d _ hd;exact⟨u,hu,hr c Z w u hw hp⟩
  ·exact ha.tm i s hi⟩
theorem WK.up {d:Nat}{q r:Rp}(hd:look l d=Ad q)(hr:Up H q r)(h:WK n c K ((d,r)::l) H):WK n c K l H:=λa w Z ha hw=>h a w Z (ha.up hw hd hr) hw
theorem WC.up {d:Nat}{q r:Rp}(hd:look l d=Ad q)(hr:Up H q r)(h:WC P n c x Q ((d,r)::l) H):WC P n c x Q l H:=λa w Z ha hw=>h a w Z (ha.up hw hd hr) hw
theorem WL.up {d:Nat}{q r:Rp}(hd:look l d=Ad q)(hr:Up H q r)(h:WL P n c ops Q rest ((d,r)::l) H):WL P n c ops Q rest l H:=λa w Z ha hw=>h a w Z (ha.up hw hd hr) hw
theorem St.upBlk {w:World}(h:St c H Z w){b:Nat}{cs cs':List Rp}(hi:H[i]? =Ad (.blk b cs e))(hu:N9 H cs cs'):St c (H.set i (.blk b cs' e)) Z w:=
 h.set hi rfl rfl rfl (Aq7 _) (λ_ _ _=>rfl) (by obtain⟨us,h1,h2⟩:=h.ent hi;exact⟨us,h1,hu.all h h2⟩) (by simp[Ent.foot])
theorem WK.upBlk {i b:Nat}{cs cs':List Rp}{e:TypeId}(hi:H[i]? =Ad (.blk b cs e))(hu:N9 H cs cs')(h:WK n c K l (H.set i (.blk b cs' e))):WK n c K l H:=λa w Z ha hw=>h a w Z ha (hw.upBlk hi hu)
theorem WC.upBlk {i b:Nat}{cs cs':List Rp}{e:TypeId}(hi:H[i]? =Ad (.blk b cs e))(hu:N9 H cs cs')(h:WC P n c x Q l (H.set i (.blk b cs' e))):WC P n c x Q l H:=λa w Z ha hw=>h a w Z ha (hw.upBlk hi hu)
theorem WL.upBlk {i b:Nat}{cs cs':List Rp}{e:TypeId}(hi:H[i]? =Ad (.blk b cs e))(hu:N9 H cs cs')(h:WL P n c ops Q rest l (H.set i (.blk b cs' e))):WL P n c ops Q rest l H:=λa w Z ha hw=>h a w Z ha (hw.upBlk hi hu)
theorem Bl (h:WC P n c x (Exit.then (λa w=>y.wp P Q a w) Q) l H):WC P n c (x.seq y) Q l H:=λa w Z ha hw=>wp_seq (h a w Z ha hw)
theorem D2 (inv:S→Prop)(fr:S→Fr)(hp:S→List Ent)(h:WC P n c x (Exit.then (LU n c inv fr hp) Q) l H)(h2:∀s,inv s→WC P n c y Q (fr s) (hp s)) :
  WC P n c (x.seq y) Q l H:=λa w Z ha hw=>wp_seq (wp_mono (h a w Z ha hw) λe a w q=>by
   cases e with
   | normal=>obtain⟨s,Z,hi,hs,ht⟩:=q;exact h2 s hi a w Z hs ht
   | _=>exact q)
theorem AA {inv:S→Prop}{fr:S→Fr}{hp:S→List Ent}(s:S)(hi:inv s)(hl:Hj (fr s) l)(hH:(hp s).Sublist H):WK n c (LU n c inv fr hp) l H:=
 λ_ _ Z ha hw=>⟨s,Z,hi,ha.sub hl,hw.sub hH⟩
theorem AG (h:WK n c K l H):WK n c (Exit.then K Q .normal) l H:=h
theorem A3 (h:WK n c (Q (.exit id)) l H):WK n c (Exit.then K Q (.exit id)) l H:=h
theorem A5 (h:WK n c (Q .ret) l H):WK n c (Exit.then K Q .ret) l H:=h
theorem Bm (h:WK n c (Q .normal) l H):WK n c (Exit.inBlock id Q .normal) l H:=h
theorem Dc (h:WK n c (Q .ret) l H):WK n c (Exit.inBlock id Q .ret) l H:=h
theorem CJ (h:WC P n c y Q l H):WK n c (λa w=>y.wp P Q a w) l H:=h
theorem Cf (h:WK n c (Q .normal) l H):WC P n c .skip Q l H:=λa w Z ha hw=>wp_skip (h a w Z ha hw)
theorem BE (h:WK n c (Q (.exit id)) l H):WC P n c (.exit id) Q l H:=λa w Z ha hw=>wp_exit (h a w Z ha hw)
theorem CM (h:WK n c (Q .ret) l H):WC P n c .ret Q l H:=λa w Z ha hw=>wp_ret (h a w Z ha hw)
theorem AL (h:WC P n c x (Exit.inBlock id Q) l H):WC P n c (.block id x) Q l H:=λa w Z ha hw=>wp_block (h a w Z ha hw)
theorem Bo (h:WK n c (Q .normal) l H):WK n c (Exit.inBlock id Q (.exit id)) l H:=λa w Z ha hw=>by
 show if id=id then _ else _
 rw[Arc rfl];exact h a w Z ha hw
theorem Ab3 {id':Nat}(hne:Nat.beq id' id=Ah)(h:WK n c (Q (.exit id')) l H):WK n c (Exit.inBlock id Q (.exit id')) l H:=λa w Z ha hw=>by
 show if id'=id then _ else _
 rw[AqM (λe=>by subst e;simp at hne)];exact h a w Z ha hw
theorem JD {o:Operand}(ho:ev l o=Ad (rB b))(h1:b=Af→WC P n c x Q l H)(h2:b=Ah→WC P n c y Q l H):WC P n c (.cond o x y) Q l H:=
 λa w Z ha hw=>wp_cond_split (ha.eval ho) (λe=>h1 e a w Z ha hw) (λe=>h2 e a w Z ha hw)
theorem G4 {o:Operand}(ho:ev l o=Ad (rB b))(hb:b=Af)(h:WC P n c x Q l H):WC P n c (.cond o x y) Q l H:=
 λa w Z ha hw=>by subst hb;exact wp_cond_true (ha.eval ho) (h a w Z ha hw)
theorem DZ {o:Operand}(ho:ev l o=Ad (rB b))(hb:b=Ah)(h:WC P n c y Q l H):WC P n c (.cond o x y) Q l H:=
 λa w Z ha hw=>by subst hb;exact wp_cond_false (ha.eval ho) (h a w Z ha hw)
theorem T0 (inv:S→Prop)(fr:S→Fr)(hp:S→List Ent)(μ:S→Nat)(s0:S)(h0:inv s0)(hl:Hj (fr s0) l)(hH:(hp s0).Sublist H)
  (round:∀s,inv s→WC P n c x (Exit.then (LU n c (λs'=>inv s'∧μ s'<μ s) fr hp) Q) (fr s) (hp s)):WC P n c (.loop x) Q l H:=λa w Z ha hw=>by
 refine wp_loop_ghost (λk a w=>∃s Z,μ s=k∧inv s∧Gl n (fr s) a Z∧St c (hp s) Z w) (μ s0) ⟨s0,Z,rfl,h0,ha.sub hl,hw.sub hH⟩ ?_;rintro k a w ⟨s,Z,rfl,hi,ha,hw⟩;refine wp_mono (round s hi a w Z ha hw) λe a' w' q=>?_
 cases e with
 | normal=>
  obtain⟨s',Z',⟨hi',hlt⟩,ha',hw'⟩:=q;exact⟨μ s',hlt,s',Z',rfl,hi',ha',hw'⟩
 | _=>exact q
theorem AU {ops:List Oper}(h:WL P n c ops.toArray Q ops l H):WC P n c (.region id ops.toArray Ah) Q l H:=λa w Z ha hw=>wp_region_lit (h a w Z ha hw)
theorem AD (h:WK n c (Q .normal) l H):WL P n c ops Q [] l H:=λa w Z ha hw=>wpList_nil (h a w Z ha hw)
theorem sN:([]:List α).Sublist []:=List.Sublist.slnil
theorem sC {a:α}{l2:List α}(h:l1.Sublist l2):(a::l1).Sublist (a::l2):=List.Sublist.cons_cons a h
theorem sS {a:α}{l2:List α}(h:l1.Sublist l2):l1.Sublist (a::l2):=List.Sublist.cons a h
theorem CL (h:WC P n c y Q l H):WK n c (Exit.then (λa w=>y.wp P Q a w) Q .normal) l H:=AG (CJ h)
theorem Be (h:WC P n c y Q l H):WL P n c ops (Exit.then (λa w=>y.wp P Q a w) Q) [] l H:=AD (CL h)
theorem AT {ops:List Oper}(h:WL P n c ops.toArray (Exit.then (λa w=>y.wp P Q a w) Q) ops l H):WC P n c ((Code.region id ops.toArray Ah).seq y) Q l H:=Bl (AU h)
theorem Dt {os:List Oper}(h:WL P n c os.toArray (Exit.then (λa w=>y.wp P Q a w) Q) os l H):WL P n c ops (Exit.then (λa w=>((Code.region id os.toArray Ah).seq y).wp P Q a w) Q) [] l H:=Be (AT h)
def rle:List (Nat×List Ent)→List (List Ent)
 | []=>[]
 | p::r=>Au p.1 p.2++rle r
theorem GH {a:Act}(ha:Gl n l a Z)(hj:Eu ops j=Ad d)(hv:look l d=Ad (rB b)):yielded ops a.tmps j=Ad b:=by
 unfold Eu at hj;obtain⟨v,h1,h2⟩:=ha.tm d _ hv;rw[show v = .bool b from h2] at h1;simp[yielded,hj,h1]
theorem JC {a:Act}(ha:Gl n l a Z)(hj:Eu ops j=Ad d)(hv:look l d=Ad (rv undef)):yielded ops a.tmps j=Ai:=by
 unfold Eu at hj;obtain⟨v,h1,h2⟩:=ha.tm d _ hv;rw[show v=undef from h2] at h1;simp[yielded,hj,h1,undef]
theorem BL {d:Option Nat}{dj:Nat}{want:Bool}(hj:Eu ops j=Ad dj)(hv:look l dj=Ad (rB b))(hb:b=want)
  (h:WL P n c ops Q ({ dst:=d,op:=op,type:=ty,pos:=pos,after:=af,guard:=Ai }::rest) l H) :
  WL P n c ops Q ({ dst:=d,op:=op,type:=ty,pos:=pos,after:=af,guard:=Ad (j,want) }::rest) l H:=λa w Z ha hw=>by
 have h1:=h a w Z ha hw;have hy:=GH ha hj hv;subst hb;simp only[wpList,Region.wanted,hy,beq_self_eq_true,Arp] at h1 ⊢;exact h1
theorem Dh {dj:Nat}{want:Bool}(hj:Eu ops j=Ad dj)(hv:look l dj=Ad (rB b))(hb:b = !want)(hn:Nat.blt d n=Af)
  (h:WL P n c ops Q rest ((d,rv undef)::l) H) :
  WL P n c ops Q ({ dst:=Ad d,op:=op,type:=ty,pos:=pos,after:=af,guard:=Ad (j,want) }::rest) l H:=λa w Z ha hw=>by
 have hy:=GH ha hj hv;subst hb;refine wpList_skip ?_ (h _ w Z (ha.put hn rfl) hw);simp[Region.wanted,hy]
theorem Ez {dj:Nat}{want:Bool}(hj:Eu ops j=Ad dj)(hv:look l dj=Ad (rv undef))(hn:Nat.blt d n=Af)
  (h:WL P n c ops Q rest ((d,rv undef)::l) H) :
  WL P n c ops Q ({ dst:=Ad d,op:=op,type:=ty,pos:=pos,after:=af,guard:=Ad (j,want) }::rest) l H:=λa w Z ha hw=>by
 have hy:=JC ha hj hv;refine wpList_skip ?_ (h _ w Z (ha.put hn rfl) hw);simp[Region.wanted,hy]
theorem C2 (hr:Ck P n c l H { dst:=Ad d,op:=op,type:=ty,pos:=pos,after:=af,guard:=Ai } r)
  (hn:Nat.blt d n=Af) (h:WL P n c ops Q rest ((d,r)::l) H):WL P n c ops Q ({ dst:=Ad d,op:=op,type:=ty,pos:=pos,after:=af,guard:=Ai }::rest) l H:=λa w Z ha hw=>
 wpList_plain rfl λK hK=>by
  obtain⟨v,hv,he⟩:=hr a w Z ha hw;unfold Oper.wp;rw[he];exact hK _ _ (h _ w Z (ha.put hn hv) hw)
theorem PP
  (hr:∀a w Z,Gl n l a Z→St c H Z w→∃v w' r H' Z',(execOp a.eval { dst:=Ad d,op:=op,type:=ty,pos:=pos,after:=af,guard:=Ai }).run P w = .ok (.value v) w'∧Fz.le Z Z'∧r.p Z' v∧St c H' Z' w'∧WL P n c ops Q rest ((d,r)::l) H')
  (hn:Nat.blt d n=Af):WL P n c ops Q ({ dst:=Ad d,op:=op,type:=ty,pos:=pos,after:=af,guard:=Ai }::rest) l H:=λa w Z ha hw=>
 wpList_plain rfl λK hK=>by
  obtain⟨v,w',r,H',Z',h1,hz,hv,h2,h3⟩:=hr a w Z ha hw;unfold Oper.wp;rw[h1];exact hK _ _ (h3 _ w' Z' ((ha.mono hz).put hn hv) h2)
theorem AgZ
  (hr:∀a w Z,Gl n l a Z→St c H Z w→∃w' H',(execOp a.eval { dst:=Ai,op:=op,type:=ty,pos:=pos,after:=af,guard:=Ai }).run P w = .ok .skip w'∧St c H' Z w'∧WL P n c ops Q rest l H') :
  WL P n c ops Q ({ dst:=Ai,op:=op,type:=ty,pos:=pos,after:=af,guard:=Ai }::rest) l H:=λa w Z ha hw=>
 wpList_plain rfl λK hK=>by
  obtain⟨w',H',h1,h2,h3⟩:=hr a w Z ha hw;unfold Oper.wp;rw[h1];exact hK _ _ (h3 _ w' Z (ha.put_none _) h2)
theorem O4 {args:Act→Array Value}
  (hr:∀a w Z,Gl n l a Z→St c H Z w→(execOp a.eval { dst:=Ad d,op:=op,type:=ty,pos:=pos,after:=af,guard:=Ai }).run P w = .ok (.enter f (args a)) w∧
   Calls P f (args a) w (λe w'=>∃v r H' Z',e = .returned v∧Fz.le Z Z'∧r.p Z' v∧St c H' Z' w'∧WL P n c ops Q rest ((d,r)::l) H'))
  (hn:Nat.blt d n=Af):WL P n c ops Q ({ dst:=Ad d,op:=op,type:=ty,pos:=pos,after:=af,guard:=Ai }::rest) l H:=λa w Z ha hw=>
 wpList_plain rfl λK hK=>by
  obtain⟨h0,hc⟩:=hr a w Z ha hw;unfold Oper.wp;rw[h0];refine hc.mono ?_;rintro e w' ⟨v,r,H',Z',rfl,hz,hv,h2,h3⟩;exact hK _ _ (h3 _ w' Z' ((ha.mono hz).put hn hv) h2)
def R0 (l:Fr):List Operand→Option (List Rp)
 | []=>Ad []
 | x::r=>match ev l x,R0 l r with
  | some v,Ad vs=>Ad (v::vs)
  | _,_=>Ai
theorem JG {a:Act}{Z:Fz}(ha:Gl n l a Z):∀{xs:List Operand} {rs:List Rp},R0 l xs=Ad rs→BM Z rs (xs.map a.eval)
 | [],rs,h=>by simp[R0] at h;subst h;trivial
 | x::r,rs,h=>by
  simp only[R0] at h
  split at h
  ·rename_i v vs' h1 h2
   simp at h;subst h;exact⟨ha.ev h1,JG ha h2⟩
  ·cases h
theorem Iq {o:Oper}{a:Act}(ho:o.op = .call { callee:=.value (.func f),args:=args.toArray,argTypes:=ats })
  (hcall:∀(as1:Array Value) (w:World),(callFunc f as1).run P w = .ok (.enter f as1) w) (w:World):(execOp a.eval o).run P w = .ok (.enter f (args.map a.eval).toArray) w:=by
 simp[execOp,ho,resolve,Act.eval,Deferred.ofValue,invoke,hcall]
def L3:List Rp→List Rp→Prop
 | [],[]=>True
 | r::rs,q::qs=>If r q∧L3 rs qs
 | _,_=>False
theorem L3.refl:∀rs:List Rp,L3 rs rs
 | []=>trivial
 | r::rs=>⟨If.refl r,L3.refl rs⟩
theorem L3.all {Z:Fz}:∀{rs qs:List Rp} {vs:List Value},L3 rs qs→BM Z rs vs→BM Z qs vs
 | [],[],[],_,_=>trivial
 | r::rs,q::qs,v::vs,⟨h1,h2⟩,⟨h3,h4⟩=>⟨h1 Z v h3,h2.all h4⟩
theorem Fn.sub {args args':List Rp}{Φ':Rp→List Ent→Prop}(h:Fn P E f args' Hin Φ)(ha:L3 args args')(hΦ:∀r H,Φ r H→Φ' r H):Fn P E f args Hin Φ':=λw Z vs hv hs=>
 (h w Z vs (ha.all hv) hs).mono λe w' ⟨r,v,H,Z',he,hp,hr,ht⟩=>⟨r,v,H,Z',he,hΦ r H hp,hr,ht⟩
theorem Em {rs:List Rp}{Hr:List Ent}(hcall:∀(as1:Array Value) (w:World),(callFunc f as1).run P w = .ok (.enter f as1) w)(hv:R0 l args=Ad rs)
  (hp:H.Perm (Hin++Hr)) (hc:Fn P c.E f rs Hin Φ) (hn:Nat.blt d n=Af) (h:∀r Ho,Φ r Ho→WL P n c ops Q rest ((d,r)::l) (Ho++Hr)) :
  WL P n c ops Q ({ dst:=Ad d,op:=.call { callee:=.value (.func f),args:=args.toArray,argTypes:=ats },type:=ty,pos:=pos,after:=af,guard:=Ai }::rest) l H:=
 O4 (args:=λa=>(args.map a.eval).toArray) (λa w Z ha hw=>⟨Iq rfl hcall w,by
  have hw2:=hw.perm hp;refine(hc w Z _ (JG ha hv) hw2.enter).mono ?_;rintro e w' ⟨r,v,Ho,Z',he,hΦ,hr,hs⟩;exact⟨v,r,Ho++Hr,Z',he,hs.le,hr,hw2.call hs,h r Ho hΦ⟩⟩) hn
theorem CR {rs:List Rp}{r':Rp}(hcall:∀(as1:Array Value) (w:World),(callFunc f as1).run P w = .ok (.enter f as1) w)(hv:R0 l args=Ad rs)
  (hc:Fn0 P c.E f rs r') (hr:r'=r) (hn:Nat.blt d n=Af) (h:WL P n c ops Q rest ((d,r)::l) H) :
  WL P n c ops Q ({ dst:=Ad d,op:=.call { callee:=.value (.func f),args:=args.toArray,argTypes:=ats },type:=ty,pos:=pos,after:=af,guard:=Ai }::rest) l H:=
 Em (Hin:=[]) (Hr:=H) hcall hv (AqC _) hc hn (by rintro _ _ ⟨rfl,rfl⟩;subst hr;exact h)
theorem Lp:∀{Z:Fz} (rs:List Rp) (vs:List Value) (k:Nat),BM Z rs vs→∀i r,look ((rs.zipIdx k).map λp=>(p.2,p.1)) i=Ad r→k≤i∧∃v,vs[i-k]? =Ad v∧r.p Z v
 | _,[],[],k,_,i,r,h=>by simp[look] at h
 | Z,q::rs,v::vs,k,⟨h1,h2⟩,i,r,h=>by
  simp only[List.zipIdx_cons,AqY] at h;rw[DO] at h
  split at h
  ·rename_i e;subst e;simp at h;subst h;exact⟨Aq7 _,v,Aj,h1⟩
  ·rename_i e
   obtain⟨h3,u,h4,h5⟩:=Lp rs vs (k+1) h2 i r h;refine⟨Ab,u,?_,h5⟩;rw[show i-k=(i-(k+1))+1 from Ab];simpa using h4
def RB (rs:List Rp):Fr:=(rs.zipIdx 0).map λp=>(p.2,p.1)
theorem enter {x:Code}{args:List Rp}(hf:P.funcs[f]? =Ad fn)(hb:fn.body=Ad x)(hn:fn.ntmps=n)(hle:Nat.ble (Ae args) n=Af)
  (h:∀w Z,WC P n ⟨w,Z,Hin.flatMap Ent.foot,E,Hin.flatMap Ent.gk⟩ x (bodyPost P fn (Ret ⟨w,Z,Hin.flatMap Ent.foot,E,Hin.flatMap Ent.gk⟩ Φ)) (RB args) Hin):Fn P E f args Hin Φ:=λw Z vs hv hs=>by
 have hle':Ae args≤n:=by simpa using hle
 have hl:=hv.length;refine calls_of_wp hf hb (h w Z _ w Z ⟨?_,rfl,λi r hi=>?_⟩ hs)
 ·simp[hn];omega
 ·obtain⟨_,v,h1,h2⟩:=Lp args vs 0 hv i r hi;simp only[Nat.sub_zero] at h1;have hlt:i<Ae vs:=(List.getElem?_eq_some_iff.1 h1).1;refine⟨v,?_,h2⟩;rw[Array.getElem?_append_left (by simpa using hlt)];simpa using h1
def Ag4 (P:Program)(n:Nat)(c:Cx)(l:Fr)(H:List Ent)(fn:Func)(r:Rp):Prop:=∀a w Z,Gl n l a Z→St c H Z w→∃v,r.p Z v∧(results fn a.tmps).run P w = .ok v w
theorem AC (hr:Ag4 P n c l H fn r)(hp:H2.Sublist H)(h:Φ r H2):WK n c (bodyPost P fn (Ret c Φ) .ret) l H:=
 λa w Z ha hw=>by
  obtain⟨v,hv,he⟩:=hr a w Z ha hw;exact⟨ha.defers,v,he,r,v,H2,Z,rfl,h,hv,hw.sub hp⟩
theorem LX (hr:Ag4 P n c l H fn r)(hp:H2.Sublist H)(h:Φ r H2):WK n c (bodyPost P fn (Ret c Φ) .normal) l H:=
 λa w Z ha hw=>by
  obtain⟨v,hv,he⟩:=hr a w Z ha hw;exact⟨ha.defers,v,he,r,v,H2,Z,rfl,h,hv,hw.sub hp⟩
theorem Aki (hp:H.Perm H2)(h:WK n c K l H2):WK n c K l H:=λa w Z ha hw=>h a w Z ha (hw.perm hp)
def Ak5 (P:Program)(a:Act):ResultVar→Sem Value
 | .tmp t=>pure (a.tmps.getD t undef)
 | .cell b t=>do loadVar t (← asAddr (a.tmps.getD b undef))
def RV (P:Program)(n:Nat)(c:Cx)(l:Fr)(H:List Ent)(x:ResultVar)(r:Rp):Prop:=∀a w Z,Gl n l a Z→St c H Z w→∃v,r.p Z v∧(Ak5 P a x).run P w = .ok v w
theorem Ak2 (h:look l i=Ad r):RV P n c l H (.tmp i) r:=λa w Z ha _=>by
 obtain⟨v,h1,h2⟩:=ha.tm i r h;exact⟨v,h2,by simp[Ak5,Array.getD_eq_getD_getElem?,h1]⟩
theorem PV (fn:Func)(a:Act):results fn a.tmps=(do
  let vs ← fn.results.mapM (Ak5 P a)
  pure (if h:vs.size=1 then vs[0] else .tuple vs)):=by
 unfold results
 congr 1
theorem r_0 (hr:fn.results = #[]):Ag4 P n c l H fn (rv (.tuple #[])):=λa w Z ha _=>⟨_,rfl,by simp[results,hr]⟩
theorem Dj {x:ResultVar}(hr:fn.results = #[x])(h:RV P n c l H x r):Ag4 P n c l H fn r:=λa w Z ha hw=>by
 obtain⟨v,h1,h2⟩:=h a w Z ha hw;exact⟨v,h1,by simp[PV (P:=P),hr,h2]⟩
theorem Eb {x y:ResultVar}{s:Rp}(hr:fn.results = #[x,y])(h:RV P n c l H x r)(h':RV P n c l H y s):Ag4 P n c l H fn (Du [r,s]):=λa w Z ha hw=>by
 obtain⟨v,h1,h2⟩:=h a w Z ha hw;obtain⟨u,h3,h4⟩:=h' a w Z ha hw;exact⟨.tuple #[v,u],⟨[v,u],rfl,h1,h3,trivial⟩,by simp[PV (P:=P),hr,h2,h4]⟩
theorem r_3 {x y z:ResultVar}{s t:Rp}(hr:fn.results = #[x,y,z])(h:RV P n c l H x r)(h':RV P n c l H y s)(h'':RV P n c l H z t):Ag4 P n c l H fn (Du [r,s,t]):=λa w Z ha hw=>by
 obtain⟨v,h1,h2⟩:=h a w Z ha hw;obtain⟨u,h3,h4⟩:=h' a w Z ha hw;obtain⟨q,h5,h6⟩:=h'' a w Z ha hw;exact⟨.tuple #[v,u,q],⟨[v,u,q],rfl,h1,h3,h5,trivial⟩,by simp[PV (P:=P),hr,h2,h4,h6]⟩
theorem AnO {l':Fr}{H':List Ent}(hl:l=l')(hH:H=H')(h:WC P n c x Q l' H'):WC P n c x Q l H:=by subst hl;subst hH;exact h
theorem AnN {l':Fr}{H':List Ent}(hl:l=l')(hH:H=H')(h:WK n c K l' H'):WK n c K l H:=by subst hl;subst hH;exact h
theorem Ab2 {H':List Ent}(hH:H=H')(h:WL P n c ops Q rest l H'):WL P n c ops Q rest l H:=by subst hH;exact h
theorem MT {H':List Ent}(hH:H=H')(h:WK n c K l H'):WK n c K l H:=by subst hH;exact h
theorem Akm (hp:H.Perm H2)(h:WC P n c x Q l H2):WC P n c x Q l H:=λa w Z ha hw=>h a w Z ha (hw.perm hp)
def Mid (n:Nat)(c:Cx)(l:Fr)(H:List Ent):Act→World→Prop:=λa w=>∃Z,Gl n l a Z∧St c H Z w
theorem AM (l1:Fr)(H1:List Ent)(h:WC P n c x (Exit.then (Mid n c l1 H1) Q) l H)(h2:WC P n c y Q l1 H1):WC P n c (x.seq y) Q l H:=λa w Z ha hw=>
 wp_seq (wp_mono (h a w Z ha hw) λe a w q=>by
  cases e with
  | normal=>obtain⟨Z,h3,h4⟩:=q;exact h2 a w Z h3 h4
  | _=>exact q)
theorem IL {l1:Fr}{H1:List Ent}(hl:Hj l1 l)(hH:H1.Sublist H):WK n c (Mid n c l1 H1) l H:=λ_ _ Z ha hw=>⟨Z,ha.sub hl,hw.sub hH⟩
def Aj2 (id:Nat)(K:Act→World→Prop)(Q:Exit→Act→World→Prop):Exit→Act→World→Prop
 | .exit i,a,w=>if i=id then K a w else Q (.exit i) a w
 | e,a,w=>Q e a w
theorem Bk (h:WK n c K l H):WK n c (Aj2 id K Q (.exit id)) l H:=λa w Z ha hw=>by
 show if id=id then _ else _
 rw[Arc rfl];exact h a w Z ha hw
theorem Bj (h:WK n c (Q .ret) l H):WK n c (Aj2 id K Q .ret) l H:=h
theorem B8 {V:Type}(id:Nat)(inv:S→Prop)(fr:S→Fr)(hp:S→List Ent)(μ:S→Nat)(s0:S)(h0:inv s0)(hl:Hj (fr s0) l)(hH:(hp s0).Sublist H)(iv:V→Prop)(fv:V→Fr)(hv:V→List Ent)
  (round:∀s,inv s→WC P n c x (Exit.then (LU n c (λs'=>inv s'∧μ s'<μ s) fr hp) (Aj2 id (LU n c iv fv hv) Q)) (fr s) (hp s)) (hexit:∀v,iv v→WK n c (Q (.exit id)) (fv v) (hv v)):WC P n c (.loop x) Q l H:=λa w Z ha hw=>
 wp_mono (T0 (Q:=Aj2 id (LU n c iv fv hv) Q) inv fr hp μ s0 h0 hl hH round a w Z ha hw) λe a w q=>by
  cases e with
  | exit i=>
   by_cases hi:i=id
   ·subst hi;have q':if i=i then LU n c iv fv hv a w else Q (.exit i) a w:=q
    rw[Arc rfl] at q';obtain⟨v,Z,h1,h2,h3⟩:=q';exact hexit v h1 a w Z h2 h3
   ·have q':if i=id then LU n c iv fv hv a w else Q (.exit i) a w:=q
    rw[AqM hi] at q';exact q'
  | _=>exact q
theorem Ahb {lb:Nat}(h:WK n c (Q .normal) l H):WC P n c (.label lb) Q l H:=λa w Z ha hw=>wp_label (h a w Z ha hw)
theorem Aha (h:WC P n c x (Exit.noGoto Q) l H):WC P n c (.scope x) Q l H:=λa w Z ha hw=>wp_scope_straight (h a w Z ha hw)
theorem O5 (h:WK n c (Q .ret) l H):WK n c (Exit.noGoto Q .ret) l H:=h
end
theorem Fn0.of_old {P:Program}{vs:List Value}(h:∀w Z,Frz Z w→E Z→Calls P f vs.toArray w (Qs w v)):Fn0 P E f (vs.map rv) (rv v):=λw Z us hu hs=>by
 rw[BM.eq_rv hu];refine(h w Z hs.frz hs.env).mono λe w' ⟨he,ht⟩=>⟨rv v,v,[],Z,he,⟨rfl,rfl⟩,rfl,⟨ht.os,ht.tape,ht.output,ht.size,ht.old,Aj,Aj,Aj,⟨λb o hb=>?_,λk i b hb=>Nat.lt_of_lt_of_le (hs.frz.nm k i b hb) ht.size⟩,Fz.le.refl _,λ_ _ e=>.inl e,Aj,hs.env,hs.emono,RD.none rfl⟩⟩
 rw[ht.old b (hs.frz.lt hb) Aj];exact hs.frz b o hb
end Go.Proofs.YtiddaamglmmnaaaGreatDoor.Q
namespace Go.Proofs.YtiddaamglmmnaaaGreatDoor
def DU (c:Int):Bool:=Ac (97≤c)&&Ac (c≤122)
def G9 (c:Int):Bool:=Ac (48≤c)&&Ac (c≤57)
def He (c:Int):Bool:=DU c||G9 c||(Ac (65≤c)&&Ac (c≤90))||decide (c=45)||decide (c=95)||decide (c=46)||decide (c=58)||decide (c=47)
def Gf (n:Int):Bool:=Ac (-1000000000000≤n)&&Ac (n≤1000000000000)
def BA (p:List UInt8)(i:Int):Int:=((p[i.toNat]?).getD 0).toNat
variable{p:List UInt8}{u:UInt8}{k:Nat}
theorem Zc (h:p[k]? =Ad u):BA p (k:Int)=u.toNat:=by simp[BA,h]
def BV (f:Nat→UInt8→Bool):Nat→List UInt8→Bool
 | _,[]=>Af
 | i,u::r=>f i u&&BV f (i+1) r
def Gy (i:Nat)(u:UInt8):Bool:=DU u.toNat||(!Ac (i=0)&&(G9 u.toNat||decide ((u.toNat:Int)=45)||decide ((u.toNat:Int)=95)))
def Pu (_:Nat)(u:UInt8):Bool:=He u.toNat
def GS (p:List UInt8):Bool:=BV Gy 0 p&&Ac (1≤Ae p)&&Ac (Ae p≤24)
def KH (p:List UInt8):Bool:=BV Pu 0 p&&Ac (1≤Ae p)&&Ac (Ae p≤64)
theorem ML (h:p[k]? =Ad u):p.drop k=u::p.drop (k+1):=by
 obtain⟨h1,h2⟩:=List.getElem?_eq_some_iff.1 h;rw[List.drop_eq_getElem_cons h1,h2]
variable{f:Nat→UInt8→Bool}
theorem Ah1 (hi:k≤Ae p∧BV f 0 p=BV f k (p.drop k))(h:p[k]? =Ad u)(ht:f k u=Ah):BV f 0 p=Ah:=by
 rw[hi.2,ML h];simp[BV,ht]
theorem ZM (hi:k≤Ae p∧BV f 0 p=BV f k (p.drop k))(h:p[k]? =Ad u)(ht:f k u=Af) :
  (k+1≤Ae p∧BV f 0 p=BV f (k+1) (p.drop (k+1)))∧Ae p-(k+1)<Ae p-k:=by
 have hk:k<Ae p:=(List.getElem?_eq_some_iff.1 h).1;refine⟨⟨hk,?_⟩,Ab⟩;rw[hi.2,ML h];simp[BV,ht]
theorem Adq (hi:k≤Ae p∧BV f 0 p=BV f k (p.drop k))(h:Ae p≤k):BV f 0 p=Af:=by
 rw[hi.2,List.drop_of_length_le h];rfl
def Vi (k c:Nat):Bool:=!(DU c)&&(Ac ((k:Int)=0)||(!(G9 c)&&(!(Ac ((c:Int)=45))&&!(Ac ((c:Int)=95)))))
variable{wd c:Nat}
theorem Xh (hl:u.toNat<128→c=u.toNat∧wd=1)(hh:128≤u.toNat→128≤c):Vi k c = !Gy k u:=by
 rcases Nat.lt_or_ge u.toNat 128 with h | h
 ·rw[(hl h).1];have e:Ac ((k:Int)=0)=Ac (k=0):=Aj
  simp only[Vi,Gy,e]
  cases DU u.toNat<;>cases Ac (k=0)<;>cases G9 u.toNat<;>simp
 ·have h2:=hh h;have e:∀m:Nat,128≤m→Vi k m=Af:=λm hm=>by
   simp[Vi,DU,G9];omega
  have e2:Gy k u=Ah:=by simp[Gy,DU,G9];omega
  rw[e c h2,e2];rfl
theorem Af5 (hi:k≤Ae p∧BV Gy 0 p=BV Gy k (p.drop k))(h:p[k]? =Ad u)(hl:u.toNat<128→c=u.toNat∧wd=1)(hh:128≤u.toNat→128≤c)
  (ht:Vi k c=Ah):(k+wd≤Ae p∧BV Gy 0 p=BV Gy (k+wd) (p.drop (k+wd)))∧Ae p-(k+wd)<Ae p-k:=by
 rcases Nat.lt_or_ge u.toNat 128 with hu | hu
 ·rw[(hl hu).2];rw[Xh hl hh] at ht;exact ZM hi h (by simpa using ht)
 ·have h2:=hh hu;simp[Vi,DU,G9] at ht;omega
theorem AkT (hi:k≤Ae p∧BV Gy 0 p=BV Gy k (p.drop k))(h:p[k]? =Ad u)(hl:u.toNat<128→c=u.toNat∧wd=1)(hh:128≤u.toNat→128≤c)
  (ht:Vi k c=Af):GS p=Ah:=by
 rw[Xh hl hh] at ht;simp[GS,Ah1 hi h (by simpa using ht)]
theorem Aiq (hi:k≤Ae p∧BV Gy 0 p=BV Gy k (p.drop k))(h:Ae p≤k):GS p=((Ac ((1:Int)≤Ae p))&&(Ac ((Ae p:Int)≤24))):=by
 simp[GS,Adq hi h];grind
theorem AdU (hl:u.toNat<128→c=u.toNat∧wd=1)(hh:128≤u.toNat→128≤c):He c=Pu k u:=by
 rcases Nat.lt_or_ge u.toNat 128 with h | h
 ·rw[(hl h).1];rfl
 ·have h2:=hh h;have e:∀m:Nat,128≤m→He m=Ah:=λm hm=>by
   simp[He,DU,G9];omega
  rw[e c h2];exact(e _ h).symm
theorem Alp (hi:k≤Ae p∧BV Pu 0 p=BV Pu k (p.drop k))(h:p[k]? =Ad u)(hl:u.toNat<128→c=u.toNat∧wd=1)(hh:128≤u.toNat→128≤c)
  (ht:(!He c)=Ah):(k+wd≤Ae p∧BV Pu 0 p=BV Pu (k+wd) (p.drop (k+wd)))∧Ae p-(k+wd)<Ae p-k:=by
 have ht':He c=Af:=by simpa using ht
 rcases Nat.lt_or_ge u.toNat 128 with hu | hu
 ·rw[(hl hu).2];rw[AdU (k:=k) hl hh] at ht';exact ZM hi h ht'
 ·have h2:=hh hu;simp[He,DU,G9] at ht';omega
theorem Aoj (hi:k≤Ae p∧BV Pu 0 p=BV Pu k (p.drop k))(h:p[k]? =Ad u)(hl:u.toNat<128→c=u.toNat∧wd=1)(hh:128≤u.toNat→128≤c)
  (ht:(!He c)=Af):KH p=Ah:=by
 rw[AdU (k:=k) hl hh] at ht;simp[KH,Ah1 hi h (by simpa using ht)]
theorem Ana (hi:k≤Ae p∧BV Pu 0 p=BV Pu k (p.drop k))(h:Ae p≤k):KH p=((Ac ((1:Int)≤Ae p))&&(Ac ((Ae p:Int)≤64))):=by
 simp[KH,Adq hi h];grind
open Go
set_option linter.unusedVariables false
abbrev Aw:=List UInt8
def Qb (s:Aw):Bool:=Ac (Ae s≤1048576)
def E7 (l:List UInt8):List Int:=l.map λc=>(c.toNat:Int)
def Qv (l:List Int):List UInt8:=l.map λx=>Ar x.toNat
def BJ (k:IntKind)(x:Int):Bool:=Ac (k.min≤x)&&Ac (x≤k.max)
def CE (i n:Int):Bool:=Ac (0≤i)&&Ac (i<n)
def Gk (i n:Int):Bool:=Ac (0≤i)&&Ac (i≤n)
def De (b n:Nat):Bool:=Ac (n*b≤140737488355328)
def imp (a b:Bool):Bool:=!a||b
def Bc {α:Type}(p:Bool)(x:Option α):Option α:=bif p then x else Ai
def By {α:Type}(p:Bool)(x y:Option α):Option α:=bif p then x else y
def Pp {α β:Type}(a:α)(k:α→Option β):Option β:=k a
def BB {α β:Type}(a:Option α)(k:α→Option β):Option β:=match a with
 | some x=>k x
 | none=>Ai
theorem K6 {x:Int}(h:BJ .i64 x=Af) : -9223372036854775808≤x∧x≤9223372036854775807:=by simpa[BJ,IntKind.min,IntKind.max,IntKind.signed,IntKind.bits] using h
theorem EV {x:Int}(h:-9223372036854775808≤x)(h':x≤9223372036854775807):BJ .i64 x=Af:=by simpa[BJ,IntKind.min,IntKind.max,IntKind.signed,IntKind.bits] using And.intro h h'
theorem AdT {x:Int}(h:0≤x)(h':x≤255):BJ .u8 x=Af:=by simpa[BJ,IntKind.min,IntKind.max,IntKind.signed,IntKind.bits] using And.intro h h'
variable{i n:Int}
theorem DY (h:CE i n=Af):0≤i∧i<n:=by simpa[CE] using h
theorem L7 (h:0≤i)(h':i<n):CE i n=Af:=by simp[CE,h,h']
theorem CP (h:Gk i n=Af):0≤i∧i≤n:=by simpa[Gk] using h
theorem Aln (h:0≤i)(h':i≤n):Gk i n=Af:=by simp[Gk,h,h']
def ov {α:Type}[Inhabited α](a:Option α):α:=a.getD default
section
variable {α β : Type} {p q : Bool} {x y : Option α} {r : α} {s : β}
theorem Abg (h:Bc p x=Ad r):p=Af∧x=Ad r:=by
 cases p
 ·cases h
 ·exact⟨rfl,h⟩
theorem Aov (hp:p=Af)(h:By p x y=Ad r):x=Ad r:=by subst hp;exact h
theorem Aow (hp:p=Ah)(h:By p x y=Ad r):y=Ad r:=by subst hp;exact h
theorem Ao2 {a:β}{k:β→Option α}(h:Pp a k=Ad r):∃b,b=a∧k b=Ad r:=⟨a,rfl,h⟩
theorem Aod {a:Option β}{k:β→Option α}(h:BB a k=Ad r):∃b,a=Ad b∧k b=Ad r:=by
 cases a with
 | none=>cases h
 | some b=>exact⟨b,rfl,h⟩
theorem GR [Inhabited β]{a:Option β}(h:a.isSome=Af):a=Ad (ov a):=by
 cases a with
 | none=>cases h
 | some b=>rfl
theorem Ahs {a b:α}(h:Ad a=Ad b):a=b:=by cases h;rfl
theorem C3 (h:imp p q=Af)(hp:p=Af):q=Af:=by subst hp;simpa[imp] using h
theorem CA (h:imp (!p) q=Af)(hp:p=Ah):q=Af:=by subst hp;simpa[imp] using h
theorem Cn (h:p=Af):Bc p x=x:=by subst h;rfl
theorem AX (h:p=Af):By p x y=x:=by subst h;rfl
theorem AF (h:p=Ah):By p x y=y:=by subst h;rfl
theorem Bu {a:Option β}{k:β→Option α}{b:β}(h:a=Ad b):BB a k=k b:=by subst h;rfl
theorem AH {e:Int}(h:-9223372036854775808≤e)(h':e≤9223372036854775807):Bc (BJ .i64 e) x=x:=Cn (EV h h')
theorem Bi (h:0≤i)(h':i<n):Bc (CE i n) x=x:=Cn (L7 h h')
theorem C0 (h:0≤i)(h':i≤n):Bc (Gk i n) x=x:=Cn (Aln h h')
end
inductive Out (R V:Type) where
 | ret (r:R)
 | go (v:V)
 deriving DecidableEq
inductive Stp (S O:Type) where
 | next (s:S)
 | out (o:O)
 deriving DecidableEq
def Cp {S O:Type}(body:S→Option (Stp S O)):Nat→S→Option O
 | 0,_=>Ai
 | n+1,s=>match body s with
  | none=>Ai
  | some (.next s')=>Cp body n s'
  | some (.out o)=>Ad o
def Cb {R V:Type}(K:V→Option R):Out R V→Option R
 | .ret r=>Ad r
 | .go v=>K v
def Aep {S O:Type}(body:S→Option (Stp S O))(m:Nat)(o:O):Stp S O→Prop
 | .next s'=>Cp body m s'=Ad o
 | .out o'=>o'=o
section
variable {S R V : Type} {body : S → Option (Stp S (Out R V))} {n m : Nat} {s s' : S} {o : Out R V} {t : Stp S (Out R V)} {K : V → Option R} {r q : R} {v : V}
theorem C5 {O:Type}{body:S→Option (Stp S O)}{o:O}(h:Cp body n s=Ad o):∃m,n=m+1∧∃t,body s=Ad t∧Aep body m o t:=by
 cases n with
 | zero=>cases h
 | succ m=>
  refine⟨m,rfl,?_⟩;rw[Cp] at h
  cases hb:body s with
  | none=>rw[hb] at h;cases h
  | some t=>
   rw[hb] at h;refine⟨t,rfl,?_⟩
   cases t with
   | next s'=>exact h
   | out o'=>exact Ahs h
theorem Bp (h:Ad (Stp.next s')=Ad t)(ht:Aep body m o t):Cp body m s'=Ad o:=by cases h;exact ht
theorem Ci (h:Ad (Stp.out (Out.go v))=Ad t)(ht:Aep body m o t)(hK:Cb K o=Ad r):K v=Ad r:=by
 cases h
 have e:Out.go v=o:=ht;subst e;exact hK
theorem BK (h:Ad (Stp.out (Out.ret q))=Ad t)(ht:Aep body m o t)(hK:Cb K o=Ad r):Ad q=Ad r:=by
 cases h
 have e:Out.ret q=o:=ht;subst e;exact hK
theorem Nr {O:Type}{body:S→Option (Stp S O)}(I:S→Prop)(μ:S→Nat)(Qo:O→Prop)(step:∀s,I s→(∃s',body s=Ad (.next s')∧I s'∧μ s'<μ s)∨∃o,body s=Ad (.out o)∧Qo o) :
  ∀(n:Nat) (s:S),I s→μ s<n→∃o,Cp body n s=Ad o∧Qo o
 | 0,s,_,h=>by omega
 | n+1,s,hi,h=>by
  rcases step s hi with⟨s',e,hi',hlt⟩ | ⟨o,e,ho⟩
  ·obtain⟨o,h1,h2⟩:=Nr I μ Qo step n s' hi' Ab;exact⟨o,by rw[Cp,e];exact h1,h2⟩
  ·exact⟨o,by rw[Cp,e],ho⟩
theorem JZ {b:Bool}(h:b=Af):(!b)=Ah:=by subst h;rfl
theorem Jl {b:Bool}(h:b=Ah):(!b)=Af:=by subst h;rfl
end
def A2 {α:Type}[Inhabited α](xs:List α)(i:Int):α:=(xs[i.toNat]?).getD default
theorem EY {α:Type}{j:Int}{xs ys:List α}{y:α}(h:CE j (Ae xs:Int)=Af)(e:ys=xs.set k y):CE j (Ae ys:Int)=Af:=by rw[e,List.length_set];exact h
abbrev CH (a b:List UInt8):Bool:=Op.bytesLess a b
end Go.Proofs.YtiddaamglmmnaaaGreatDoor
namespace Go.Proofs.YtiddaamglmmnaaaGreatDoor.Q
open Go Go.RowKit
set_option linter.unusedVariables false
set_option linter.unusedSimpArgs false
theorem O2:∀{k:IntKind} {x:Int},BJ k x=Af→k.wrap x=x
 | .i8,x,h=>IntWalk.i8_in x (by simpa[BJ,IntKind.min,IntKind.max,IntKind.signed,IntKind.bits] using h)
 | .i16,x,h=>IntWalk.i16_in x (by simpa[BJ,IntKind.min,IntKind.max,IntKind.signed,IntKind.bits] using h)
 | .i32,x,h=>IntWalk.i32_in x (by simpa[BJ,IntKind.min,IntKind.max,IntKind.signed,IntKind.bits] using h)
 | .i64,x,h=>IntWalk.i64_in x (by simpa[BJ,IntKind.min,IntKind.max,IntKind.signed,IntKind.bits] using h)
 | .u8,x,h=>IntWalk.u8_in x (by simpa[BJ,IntKind.min,IntKind.max,IntKind.signed,IntKind.bits] using h)
 | .u16,x,h=>IntWalk.u16_in x (by simpa[BJ,IntKind.min,IntKind.max,IntKind.signed,IntKind.bits] using h)
 | .u32,x,h=>IntWalk.u32_in x (by simpa[BJ,IntKind.min,IntKind.max,IntKind.signed,IntKind.bits] using h)
 | .u64,x,h=>IntWalk.u64_in x (by simpa[BJ,IntKind.min,IntKind.max,IntKind.signed,IntKind.bits] using h)
theorem DX {P:Program}{Z:Fz}{v:Value}{f:Sem Next}{w:World}(h:f.run P w = .ok (.value v) w):∃u,(rv v).p Z u∧f.run P w = .ok (.value u) w:=⟨v,rfl,h⟩
variable{p:List UInt8}{k k':IntKind}
section
variable {P : Program} {n : Nat} {c : Cx} {l : Fr} {H : List Ent} {d : Option Nat} {x y z3 : Operand} {ty t t' : TypeId} {pos : String} {af : Array Edge} {g : Option (Nat × Bool)} {v u : Value} {r : Rp}
theorem AQ (h:ev l x=Ad r):Ck P n c l H { dst:=d,op:=.move x,type:=ty,pos:=pos,after:=af,guard:=g } r:=λa w Z ha _=>⟨a.eval x,ha.ev h,by simp[execOp]⟩
theorem Cj (h:ev l x=Ad r):Ck P n c l H { dst:=d,op:=.assign x,type:=ty,pos:=pos,after:=af,guard:=g } r:=λa w Z ha _=>⟨a.eval x,ha.ev h,by simp[execOp]⟩
theorem E2 {b:Bool}(hc:ev l z3=Ad (rB b))(hb:b=Af)(h:ev l x=Ad r):Ck P n c l H { dst:=d,op:=.pick z3 x y,type:=ty,pos:=pos,after:=af,guard:=g } r:=λa w Z ha _=>⟨a.eval x,ha.ev h,by
 subst hb;simp[execOp,ha.eval hc,asBool]⟩
theorem DE {b:Bool}(hc:ev l z3=Ad (rB b))(hb:b=Ah)(h:ev l y=Ad r):Ck P n c l H { dst:=d,op:=.pick z3 x y,type:=ty,pos:=pos,after:=af,guard:=g } r:=λa w Z ha _=>⟨a.eval y,ha.ev h,by
 subst hb;simp[execOp,ha.eval hc,asBool]⟩
theorem EP {rs:List Rp}{i:Nat}(h:ev l x=Ad (Du rs))(hi:rs[i]? =Ad r):Ck P n c l H { dst:=d,op:=.extract x i,type:=ty,pos:=pos,after:=af,guard:=g } r:=λa w Z ha _=>by
 obtain⟨us,hu,hus⟩:=ha.ev h;obtain⟨v,hv,hp⟩:=hus.at hi;exact⟨v,hp,by simp[execOp,hu,Instr.extract,hv]⟩
theorem QX {b:Bool}(h:ev l x=Ad (rB b)):Ck P n c l H { dst:=d,op:=.unOp .not t x,type:=ty,pos:=pos,after:=af,guard:=g } (rB (!b)):=λa w Z ha _=>DX<|by
 simp[execOp,ha.eval h,Op.unary]
theorem WT {m:Int}(h:ev l x=Ad (rI k m))(hz:BJ k (-m)=Af):Ck P n c l H { dst:=d,op:=.unOp .neg t x,type:=ty,pos:=pos,after:=af,guard:=g } (rI k (-m)):=λa w Z ha _=>DX<|by
 simp[execOp,ha.eval h,Op.unary,Op.intArith,O2 hz]
section
variable {k : IntKind} {p q : Int} (hx : ev l x = Ad (rI k p)) (hy : ev l y = Ad (rI k q))
include hx hy
theorem WW (hz:BJ k (p+q)=Af):Ck P n c l H { dst:=d,op:=.binOp .add t x y t',type:=ty,pos:=pos,after:=af,guard:=g } (rv (.int k (p+q))):=λa w Z ha _=>DX<|by
 simp[execOp,ha.eval hx,ha.eval hy,CN,binOp,Op.intArith,O2 hz]
theorem Aof (hz:BJ k (p-q)=Af):Ck P n c l H { dst:=d,op:=.binOp .sub t x y t',type:=ty,pos:=pos,after:=af,guard:=g } (rv (.int k (p-q))):=λa w Z ha _=>DX<|by
 simp[execOp,ha.eval hx,ha.eval hy,CN,binOp,Op.intArith,O2 hz]
theorem UZ (hz:BJ k (p*q)=Af):Ck P n c l H { dst:=d,op:=.binOp .mul t x y t',type:=ty,pos:=pos,after:=af,guard:=g } (rv (.int k (p*q))):=λa w Z ha _=>DX<|by
 simp[execOp,ha.eval hx,ha.eval hy,CN,binOp,Op.intArith,O2 hz]
theorem Ach:Ck P n c l H { dst:=d,op:=.binOp .add t x y t',type:=ty,pos:=pos,after:=af,guard:=g } (rI k (k.wrap (p+q))):=λa w Z ha _=>DX<|by
 simp[execOp,ha.eval hx,ha.eval hy,CN,binOp,Op.intArith]
theorem AhW:Ck P n c l H { dst:=d,op:=.binOp .sub t x y t',type:=ty,pos:=pos,after:=af,guard:=g } (rI k (k.wrap (p-q))):=λa w Z ha _=>DX<|by
 simp[execOp,ha.eval hx,ha.eval hy,CN,binOp,Op.intArith]
theorem AlY (hq:q≠0)(hz:BJ k (p.tdiv q)=Af):Ck P n c l H { dst:=d,op:=.binOp .quo t x y t',type:=ty,pos:=pos,after:=af,guard:=g } (rI k (p.tdiv q)):=λa w Z ha _=>DX<|by
 simp[execOp,ha.eval hx,ha.eval hy,CN,binOp,Op.intDiv,hq,O2 hz]
theorem AlX (hq:q≠0):Ck P n c l H { dst:=d,op:=.binOp .rem t x y t',type:=ty,pos:=pos,after:=af,guard:=g } (rI k (p.tmod q)):=λa w Z ha _=>DX<|by
 simp[execOp,ha.eval hx,ha.eval hy,CN,binOp,Op.intDiv,hq]
theorem AoW:Ck P n c l H { dst:=d,op:=.binOp .lss t x y t',type:=ty,pos:=pos,after:=af,guard:=g } (rv (.bool (Ac (p<q)))):=λa w Z ha _=>DX<|by
 simp[execOp,ha.eval hx,ha.eval hy,CN,binOp,Op.intCmp]
theorem Aie:Ck P n c l H { dst:=d,op:=.binOp .leq t x y t',type:=ty,pos:=pos,after:=af,guard:=g } (rv (.bool (Ac (p≤q)))):=λa w Z ha _=>DX<|by
 simp[execOp,ha.eval hx,ha.eval hy,CN,binOp,Op.intCmp]
theorem AoX:Ck P n c l H { dst:=d,op:=.binOp .gtr t x y t',type:=ty,pos:=pos,after:=af,guard:=g } (rv (.bool (Ac (q<p)))):=λa w Z ha _=>DX<|by
 simp[execOp,ha.eval hx,ha.eval hy,CN,binOp,Op.intCmp]
theorem Aft:Ck P n c l H { dst:=d,op:=.binOp .geq t x y t',type:=ty,pos:=pos,after:=af,guard:=g } (rv (.bool (Ac (q≤p)))):=λa w Z ha _=>DX<|by
 simp[execOp,ha.eval hx,ha.eval hy,CN,binOp,Op.intCmp]
theorem AmJ:Ck P n c l H { dst:=d,op:=.binOp .eql t x y t',type:=ty,pos:=pos,after:=af,guard:=g } (rv (.bool (Ac (p=q)))):=λa w Z ha _=>DX<|by
 have e:(p ==q)=Ac (p=q):=by rw[Aq2];simp
 simp[execOp,ha.eval hx,ha.eval hy,CN,binOp,Op.intCmp,e]
theorem M4:Ck P n c l H { dst:=d,op:=.binOp .neq t x y t',type:=ty,pos:=pos,after:=af,guard:=g } (rv (.bool (!Ac (p=q)))):=λa w Z ha _=>DX<|by
 have e:(p !=q) = !Ac (p=q):=by rw[Aq2];simp
 simp[execOp,ha.eval hx,ha.eval hy,CN,binOp,Op.intCmp,e]
end
section
variable {p q : List UInt8} (hx : ev l x = Ad (rS p)) (hy : ev l y = Ad (rS q))
include hx hy
theorem AmH (hz:BJ .i64 ((Ae p:Int)+(Ae q:Int))=Af):Ck P n c l H { dst:=d,op:=.binOp .add t x y t',type:=ty,pos:=pos,after:=af,guard:=g } (rv (.string (B (p++q)))):=λa w Z ha _=>DX<|by
 have : ¬ ((((B p).size+(B q).size:Nat):Int) > IntKind.i64.max):=by rw[I3,I3];have:=(K6 hz).2;simp[IntKind.max,IntKind.signed,IntKind.bits];omega
 simp only[execOp,ha.eval hx,ha.eval hy,Sem.run_bind,II,binOp,Op.stringOp,this,Arl,AjL];simp
theorem AlW:Ck P n c l H { dst:=d,op:=.binOp .lss t x y t',type:=ty,pos:=pos,after:=af,guard:=g } (rv (.bool (Op.bytesLess p q))):=λa w Z ha _=>DX<|by
 simp[execOp,ha.eval hx,ha.eval hy,II,binOp,Op.stringOp,Ke]
theorem AhX:Ck P n c l H { dst:=d,op:=.binOp .leq t x y t',type:=ty,pos:=pos,after:=af,guard:=g } (rv (.bool (Op.bytesLess p q||decide (p=q)))):=λa w Z ha _=>DX<|by
 have e:(p ==q)=Ac (p=q):=by rw[Aq2];simp
 simp[execOp,ha.eval hx,ha.eval hy,II,binOp,Op.stringOp,Ke,e]
theorem Aog:Ck P n c l H { dst:=d,op:=.binOp .gtr t x y t',type:=ty,pos:=pos,after:=af,guard:=g } (rv (.bool (!(Op.bytesLess p q||decide (p=q))))):=λa w Z ha _=>DX<|by
 have e:(p ==q)=Ac (p=q):=by rw[Aq2];simp
 simp[execOp,ha.eval hx,ha.eval hy,II,binOp,Op.stringOp,Ke,e]
theorem Aoh:Ck P n c l H { dst:=d,op:=.binOp .eql t x y t',type:=ty,pos:=pos,after:=af,guard:=g } (rv (.bool (Ac (p=q)))):=λa w Z ha _=>DX<|by
 have e:(p ==q)=Ac (p=q):=by rw[Aq2];simp
 simp[execOp,ha.eval hx,ha.eval hy,II,binOp,Op.stringOp,Ke,e]
theorem DN:Ck P n c l H { dst:=d,op:=.binOp .neq t x y t',type:=ty,pos:=pos,after:=af,guard:=g } (rv (.bool (!Ac (p=q)))):=λa w Z ha _=>DX<|by
 have e:(p ==q)=Ac (p=q):=by rw[Aq2];simp
 simp[execOp,ha.eval hx,ha.eval hy,II,binOp,Op.stringOp,Ke,e]
end
theorem Ama {p q:Bool}(ht:P.underlying t=Ad .bool)(hx:ev l x=Ad (rB p))(hy:ev l y=Ad (rB q)):Ck P n c l H { dst:=d,op:=.binOp .neq t x y t',type:=ty,pos:=pos,after:=af,guard:=g } (rv (.bool (!(p ==q)))):=λa w Z ha _=>DX<|by
 have h1:∀dd:Nat,(Op.equalIn (dd+1) t (.bool p) (.bool q)).run P w = .ok (p ==q) w:=λdd=>by simp[Op.equalIn,run_underlying ht]
 have h2:(Op.equal t (.bool p) (.bool q)).run P w = .ok (p ==q) w:=h1 9999;simp only[execOp,ha.eval hx,ha.eval hy,Sem.run_bind,YU,Result.andThen_ok,binOp,h2,Sem.run_pure]
theorem Eo {m:Int}(hs:∃s,P.underlying t=Ad s)(hd:P.underlying t'=Ad (.int k'))(h:ev l x=Ad (rI k m))(hz:BJ k' m=Af) :
  Ck P n c l H { dst:=d,op:=.convert t t' x,type:=ty,pos:=pos,after:=af,guard:=g } (rI k' m):=λa w Z ha _=>DX<|by
 obtain⟨s,hs⟩:=hs;simp[execOp,ha.eval h,convert,run_underlying hs,run_underlying hd,Conv.intToInt,O2 hz]
theorem C9 {m:Int}(hs:∃s,P.underlying t=Ad s)(hd:P.underlying t'=Ad (.int k'))(h:ev l x=Ad (rI k m)) :
  Ck P n c l H { dst:=d,op:=.convert t t' x,type:=ty,pos:=pos,after:=af,guard:=g } (rI k' (k'.wrap m)):=λa w Z ha _=>DX<|by
 obtain⟨s,hs⟩:=hs;simp[execOp,ha.eval h,convert,run_underlying hs,run_underlying hd,Conv.intToInt]
theorem LD (ht:P.underlying t=Ad .string)(h:ev l x=Ad (rS p)):Ck P n c l H { dst:=d,op:=.call { callee:=.builtin .len,args:=#[x],argTypes:=#[t] },type:=ty,pos:=pos,after:=af,guard:=g } (rv (.int .i64 (Ae p))):=λa w Z ha _=>DX<|by
 simp[execOp,resolve,invoke,builtin,ha.eval h,Builtin.len_,run_underlying ht,goInt,I3]
theorem E8 {i:Int}(ht:P.underlying t=Ad .string)(h:ev l x=Ad (rS p))(hi:ev l y=Ad (rI k i))(hg:CE i (Ae p:Int)=Af) :
  Ck P n c l H { dst:=d,op:=.index t x y,type:=ty,pos:=pos,after:=af,guard:=g } (rI .u8 (BA p i)):=λa w Z ha _=>DX<|by
 have h0:=(DY hg).1;have hl:i.toNat<Ae p:=by have:=(DY hg).2;omega
 have hc:p[i.toNat]? =Ad p[i.toNat]:=Aqx hl;have e:BA p i=p[i.toNat].toNat:=by simp[BA,hc]
 simp[execOp,ha.eval h,ha.eval hi,Instr.index,asIntOf,run_underlying ht,h0,AoB,hc,e]
theorem Gx {i:Int}(ht:P.underlying t=Ad .string)(h:ev l x=Ad (rS p))(hi:ev l y=Ad (rI k i))(hg:Gk i (Ae p:Int)=Af) :
  Ck P n c l H { dst:=d,op:=.slice t x (Ad y) Ai Ai,type:=ty,pos:=pos,after:=af,guard:=g } (rv (.string (B (p.drop i.toNat)))):=λa w Z ha _=>DX<|by
 have h0:=(CP hg).1;have h1:=(CP hg).2;have e:Aq ((B p).size-i.toNat) (Ap i.toNat p)=Ap i.toNat p:=by rw[List.take_of_length_le];simp[I3]
 simp[execOp,ha.eval h,ha.eval hi,Instr.sliceAt,Instr.slice,run_underlying ht,Instr.sliceBounds,Cc (m:=(B p).size) _ _ h0 (by rw[I3];exact h1),S4,e]
theorem UY {i:Int}(ht:P.underlying t=Ad .string)(h:ev l x=Ad (rS p))(hi:ev l y=Ad (rI k i))(hg:Gk i (Ae p:Int)=Af) :
  Ck P n c l H { dst:=d,op:=.slice t x Ai (Ad y) Ai,type:=ty,pos:=pos,after:=af,guard:=g } (rv (.string (B (p.take i.toNat)))):=λa w Z ha _=>DX<|by
 have h0:=(CP hg).1;have h1:=(CP hg).2;simp[execOp,ha.eval h,ha.eval hi,Instr.sliceAt,Instr.slice,run_underlying ht,Instr.sliceBounds,Cc (m:=(B p).size) _ _ h0 (by rw[I3];exact h1),S4]
theorem EC {i j:Int}(ht:P.underlying t=Ad .string)(h:ev l x=Ad (rS p))(hi:ev l y=Ad (rI k i))(hj:ev l z3=Ad (rI k' j))(hg1:Gk i j=Af)(hg2:Gk j (Ae p:Int)=Af) :
  Ck P n c l H { dst:=d,op:=.slice t x (Ad y) (Ad z3) Ai,type:=ty,pos:=pos,after:=af,guard:=g } (rv (.string (B ((p.drop i.toNat).take (j.toNat-i.toNat))))):=λa w Z ha _=>DX<|by
 have h0:=(CP hg1).1;have h1:=(CP hg1).2;have h2:=(CP hg2).2;have hj0:0≤j:=Ab
 simp[execOp,ha.eval h,ha.eval hi,ha.eval hj,Instr.sliceAt,Instr.slice,run_underlying ht,Instr.sliceBounds,Cc (m:=(B p).size) _ _ hj0 (by rw[I3];exact h2),Cc (m:=j.toNat) _ _ h0 Ab,S4]
theorem AkN {sz:Nat}{xs:List (List Rp)}{e:TypeId}(ht:P.underlying t=Ad (.slice e))(h:ev l x=Ad (Cg sz xs)):Ck P n c l H { dst:=d,op:=.call { callee:=.builtin .len,args:=#[x],argTypes:=#[t] },type:=ty,pos:=pos,after:=af,guard:=g } (rI .i64 (Ae xs)):=λa w Z ha _=>by
 obtain⟨A,cap,e1,_⟩:=ha.ev h;exact DX<|by simp[execOp,resolve,invoke,builtin,e1,Builtin.len_,run_underlying ht,goInt]
end
end Go.Proofs.YtiddaamglmmnaaaGreatDoor.Q
namespace Go.Proofs.YtiddaamglmmnaaaGreatDoor
open Go Go.RowKit
set_option linter.unusedVariables false
theorem Amg (p:List UInt8)(i:Nat)(u:UInt8)(h:p[i]? =Ad u):(B p).get! i=u:=by
 have h':i<Ae p:=(List.getElem?_eq_some_iff.1 h).1;have h2:p[i]=u:=(List.getElem?_eq_some_iff.1 h).2;subst h2;show(B p).data[i]! =_;simp[B,getElem!_pos,h']
theorem XB (p:List UInt8)(i:Nat)(u:UInt8)(h:p[i]? =Ad u)(hu:u.toNat<128):Utf8.decode (B p) i=(u.toNat,1):=by
 have e:=Amg p i u h;simp[Utf8.decode,e,hu]
theorem XC (p:List UInt8)(i:Nat)(u:UInt8)(h:p[i]? =Ad u)(hu:128≤u.toNat):128≤(Utf8.decode (B p) i).1∧1≤(Utf8.decode (B p) i).2:=by
 have e:=Amg p i u h;simp only[Utf8.decode,Nat.add_zero,e];rw[AqM Ab]
 split
 ·split
  ·exact⟨by assumption,Aj⟩
  ·exact⟨Al,Al⟩
 ·split
  ·split
   ·rename_i h1;simp at h1;exact⟨by have:=h1.1;simp only;omega,Aj⟩
   ·exact⟨Al,Al⟩
  ·split
   ·split
    ·rename_i h1;simp at h1;exact⟨by have:=h1.1;simp only;omega,Aj⟩
    ·exact⟨Al,Al⟩
   ·exact⟨Al,Al⟩
variable{w:World}
section
variable {P : Program} {n : Nat} {w0 : World} {M : List Nat} {ops : Array Oper} {Q : Exit → Act → World → Prop} {rest : List Oper} {l : Fr} {H H' : List Ent} {d : Nat} {x y c : Operand} {ty t t' e : TypeId} {pos : String} {af : Array Edge} {g : Option (Nat × Bool)} {v u : Value}
theorem Wo {p:List UInt8}(hu:P.underlying t=Ad .string)(hx:ev l x=Ad (.string (B p)))(hn:Nat.blt d n=Af)
  (h:∀b,WL P n w0 M ops Q rest ((d,.pointer (Ad ⟨b,0,Ai⟩))::l) (.blk b (.stringIter (B p) 0)::H)) :
  WL P n w0 M ops Q ({ dst:=Ad d,op:=.range t x,type:=ty,pos:=pos,after:=af,guard:=Ai }::rest) l H:=
 PP (λa w ha hw=>⟨_,w.alloc (.stringIter (B p) 0),_,by simp[execOp,ha.eval hx,Instr.range,run_underlying hu],hw.alloc _,h w.heap.size⟩) hn
theorem St.setObj (h:St w0 M H w){i b:Nat}{o o':Obj}(hi:H[i]? =Ad (.blk b o)):St w0 M (H.set i (.blk b o')) { w with heap:=w.heap.setIfInBounds b o' }:=by
 have hb:w.heap[b]? =Ad o:=h.ent hi;have hlt:b<w.heap.size:=(Array.getElem?_eq_some_iff.1 hb).1;refine h.set hi rfl rfl rfl Aj (λk _ hk=>?_) ?_ (by simp[Ent.foot])
 ·simp only[Ent.foot,AqG] at hk;simp only[Array.getElem?_setIfInBounds];rw[AqM (λe=>hk e.symm)]
 ·show(w.heap.setIfInBounds b o')[b]? =Ad o';simp[hlt]
theorem Z3 {p:List UInt8}{i b k:Nat}(hx:ev l x=Ad (.pointer (Ad ⟨b,0,Ai⟩)))(hi:H[i]? =Ad (.blk b (.stringIter (B p) k)))(hn:Nat.blt d n=Af)
  (hend:Ae p≤k→WL P n w0 M ops Q rest ((d,.tuple #[.bool Ah])::l) H)
  (hgo:∀(u:UInt8) (c wd:Nat),p[k]? =Ad u→(u.toNat<128→c=u.toNat∧wd=1)→(128≤u.toNat→128≤c)→1≤wd→
   WL P n w0 M ops Q rest ((d,.tuple #[.bool Af,.int .i64 k,.int .i32 c])::l) (H.set i (.blk b (.stringIter (B p) (k+wd))))) :
  WL P n w0 M ops Q ({ dst:=Ad d,op:=.next x Af,type:=ty,pos:=pos,after:=af,guard:=Ai }::rest) l H:=
 PP (λa w ha hw=>by
  have hb:w.heap[b]? =Ad (.stringIter (B p) k):=hw.ent hi
  by_cases hlt:k<Ae p
  ·have hu:p[k]? =Ad p[k]:=Aqx hlt;have hs:k<(B p).size:=by rw[I3];exact hlt
   refine⟨_,{ w with heap:=w.heap.setIfInBounds b (.stringIter (B p) (k+(Utf8.decode (B p) k).2)) },_,?_,hw.setObj hi,hgo p[k] (Utf8.decode (B p) k).1 (Utf8.decode (B p) k).2 hu ?_ ?_ ?_⟩
   ·simp[execOp,ha.eval hx,Instr.next,getObj,setObj,Sem.run,hb,hs,goInt]
   ·intro h;rw[XB p k _ hu h];exact⟨rfl,rfl⟩
   ·intro h;exact(XC p k _ hu h).1
   ·rcases Nat.lt_or_ge (p[k]).toNat 128 with h | h
    ·rw[XB p k _ hu h];exact Aq7 1
    ·exact(XC p k _ hu h).2
  ·have hs : ¬ k<(B p).size:=by rw[I3];exact hlt
   exact⟨_,w,H,by simp[execOp,ha.eval hx,Instr.next,getObj,Sem.run,hb,hs],hw,hend Ab⟩) hn
end
variable{ms:Array (String×TypeId)}
section
variable {P : Program} {n : Nat} {w0 : World} {M : List Nat} {ops : Array Oper} {Q : Exit → Act → World → Prop} {rest : List Oper} {l : Fr} {H H' : List Ent} {x y c : Operand} {ty t t' e : TypeId} {pos : String} {af : Array Edge} {g : Option (Nat × Bool)} {v u : Value}
theorem AkP {d:Option Nat}{ti:TypeId}{u:Value}(ht:P.underlying t=Ad (.interface ms))(hx:ev l x=Ad (.iface ti u)) :
  Ck P n w0 M l H { dst:=d,op:=.binOp .neq t x (.const .nilIface) t',type:=ty,pos:=pos,after:=af,guard:=g } (.bool Af):=λa w ha hw=>by
 have h1:∀dd:Nat,(Op.equalIn (dd+1) t (.iface ti u) .nilIface).run P w = .ok Ah w:=λdd=>by simp[Op.equalIn,run_underlying ht]
 have h2:(Op.equal t (.iface ti u) .nilIface).run P w = .ok Ah w:=h1 9999;have h3:(eqGuard .neq t x (.const .nilIface) (.iface ti u) .nilIface).run P w = .ok () w:=by simp[eqGuard]
 have hy:a.eval (.const .nilIface) = .nilIface:=rfl;simp only[execOp,ha.eval hx,hy,Sem.run_bind,h3,Result.andThen_ok,binOp,h2,Sem.run_pure];rfl
theorem Aaw {d:Option Nat}(ht:P.underlying t=Ad (.interface ms))(hx:ev l x=Ad .nilIface) :
  Ck P n w0 M l H { dst:=d,op:=.binOp .neq t x (.const .nilIface) t',type:=ty,pos:=pos,after:=af,guard:=g } (.bool Ah):=λa w ha hw=>by
 have h1:∀dd:Nat,(Op.equalIn (dd+1) t .nilIface .nilIface).run P w = .ok Af w:=λdd=>by simp[Op.equalIn,run_underlying ht]
 have h2:(Op.equal t .nilIface .nilIface).run P w = .ok Af w:=h1 9999;have h3:(eqGuard .neq t x (.const .nilIface) .nilIface .nilIface).run P w = .ok () w:=by simp[eqGuard]
 have hy:a.eval (.const .nilIface) = .nilIface:=rfl;simp only[execOp,ha.eval hx,hy,Sem.run_bind,h3,Result.andThen_ok,binOp,h2,Sem.run_pure];rfl
variable (P n w0 M) in
def WQ (opsA:Array Oper)(K:Act→World→Prop)(rest:List Oper)(l:Fr)(H:List Ent):Prop:=∀a,Gl n l a→wpQuiet P opsA (St w0 M H) (λa'=>∀w',St w0 M H w'→K a' w') rest a
variable {K : Act → World → Prop}
end
def SlR (sz:Nat)(w:World)(v:Value)(vs:List (List Value)):Prop:=
 ∃A cap,v = .slice A (Ae vs) cap∧Ae vs≤cap∧(cap≤maxLen∧(A=Ai→cap=0))∧∀i c,vs[i]? =Ad c→Ae c=sz∧∃a:Addr,A=Ad a∧a.spot=Ai∧a.block<w.heap.size∧∀j u,c[j]? =Ad u→w.cell? ⟨a.block,a.off+(i*sz+j),Ai⟩=Ad u
def Off (M:List Nat)(v:Value):Prop:=∀a n c,v = .slice (Ad a) n c→a.block ∉ M
theorem Off.nil (v:Value):Off [] v:=λ_ _ _ _=>by simp
theorem SlR.nil (sz:Nat)(w:World):SlR sz w (.slice Ai 0 0) []:=⟨Ai,0,rfl,Aq7 _,⟨by simp[maxLen],λ_=>rfl⟩,λi c h=>by simp at h⟩
variable{vs:List (List Value)}
theorem SlR.st {sz:Nat}{w0:World}{M:List Nat}{H:List Ent}{v:Value}(h:SlR sz w0 v vs)(ho:Off M v)(hw:St w0 M H w):SlR sz w v vs:=by
 obtain⟨A,cap,rfl,hc,hm,hi⟩:=h;refine⟨A,cap,rfl,hc,hm,λi c hic=>?_⟩;obtain⟨hl,a,rfl,hs,hb,hcell⟩:=hi i c hic;refine⟨hl,a,rfl,hs,Nat.lt_of_lt_of_le hb hw.size,λj u hj=>?_⟩;have h1:w.cell? ⟨a.block,a.off+(i*sz+j),Ai⟩=w0.cell? ⟨a.block,a.off+(i*sz+j),Ai⟩:=World.cell?_of_block (hw.old a.block hb (ho a _ _ rfl));rw[h1];exact hcell j u hj
theorem SlR.st0 {sz:Nat}{w0:World}{H:List Ent}{v:Value}(h:SlR sz w0 v vs)(hw:St w0 [] H w):SlR sz w v vs:=h.st (Off.nil _) hw
def flat (vs:List (List Value)):List Value:=vs.flatten
theorem Aee {sz:Nat}:∀{vs:List (List Value)} (hs:∀c∈vs,Ae c=sz) {i:Nat} {c:List Value} (hi:vs[i]? =Ad c) {j:Nat} {u:Value} (hj:c[j]? =Ad u),(flat vs)[i*sz+j]? =Ad u
 | [],hs,i,c,hi,j,u,hj=>by simp at hi
 | x::r,hs,0,c,hi,j,u,hj=>by
  simp at hi;subst hi;simp only[flat,List.flatten_cons,Nat.zero_mul,AqT];rw[Arr (by have:=(List.getElem?_eq_some_iff.1 hj).1;exact this)];exact hj
 | x::r,hs,i+1,c,hi,j,u,hj=>by
  have hx:Ae x=sz:=hs x Aj;simp only[flat,List.flatten_cons];rw[Art (by rw[hx,Nat.succ_mul];omega)];have e:(i+1)*sz+j-Ae x=i*sz+j:=by rw[hx,Nat.succ_mul];omega
  rw[e];exact Aee (vs:=r) (λc hc=>hs c (by simp[hc])) (by simpa using hi) hj
theorem SlR.of_row {sz:Nat}{v:Value}{e:TypeId}(h:(Ent.row v e sz (Ae vs) (flat vs)).holds w)(hs:∀c∈vs,Ae c=sz):SlR sz w v vs:=by
 obtain⟨hl,h2⟩:=h;rcases h2 with⟨rfl,hn⟩ | ⟨g,cap,cur,rfl,_,hg,hc,hm,hsz,htake⟩
 ·have:vs=[]:=AqB hn;subst this;exact SlR.nil _ _
 ·refine⟨Ad ⟨g,0,Ai⟩,cap,rfl,hc,⟨hm,λh=>by cases h⟩,λi c hi=>⟨hs c (Aq1 hi),⟨g,0,Ai⟩,rfl,rfl,(Array.getElem?_eq_some_iff.1 hg).1,λj u hj=>?_⟩⟩;have h3:=Aee hs hi hj;rw[← htake,AqU] at h3
  split at h3
  ·show w.cell? ⟨g,0+(i*sz+j),Ai⟩=_;rw[cell_of_row w g _ cur e (0,0) hg,AqT];simpa using h3
  ·cases h3
def VA (sz:Nat)(v:Value)(i off:Nat):Value:=match v with
 | .slice (Ad a) _ _=>.pointer (Ad ⟨a.block,a.off+(i*sz+off),Ai⟩)
 | _=>undef
section
variable {P : Program} {n : Nat} {w0 : World} {M : List Nat} {ops : Array Oper} {Q : Exit → Act → World → Prop} {rest : List Oper} {l : Fr} {H H' : List Ent} {d : Option Nat} {x y c : Operand} {ty t t' e : TypeId} {pos : String} {af : Array Edge} {g : Option (Nat × Bool)} {v u : Value} {sz : Nat} {vs : List (List Value)}
theorem Add {d i:Nat}{en:Ent}{f:FuncId}{args:List Operand}{ats:Array TypeId}{vs:List Value}{Φ:Value→List Ent→Prop}(hcall:∀(as1:Array Value) (w:World),(callFunc f as1).run P w = .ok (.enter f as1) w)(hv:R0 l args=Ad vs)
  (hi:H[i]? =Ad en) (hc:∀w,St w0 M H w→en.holds w→Calls P f vs.toArray w (Ret w en.foot Φ)) (hn:Nat.blt d n=Af) (h:∀u Ho,Φ u Ho→WL P n w0 M ops Q rest ((d,u)::l) (Ho++H.eraseIdx i)) :
  WL P n w0 M ops Q ({ dst:=Ad d,op:=.call { callee:=.value (.func f),args:=args.toArray,argTypes:=ats },type:=ty,pos:=pos,after:=af,guard:=Ai }::rest) l H:=
 O4 (λa w ha hw=>Iq (vs:=vs) rfl hcall (by simp[TR ha hv]) w) (λw hw=>(hc w hw (hw.ent hi)).mono λe w' ⟨v,Ho,he,hs,hf⟩=>
  ⟨v,Ho++H.eraseIdx i,he,(St.call (Hin:=[en]) (Hr:=H.eraseIdx i) (hw.front hi) hs (λk hk=>⟨en,Aj,hk⟩)),h v Ho hf⟩) hn
end
def ZF (s:List UInt8):List Value:=[.string (B s)]
abbrev VQ (w:World)(v:Value)(ss:List (List UInt8)):Prop:=SlR 1 w v (ss.map ZF)
set_option linter.unusedSimpArgs false
section
variable {P : Program} {n : Nat} {w0 : World} {M : List Nat} {ops : Array Oper} {Q : Exit → Act → World → Prop} {rest : List Oper} {l : Fr} {H H' : List Ent} {x y : Operand} {ty t t' e : TypeId} {pos : String} {af : Array Edge} {g : Option (Nat × Bool)} {v u : Value} {i sz m : Nat} {xs : List Value}
theorem WB (h:(Ent.row v e sz m xs).holds w):Ae xs=m*sz∧((v = .slice Ai 0 0∧m=0)∨∃b cap cur,v = .slice (Ad ⟨b,0,Ai⟩) m cap∧w.heap[b]? =Ad (.cells cur e (0,0))∧m≤cap∧cap≤maxLen∧cur.size=cap*sz∧cur.toList.take (m*sz)=xs):=by
 obtain⟨h1,h2⟩:=h;refine⟨h1,?_⟩;rcases h2 with h2 | ⟨b,cap,cur,e1,_,e2,e3,e4,e5,e6⟩
 ·exact .inl h2
 ·exact .inr ⟨b,cap,cur,e1,e2,e3,e4,e5,e6⟩
theorem Ah0 {b c j:Nat}(h:(Ent.row (.slice (Ad ⟨b,0,Ai⟩) m c) e sz m xs).holds w)(hj:xs[j]? =Ad u):w.cell? ⟨b,j,Ai⟩=Ad u:=by
 obtain⟨h1,h2⟩:=WB h;rcases h2 with⟨h2,_⟩ | ⟨b',cap,cur,e1,e2,_,_,_,e6⟩
 ·cases h2
 ·simp only[Value.slice.injEq,Option.some.injEq,Addr.mk.injEq,and_true,true_and] at e1;obtain⟨rfl,rfl⟩:=e1;rw[cell_of_row w b j cur e (0,0) e2];rw[← e6,AqU] at hj
  split at hj
  ·simpa using hj
  ·cases hj
def Rds (sz:Nat)(w:World)(v:Value)(m:Nat)(ys:List Value):Prop:=
 (Ae ys)=m*sz∧((v = .slice Ai 0 0∧m=0)∨∃ (a:Addr) (c:Nat),v = .slice (Ad a) m c∧∀j u,ys[j]? =Ad u→w.cell? (a.add j)=Ad u)
theorem Rds.of_row (h:(Ent.row v e sz m xs).holds w):Rds sz w v m xs:=by
 obtain⟨h1,h2⟩:=WB h;refine⟨h1,?_⟩;rcases h2 with⟨rfl,rfl⟩ | ⟨b,cap,cur,rfl,_⟩
 ·exact .inl ⟨rfl,rfl⟩
 ·refine .inr ⟨_,_,rfl,λj u hj=>?_⟩;rw[MP,AqT];exact Ah0 h hj
theorem P5 {z:Value}{inf:TypeInfo}{bytes:Nat}{ys:List Value}{k:Nat}(ty:TypeId)(ht:P.underlying t=Ad (.slice e))(hinf:P.info? e=Ad inf)(hz:inf.zero=Ad z)(hsize:inf.size=sz)(hby:inf.bytes=bytes)(hzs:z.cells.size=sz)(hsz:0<sz)
  (hown:w.ownsRow 0 e sz v m xs) (hr:Rds sz w u k ys) (h1:∀y∈ys,y.oneCell'=Af) (hb:(m+k)*bytes≤140737488355328) (ha:m+k≤maxLen) :
  ∃v' w',(Builtin.append_ #[t,t] ty #[v,u]).run P w = .ok v' w'∧w'.ownsRow 0 e sz v' (m+k) (xs++ys)∧w.grownBy w' v.ownBlock∧(v'.ownBlock=v.ownBlock∨∀b,v'.ownBlock=Ad b→w.heap.size≤b):=by
 obtain⟨hl,hr⟩:=hr;rcases hr with⟨rfl,rfl⟩ | ⟨a,c,rfl,hnews⟩
 ·have:ys=[]:=AqB (by simpa using hl);subst this;exact⟨v,w,run_append_owned_none (w:=w) (base:=0) t ty e inf sz ht hinf v m xs hown,by simpa using hown,⟨rfl,rfl,rfl,Aq7 _,λ_ _ _=>rfl⟩,.inl rfl⟩
 ·rcases hown.2 with⟨rfl,rfl⟩ | ⟨b,cap,cur,rfl,_,hg,hnc,hcm,hcs,htake⟩
  ·have hx:xs=[]:=AqB (by simpa using hown.1);subst hx;obtain⟨v',w',e1,e2,e3,_⟩:=run_append_own (P:=P) w w.heap.size t ty e inf z sz bytes ht hinf hz hsize hby hzs hsz (.slice Ai 0 0) 0 [] (World.ownsRow_nil w _ e sz) a k c ys hl hnews h1 ha hb (Aq7 _);refine⟨v',w',e1,?_,e3,.inr λb hb=>(e2.lt b hb).1⟩;refine⟨e2.1,?_⟩;rcases e2.2 with h | ⟨g,cap,cur,h,_,rest⟩
   ·exact .inl h
   ·exact .inr ⟨g,cap,cur,h,AqL _,rest⟩
  ·by_cases hroom:m+k≤cap
   ·obtain⟨w',e1,e2,e3⟩:=run_append_fits (P:=P) w 0 t ty e inf sz ht hinf hsize b m cap xs hown a k c ys hl hnews h1 hroom;exact⟨_,w',e1,e2,e3,.inl rfl⟩
   ·subst hsize hby;have holds:∀j u,xs[j]? =Ad u→w.cell? ((⟨b,0,Ai⟩:Addr).add j)=Ad u:=hown.cells (g:=b) rfl;have hs:m+k≤9223372036854775807:=by simp only[maxLen] at ha;omega
    have e1:=run_append_grow (P:=P) w t ty e inf z ht hinf hz ⟨b,0,Ai⟩ m cap xs hown.1 holds a k c ys hl hnews Ab Ab (growslice_fits Ab hb);have hge:=grownCap_ge w (m+k) cap e;have hcm:=grownCap_le_maxLen w (m+k) cap e ha;have hlen:Ae (xs++ys)=(m+k)*inf.size:=by rw[Aqs,hown.1,hl,Nat.add_mul]
    refine⟨_,_,e1,⟨hlen,.inr ⟨w.heap.size,_,_,rfl,AqL _,heap_alloc_new w.drew _,hge,hcm,?_,?_⟩⟩,⟨rfl,rfl,rfl,Aj,λq hq _=>Below.heap_alloc w.drew _ q hq⟩,.inr λb hb=>?_⟩
    ·simp only[Array.size_append,List.size_toArray,size_zeroCells,hzs,hown.1,hl,← Nat.add_mul]
     congr 1
     omega
    ·simp only[Array.toList_append,Aq4];rw[← Aq4,← hlen];exact List.take_left
    ·simp[Value.ownBlock] at hb;omega
end
end Go.Proofs.YtiddaamglmmnaaaGreatDoor
namespace Go.Proofs.YtiddaamglmmnaaaGreatDoor.Q
open Go Go.RowKit
set_option linter.unusedVariables false
set_option linter.unusedSimpArgs false
def AtZ (cs:List Rp)(Z:Fz)(v:Value):Prop:=∃b o,v = .pointer (Ad ⟨b,o,Ai⟩)∧∀j r,cs[j]? =Ad r→∃u,Nz Z b (o+j)=Ad u∧r.p Z u
def Ts (cs:List Rp):Rp:=⟨AtZ cs,λh ⟨b,o,e,hc⟩=>⟨b,o,e,λj r hj=>let ⟨u,hu,hr⟩:=hc j r hj;⟨u,Ub h hu,r.mono h hr⟩⟩,Af,λ_ Z v ⟨b,o,e,_⟩=>by rw[e];rfl⟩
def Zg (H:List Ent)(r:Rp):Prop:=∀(c:Cx) Z w v,St c H Z w→r.p Z v→v.oneCell'=Af
variable{r:Rp}{H:List Ent}
theorem Cs (h:r.one=Af):Zg H r:=λ_ Z _ v _ hp=>r.hone h Z v hp
variable{xs:List (List Rp)}
theorem Dp (i:Nat){v:Value}{e:TypeId}{sz:Nat}(hi:H[i]? =Ad (.row v e sz xs)):Zg H (rv v):=λc Z w u hw hp=>by
 obtain⟨_,us,⟨_,h2⟩,_⟩:=hw.ent hi;rw[show u=v from hp];rcases h2 with⟨rfl,_⟩ | ⟨b,cap,cur,rfl,_⟩<;>rfl
def CB (H:List Ent):List Rp→Prop
 | []=>True
 | r::rs=>Zg H r∧CB H rs
theorem CB.c {H:List Ent}:∀{rs:List Rp},rs.all (·.one)=Af→CB H rs
 | [],_=>trivial
 | r::rs,h=>by simp only[Are,Aqu] at h;exact⟨Cs h.1,CB.c h.2⟩
theorem CB.at {H:List Ent}{c:Cx}{Z:Fz}{w:World}(hw:St c H Z w):∀{rs:List Rp} {vs:List Value},CB H rs→BM Z rs vs→∀v∈vs,v.oneCell'=Af
 | [],[],_,_,_,h=>by simp at h
 | r::rs,v::vs,⟨h1,h2⟩,⟨h3,h4⟩,u,h=>by
  rcases List.mem_cons.1 h with rfl | h
  ·exact h1 c Z w _ hw h3
  ·exact h2.at hw h4 u h
variable{cs':List Rp}{α:Type}{enc:α→List Rp}{off j:Nat}{k:IntKind}{i b:Nat}{p:Addr}{fs:Array Field}{ys:List α}{cs:List Rp}{e':TypeId}{rs:List Rp}
section
variable {P : Program} {n : Nat} {c : Cx} {ops : Array Oper} {Q : Exit → Act → World → Prop} {rest : List Oper} {l : Fr} {H H' : List Ent} {d : Nat} {d' : Option Nat} {x y : Operand} {ty t t' e : TypeId} {pos : String} {af : Array Edge} {g : Option (Nat × Bool)} {v u : Value} {r : Rp} {sz : Nat}
theorem BM.rvs (Z:Fz):∀us:List Value,BM Z (us.map rv) us
 | []=>trivial
 | u::us=>⟨rfl,BM.rvs Z us⟩
theorem CD {z:Value}(hz:∀w,(zeroValue e).run P w = .ok z w)(hcs:z.cells.toList.map rv=cs)(hn:Nat.blt d n=Af)
  (h:∀b,WL P n c ops Q rest ((d,rv (.pointer (Ad ⟨b,0,Ai⟩)))::l) (.blk b cs e::H)) :
  WL P n c ops Q ({ dst:=Ad d,op:=.alloc e,type:=ty,pos:=pos,after:=af,guard:=Ai }::rest) l H:=
 PP (λa w Z ha hw=>⟨_,w.alloc (.cells z.cells e),_,_,Z,by simp[execOp,Instr.alloc,hz,newVar,newRow,newObj,Sem.run,Sem.run_bind],Fz.le.refl _,rfl,
  hw.alloc _ (e:=.blk w.heap.size cs e) ⟨z.cells.toList,by simpa using heap_alloc_new w _,by subst hcs;exact BM.rvs Z _⟩ rfl,h w.heap.size⟩) hn
theorem Dd (hx:ev l x=Ad (Dr cs))(hn:Nat.blt d n=Af)
  (h:∀b,WL P n c ops Q rest ((d,rv (.pointer (Ad ⟨b,0,Ai⟩)))::l) (.blk b cs e::H)) :
  WL P n c ops Q ({ dst:=Ad d,op:=.box e x,type:=ty,pos:=pos,after:=af,guard:=Ai }::rest) l H:=
 PP (λa w Z ha hw=>by
  obtain⟨us,e1,hu⟩:=ha.ev hx;exact⟨_,w.alloc (.cells us.toArray e),_,_,Z,by simp[execOp,e1,Instr.box,newVar,newRow,newObj,Sem.run,Value.cells],Fz.le.refl _,rfl,
   hw.alloc _ (e:=.blk w.heap.size cs e) ⟨us,by simpa using heap_alloc_new w _,hu⟩ rfl,h w.heap.size⟩) hn
theorem MN {v:Value}(h:v.oneCell'=Af):v.cells = #[v]:=by cases v<;>first | rfl | simp[Value.oneCell'] at h
theorem AlN {r:Rp}(hx:ev l x=Ad r)(ho:Zg H r)(hn:Nat.blt d n=Af)
  (h:∀b,WL P n c ops Q rest ((d,rv (.pointer (Ad ⟨b,0,Ai⟩)))::l) (.blk b [r] e::H)) :
  WL P n c ops Q ({ dst:=Ad d,op:=.box e x,type:=ty,pos:=pos,after:=af,guard:=Ai }::rest) l H:=
 PP (λa w Z ha hw=>by
  have hr:=ha.ev hx;have hc:=MN (ho c Z w _ hw hr);exact⟨_,w.alloc (.cells #[a.eval x] e),_,_,Z,by simp[execOp,Instr.box,newVar,newRow,newObj,Sem.run,hc],Fz.le.refl _,rfl,
   hw.alloc _ (e:=.blk w.heap.size [r] e) ⟨[a.eval x],by simpa using heap_alloc_new w _,hr,trivial⟩ rfl,h w.heap.size⟩) hn
theorem Bq (i:Nat)(hag:∀w,(isAgg t).run P w = .ok Ah w)(hx:ev l x=Ad (rv (.pointer (Ad ⟨b,off,Ai⟩))))(hi:H[i]? =Ad (.blk b cs e))(hc:cs[off]? =Ad r) :
  Ck P n c l H { dst:=d',op:=.load t x,type:=ty,pos:=pos,after:=af,guard:=g } r:=λa w Z ha hw=>by
 obtain⟨us,h1,h2⟩:=hw.ent hi;obtain⟨u,hu,hp⟩:=h2.at hc;have hcell:w.cell? ⟨b,off,Ai⟩=Ad u:=by rw[cell_of_row w b off _ e (0,0) h1];simpa using hu
 exact⟨u,hp,by simp[execOp,ha.eval hx,Instr.loadAt,Instr.sureAddr,loadVar,hag,hcell]⟩
theorem DJ (i:Nat){r:List Rp}(hag:∀w,(isAgg t).run P w = .ok Af w)(hsz:∀w,(sizeOf t).run P w = .ok sz w)
  (hx:ev l x=Ad (rv (.pointer (Ad ⟨b,off,Ai⟩)))) (hi:H[i]? =Ad (.blk b cs e)) (hr:(cs.drop off).take sz=r) (hl:Ae r=sz) :
  Ck P n c l H { dst:=d',op:=.load t x,type:=ty,pos:=pos,after:=af,guard:=g } (Dr r):=λa w Z ha hw=>by
 obtain⟨us,h1,h2⟩:=hw.ent hi;have h3:=(h2.drop off).take sz;rw[hr] at h3;have hlen:=h3.length;have h4:=run_loadCells_list (P:=P) w ⟨b,off,Ai⟩ ((us.drop off).take sz) (λj u hj=>by
  rw[MP,cell_of_row w b _ _ e (0,0) h1];rw[AqU] at hj
  split at hj
  ·simpa using hj
  ·cases hj)
 rw[hlen,hl] at h4;exact⟨.agg ((us.drop off).take sz).toArray,⟨_,rfl,h3⟩,by simp[execOp,ha.eval hx,Instr.loadAt,Instr.sureAddr,loadVar,hag,hsz,h4]⟩
theorem BT (hag:∀w,(isAgg t).run P w = .ok Ah w)(hx:ev l x=Ad (Ts cs))(hc:cs[0]? =Ad r) :
  Ck P n c l H { dst:=d',op:=.load t x,type:=ty,pos:=pos,after:=af,guard:=g } r:=λa w Z ha hw=>by
 obtain⟨b,o,e1,hcs⟩:=ha.ev hx;obtain⟨u,hu,hp⟩:=hcs 0 r hc;have hcell:=PM hw.frz hu;rw[Nat.add_zero] at hcell;exact⟨u,hp,by simp[execOp,e1,Instr.loadAt,Instr.sureAddr,loadVar,hag,hcell]⟩
theorem S2 {Z:Fz}:∀{cs:List Rp} {f:Nat→Option Value},(∀j r,cs[j]? =Ad r→∃u,f j=Ad u∧r.p Z u)→∃us:List Value,BM Z cs us∧∀(j:Nat) u,us[j]? =Ad u→f j=Ad u
 | [],f,_=>⟨[],trivial,Aj⟩
 | r::rs,f,h=>by
  obtain⟨u,hu,hp⟩:=h 0 r rfl;obtain⟨us,h1,h2⟩:=S2 (cs:=rs) (f:=λj=>f (j+1)) (λj r' hj=>h (j+1) r' (by simpa using hj));refine⟨u::us,⟨hp,h1⟩,λj u' hj=>?_⟩
  cases j with
  | zero=>simp at hj;subst hj;exact hu
  | succ j=>exact h2 j u' (by simpa using hj)
theorem WU {r:List Rp}(hag:∀w,(isAgg t).run P w = .ok Af w)(hsz:∀w,(sizeOf t).run P w = .ok sz w)(hx:ev l x=Ad (Ts cs))(hr:cs.take sz=r)(hl:Ae r=sz) :
  Ck P n c l H { dst:=d',op:=.load t x,type:=ty,pos:=pos,after:=af,guard:=g } (Dr r):=λa w Z ha hw=>by
 obtain⟨b,o,e1,hcs⟩:=ha.ev hx;obtain⟨us,h1,h2⟩:=S2 (cs:=r) (f:=λj=>Nz Z b (o+j)) (λj q hj=>hcs j q (by
  subst hr;rw[AqU] at hj
  split at hj
  ·exact hj
  ·cases hj))
 have h4:=run_loadCells_list (P:=P) w ⟨b,o,Ai⟩ us (λj u hj=>by rw[MP];exact PM hw.frz (h2 j u hj));rw[h1.length,hl] at h4;exact⟨.agg us.toArray,⟨_,rfl,h1⟩,by simp[execOp,e1,Instr.loadAt,Instr.sureAddr,loadVar,hag,hsz,h4]⟩
theorem Adf (hag:∀w,(sizeOf t).run P w = .ok 1 w)(hx:ev l x=Ad (rv (.pointer (Ad ⟨b,off,Ai⟩))))(hy:ev l y=Ad r)(hv:Zg H r)
  (hi:H[i]? =Ad (.blk b cs e)) (hlt:Nat.blt off (Ae cs)=Af) {cs':List Rp} (hcs:cs.set off r=cs') (hH:H.set i (.blk b cs' e)=H')
  (h:WL P n c ops Q rest l H'):WL P n c ops Q ({ dst:=Ai,op:=.store t x y,type:=ty,pos:=pos,after:=af,guard:=Ai }::rest) l H:=
 AgZ λa w Z ha hw=>by
  obtain⟨us,hb,h2⟩:=hw.ent hi;have hr:=ha.ev hy;have hone:=hv c Z w _ hw hr;have hlen:=h2.length;have hlt':off<Ae us:=by rw[hlen];simpa using hlt
  have h1:=run_storeCells_at P b off e [a.eval y] 0 us.toArray w hb Am (by simpa using hone);have hcv:=MN hone;have h3:us.take off++[a.eval y]++us.drop (off+1)=us.set off (a.eval y):=by
   simp[List.set_eq_take_append_cons_drop,hlt']
  simp only[Nat.add_zero,Aqp,Ari,AqT] at h1;rw[h3] at h1;refine⟨w.setRow b (us.set off (a.eval y)).toArray,H',?_,?_,h⟩
  ·simp[execOp,ha.eval hx,Instr.storeAt,Instr.sureAddr,storeVar,hag,hcv,h1]
  ·subst hH;subst hcs;refine hw.set hi rfl rfl rfl (by simp[World.setRow]) (λk _ hk=>?_) ⟨us.set off (a.eval y),setRow_heap w b _ _ e (0,0) hb,h2.set off hr⟩ (by simp[Ent.foot]);simp only[Ent.foot,AqG] at hk;simp only[World.setRow,Array.getElem?_modify];rw[AqM (λe=>hk e.symm)]
theorem SI (hsz:∀w,(sizeOf t).run P w = .ok sz w)(hx:ev l x=Ad (rv (.pointer (Ad ⟨b,off,Ai⟩))))(hy:ev l y=Ad (Dr rs))
  (hl:Ae rs=sz) (hv:CB H rs) (hi:H[i]? =Ad (.blk b cs e)) (hlt:Nat.ble (off+sz) (Ae cs)=Af) {cs':List Rp}
  (hcs:cs.take off++rs++cs.drop (off+sz)=cs') (hH:H.set i (.blk b cs' e)=H')
  (h:WL P n c ops Q rest l H'):WL P n c ops Q ({ dst:=Ai,op:=.store t x y,type:=ty,pos:=pos,after:=af,guard:=Ai }::rest) l H:=
 AgZ λa w Z ha hw=>by
  obtain⟨us,hb,h2⟩:=hw.ent hi;obtain⟨vs,e1,h4⟩:=ha.ev hy;have hlen:=h2.length;have hvl:=h4.length;have hlt':off+sz≤Ae us:=by rw[hlen];simpa using hlt
  have h1:=run_storeCells_at P b off e vs 0 us.toArray w hb Am (λv hv'=>hv.at hw h4 v hv');simp only[Nat.add_zero] at h1;refine⟨w.setRow b (us.take off++vs++us.drop (off+sz)).toArray,H',?_,?_,h⟩
  ·have h5:Ae vs=sz:=Ab
   rw[h5] at h1;simp only[Aq4] at h1 ⊢;simp[execOp,ha.eval hx,e1,Instr.storeAt,Instr.sureAddr,storeVar,hsz,Value.cells,h5,h1]
  ·subst hH;subst hcs;refine hw.set hi rfl rfl rfl (by simp[World.setRow]) (λk _ hk=>?_) ⟨us.take off++vs++us.drop (off+sz),setRow_heap w b _ _ e (0,0) hb,((h2.take off).append h4).append (h2.drop (off+sz))⟩ (by simp[Ent.foot]);simp only[Ent.foot,AqG] at hk;simp only[World.setRow,Array.getElem?_modify];rw[AqM (λe=>hk e.symm)]
theorem C4 (hx:ev l x=Ad (rv (.pointer (Ad p)))):Ck P n c l H { dst:=d',op:=.nilCheck x,type:=ty,pos:=pos,after:=af,guard:=g } (rv (.pointer (Ad p))):=λa w Z ha hw=>DX<|by
 simp[execOp,ha.eval hx]
theorem AI {off':Nat}{f:Field}(hu:P.underlying t=Ad (.struct fs))(hf:fs[i]? =Ad f)(hsz:∀w,(sizeOf f.type).run P w = .ok (sz+1) w)
  (hx:ev l x=Ad (rv (.pointer (Ad ⟨b,off,Ai⟩)))) (ho:off+f.offset=off'):Ck P n c l H { dst:=d',op:=.fieldAddr t x i,type:=ty,pos:=pos,after:=af,guard:=g } (rv (.pointer (Ad ⟨b,off',Ai⟩))):=λa w Z ha hw=>DX<|by
 subst ho;simp[execOp,ha.eval hx,Instr.fieldAt,run_underlying hu,hf,Instr.sureAddr,fieldPlace,hsz,MP]
theorem B4 {f:Field}(hu:P.underlying t=Ad (.struct fs))(hf:fs[i]? =Ad f)(hsz:∀w,(sizeOf f.type).run P w = .ok (sz+1) w)
  (hx:ev l x=Ad (Ts cs)) (ho:cs.drop f.offset=cs'):Ck P n c l H { dst:=d',op:=.fieldAddr t x i,type:=ty,pos:=pos,after:=af,guard:=g } (Ts cs'):=λa w Z ha hw=>by
 subst ho;obtain⟨b,o,e1,hcs⟩:=ha.ev hx;refine⟨.pointer (Ad ⟨b,o+f.offset,Ai⟩),⟨b,o+f.offset,rfl,λj r hj=>?_⟩,by simp[execOp,e1,Instr.fieldAt,run_underlying hu,hf,Instr.sureAddr,fieldPlace,hsz,MP]⟩;obtain⟨u,hu,hr⟩:=hcs (f.offset+j) r (by simpa using hj);exact⟨u,by rw[Nat.add_assoc];exact hu,hr⟩
theorem C7 [Inhabited α]{i:Int}(ht:P.underlying t=Ad (.slice e))(hz:∀w,(sizeOf e).run P w = .ok sz w)(h:ev l x=Ad (Cg sz (ys.map enc)))(hi:ev l y=Ad (rI k i))(hg:CE i (Ae ys:Int)=Af) :
  Ck P n c l H { dst:=d',op:=.indexAddr t x y,type:=ty,pos:=pos,after:=af,guard:=g } (Ts (enc (A2 ys i))):=λa w Z ha hw=>by
 obtain⟨A,cap,e1,_,_,_,hc⟩:=ha.ev h;have h0:=(DY hg).1;have h1:i.toNat<Ae ys:=by have:=(DY hg).2;omega
 have hlt:i<(Ae ys:Int):=(DY hg).2;obtain⟨hl,ad,rfl,hs,hcs⟩:=hc i.toNat (enc ys[i.toNat]) (by simp[h1]);obtain⟨b,off,spot⟩:=ad;simp only at hs;subst hs;have eat:A2 ys i=ys[i.toNat]:=by simp[A2,h1]
 refine⟨.pointer (Ad ⟨b,off+i.toNat*sz,Ai⟩),⟨b,off+i.toNat*sz,rfl,λj r hj=>?_⟩,?_⟩
 ·obtain⟨u,hu,hr⟩:=hcs j r (by rw[← eat];exact hj);exact⟨u,by rw[Nat.add_assoc];exact hu,hr⟩
 ·simp only[Aqz] at e1;simp[execOp,e1,ha.eval hi,Instr.indexAt,asIntOf,run_underlying ht,h0,hlt,hz,MP]
theorem WL.nilrow {e:TypeId}{sz:Nat}(h:WL P n c ops Q rest l (.row (.slice Ai 0 0) e sz []::H)):WL P n c ops Q rest l H:=λa w Z ha hw=>
 h a w Z ha (hw.add rfl rfl rfl (Aq7 _) (λ_ _=>rfl) ⟨Aj,[],⟨Aj,.inl ⟨rfl,rfl⟩⟩,trivial⟩ (by simp[Ent.foot,Value.ownBlock]))
theorem WC.nilrow {xx:Code}{e:TypeId}{sz:Nat}(h:WC P n c xx Q l (.row (.slice Ai 0 0) e sz []::H)):WC P n c xx Q l H:=λa w Z ha hw=>
 h a w Z ha (hw.add rfl rfl rfl (Aq7 _) (λ_ _=>rfl) ⟨Aj,[],⟨Aj,.inl ⟨rfl,rfl⟩⟩,trivial⟩ (by simp[Ent.foot,Value.ownBlock]))
theorem WK.nilrow {K:Act→World→Prop}{e:TypeId}{sz:Nat}(h:WK n c K l (.row (.slice Ai 0 0) e sz []::H)):WK n c K l H:=λa w Z ha hw=>
 h a w Z ha (hw.add rfl rfl rfl (Aq7 _) (λ_ _=>rfl) ⟨Aj,[],⟨Aj,.inl ⟨rfl,rfl⟩⟩,trivial⟩ (by simp[Ent.foot,Value.ownBlock]))
theorem AkO (ht:P.underlying t=Ad (.slice e))(h:ev l x=Ad (rv v))(hi:H[i]? =Ad (.row v e' sz xs)):Ck P n c l H { dst:=d',op:=.call { callee:=.builtin .len,args:=#[x],argTypes:=#[t] },type:=ty,pos:=pos,after:=af,guard:=g } (rI .i64 (Ae xs)):=λa w Z ha hw=>DX<|by
 obtain⟨_,us,⟨_,h2⟩,_⟩:=hw.ent hi;rcases h2 with⟨rfl,hz⟩ | ⟨b,cap,cur,rfl,_⟩
 ·simp[execOp,resolve,invoke,builtin,ha.eval h,Builtin.len_,run_underlying ht,goInt,hz]
 ·simp[execOp,resolve,invoke,builtin,ha.eval h,Builtin.len_,run_underlying ht,goInt]
theorem EO (i:Nat){j:Int}(ht:P.underlying t=Ad (.slice e))(hz:∀w,(sizeOf e).run P w = .ok sz w)(h:ev l x=Ad (rv v))(hy:ev l y=Ad (rI k j))(hi:H[i]? =Ad (.row v e' sz xs))(hg:CE j (Ae xs:Int)=Af) :
  Ck P n c l H { dst:=d',op:=.indexAddr t x y,type:=ty,pos:=pos,after:=af,guard:=g } (rv (VA sz v j.toNat 0)):=λa w Z ha hw=>DX<|by
 obtain⟨_,us,⟨_,h2⟩,_⟩:=hw.ent hi;have h0:=(DY hg).1;have h1:=(DY hg).2;rcases h2 with⟨rfl,hz⟩ | ⟨b,cap,cur,rfl,_⟩
 ·omega
 ·simp[execOp,ha.eval h,ha.eval hy,Instr.indexAt,asIntOf,run_underlying ht,h0,h1,hz,MP,VA]
theorem Hv [Inhabited α](i:Nat){j:Int}(hag:∀w,(isAgg t).run P w = .ok Ah w)(hx:ev l x=Ad (rv (VA sz v j.toNat off)))(hi:H[i]? =Ad (.row v e sz (ys.map enc)))(hg:CE j (Ae ys:Int)=Af)(hc:(enc (A2 ys j))[off]? =Ad r) :
  Ck P n c l H { dst:=d',op:=.load t x,type:=ty,pos:=pos,after:=af,guard:=g } r:=λa w Z ha hw=>by
 obtain⟨hs,us,⟨h1,h2⟩,h3⟩:=hw.ent hi;have h0:=(DY hg).1;have hlt:j.toNat<Ae ys:=by have:=(DY hg).2;omega
 have eat:A2 ys j=ys[j.toNat]:=by simp[A2,hlt]
 have hfl:=Ow hs (i:=j.toNat) (c:=enc ys[j.toNat]) (by simp[hlt]) (j:=off) (u:=r) (by rw[← eat];exact hc);obtain⟨u,hu,hp⟩:=h3.at hfl;rcases h2 with⟨rfl,hz⟩ | ⟨b,cap,cur,rfl,_,hg',hcap,hm,hsz,htk⟩
 ·simp at hz;subst hz;simp at hlt
 ·have hcell:w.cell? ⟨b,j.toNat*sz+off,Ai⟩=Ad u:=by
   rw[cell_of_row w b _ cur e (0,0) hg'];rw[← htk,AqU] at hu
   split at hu
   ·simpa using hu
   ·cases hu
  exact⟨u,hp,by simp[execOp,ha.eval hx,VA,Instr.loadAt,Instr.sureAddr,loadVar,hag,hcell]⟩
theorem Cl {j:Int}(h:CE j (Ae ys:Int)=Af):CE j (Ae (ys.map enc):Int)=Af:=by rw[Aqz];exact h
theorem Aic (ht:P.underlying t=Ad (.slice e))(h:ev l x=Ad (Cg sz (ys.map enc))):Ck P n c l H { dst:=d',op:=.call { callee:=.builtin .len,args:=#[x],argTypes:=#[t] },type:=ty,pos:=pos,after:=af,guard:=g } (rI .i64 (Ae ys)):=by
 have:=AkN (P:=P) (n:=n) (c:=c) (H:=H) (d:=d') (ty:=ty) (pos:=pos) (af:=af) (g:=g) ht h
 rwa [Aqz] at this
theorem CC (i:Nat)(ht:P.underlying t=Ad (.slice e))(h:ev l x=Ad (rv v))(hi:H[i]? =Ad (.row v e' sz (ys.map enc))):Ck P n c l H { dst:=d',op:=.call { callee:=.builtin .len,args:=#[x],argTypes:=#[t] },type:=ty,pos:=pos,after:=af,guard:=g } (rI .i64 (Ae ys)):=by
 have:=AkO (P:=P) (n:=n) (c:=c) (d':=d') (ty:=ty) (pos:=pos) (af:=af) (g:=g) ht h hi
 rwa [Aqz] at this
theorem DW {k:Nat}{jj:Int}(hk:H[k]? =Ad (.row v e' sz xs))(hg:CE jj (Ae xs:Int)=Af)(hj:jj.toNat=j)(hx:ev l x=Ad (rv (VA sz v j off))):Ck P n c l H { dst:=d',op:=.nilCheck x,type:=ty,pos:=pos,after:=af,guard:=g } (rv (VA sz v j off)):=λa w Z ha hw=>DX<|by
 obtain⟨hs,us,⟨h1,h2⟩,h3⟩:=hw.ent hk;rcases h2 with⟨rfl,hz⟩ | ⟨b,cap,cur,rfl,_⟩
 ·have:=DY hg;omega
 ·simp[execOp,ha.eval hx,VA]
theorem Gg {off' fsz:Nat}{f:Field}(hu:P.underlying t=Ad (.struct fs))(hf:fs[i]? =Ad f)(hsz:∀w,(sizeOf f.type).run P w = .ok (fsz+1) w){k:Nat}{jj:Int}(hk:H[k]? =Ad (.row v e' sz xs))(hg:CE jj (Ae xs:Int)=Af)(hj:jj.toNat=j)
  (hx:ev l x=Ad (rv (VA sz v j off))) (ho:off+f.offset=off'):Ck P n c l H { dst:=d',op:=.fieldAddr t x i,type:=ty,pos:=pos,after:=af,guard:=g } (rv (VA sz v j off')):=λa w Z ha hw=>DX<|by
 obtain⟨hs,us,⟨h1,h2⟩,h3⟩:=hw.ent hk;subst ho hj;rcases h2 with⟨rfl,hz⟩ | ⟨b,cap,cur,rfl,_⟩
 ·have:=DY hg;omega
 ·simp[execOp,ha.eval hx,VA,Instr.fieldAt,run_underlying hu,hf,Instr.sureAddr,fieldPlace,hsz,MP,Nat.add_assoc]
theorem NK [Inhabited α]{j:Int}{y':α}(hsz:∀w,(sizeOf t).run P w = .ok 1 w)(hx:ev l x=Ad (rv (VA sz v j.toNat off)))(hy:ev l y=Ad r)(hv:Zg H r)(hi:H[i]? =Ad (.row v e sz (ys.map enc)))(hg:CE j (Ae ys:Int)=Af)
  (hy':(enc (A2 ys j)).set off r=enc y') (hlt:Nat.blt off sz=Af) (hH:H.set i (.row v e sz ((ys.set j.toNat y').map enc))=H') (h:WL P n c ops Q rest l H') :
  WL P n c ops Q ({ dst:=Ai,op:=.store t x y,type:=ty,pos:=pos,after:=af,guard:=Ai }::rest) l H:=
 AgZ λa w Z ha hw=>by
  obtain⟨hs,us,⟨h1,h2⟩,h3⟩:=hw.ent hi;have h0:=(DY hg).1;have hlj:j.toNat<Ae ys:=by have:=(DY hg).2;omega
  have hlt':off<sz:=by simpa using hlt
  have eat:A2 ys j=ys[j.toNat]:=by simp[A2,hlj]
  have hr:=ha.ev hy;have hone:=hv c Z w _ hw hr;rcases h2 with⟨rfl,hz⟩ | ⟨b,cap,cur,rfl,_,hg',hcap,hm,hcs,htk⟩
  ·simp at hz;subst hz;simp at hlj
  ·simp only[Aqz] at h1 hcap htk;have hin:j.toNat*sz+off<Ae ys*sz:=by
    have:(j.toNat+1)*sz≤Ae ys*sz:=Nat.mul_le_mul_right _ hlj;rw[Nat.succ_mul] at this;omega
   have hlc:j.toNat*sz+off<cur.size:=by
    have:Ae ys*sz≤cap*sz:=Nat.mul_le_mul_right _ hcap;omega
   have h4:=run_storeCells_at P b (j.toNat*sz+off) e [a.eval y] 0 cur w hg' Am (by simpa using hone);have hcv:=MN hone;have h5:(cur.toList.take (j.toNat*sz+off)++[a.eval y]++cur.toList.drop (j.toNat*sz+off+1)).toArray=cur.setIfInBounds (j.toNat*sz+off) (a.eval y):=by
    apply Array.ext';simp[Array.toList_setIfInBounds,List.set_eq_take_append_cons_drop,hlc]
   simp only[Nat.add_zero,Aqp,Ari,AqT] at h4;rw[h5] at h4;have hset:((ys.set j.toNat y').map enc).flatten=(ys.map enc).flatten.set (j.toNat*sz+off) r:=by
    clear h3 h1 hcs htk hin hlc h4 h5 hi hH;have key:∀(xs:List (List Rp)) (k:Nat) (cl:List Rp),(∀c∈xs,Ae c=sz)→xs[k]? =Ad cl→(xs.set k (cl.set off r)).flatten=xs.flatten.set (k*sz+off) r:=by
     intro xs
     induction xs with
     | nil=>intro k cl _ hk;simp at hk
     | cons z zs ih=>
      intro k cl hsz hk;have hzl:Ae z=sz:=hsz z Aj
      cases k with
      | zero=>
       simp at hk;subst hk;simp only[List.set_cons_zero,List.flatten_cons,Nat.zero_mul,AqT];rw[List.set_append_left _ _ Ab]
      | succ k=>
       simp only[List.set_cons_succ,List.flatten_cons];rw[ih k cl (λc hc=>hsz c (by simp[hc])) (by simpa using hk)];rw[List.set_append_right _ _ (by rw[hzl,Nat.succ_mul];omega)]
       congr 2
       rw[hzl,Nat.succ_mul];omega
    have:=key (ys.map enc) j.toNat (enc ys[j.toNat]) hs (by simp[hlj]);rw[← this,List.map_set,← hy',eat]
   refine⟨w.setRow b (cur.setIfInBounds (j.toNat*sz+off) (a.eval y)),H',?_,?_,h⟩
   ·simp[execOp,ha.eval hx,VA,Instr.storeAt,Instr.sureAddr,storeVar,hsz,hcv,h4]
   ·subst hH;refine hw.set hi rfl rfl rfl (by simp[World.setRow]) (λk _ hk=>?_) ⟨?_,us.set (j.toNat*sz+off) (a.eval y),⟨by simpa using h1,.inr ⟨b,cap,_,Aj,AqL _,setRow_heap w b cur _ e (0,0) hg',by simpa using hcap,hm,by simpa using hcs,?_⟩⟩,?_⟩ (by simp[Ent.foot,Value.ownBlock])
    ·simp only[Ent.foot,Value.ownBlock,Option.mem_toList,Option.mem_def,Option.some.injEq] at hk;simp only[World.setRow,Array.getElem?_modify];rw[AqM hk]
    ·intro cl hcl;rw[List.map_set] at hcl;rcases List.mem_or_eq_of_mem_set hcl with h' | rfl
     ·exact hs cl h'
     ·rw[← hy',List.length_set,eat];exact hs _ (List.mem_map_of_mem (List.getElem_mem hlj))
    ·simp only[Aqz,List.length_set];rw[Array.toList_setIfInBounds,List.take_set,htk]
    ·rw[hset];exact h3.set _ hr
end
variable{P:Program}
theorem AbG {t e:TypeId}{sz len:Nat}{z:Value}{parts:Array (Nat×Value)}{cs:List Value}(ht:P.underlying t=Ad (.slice e))(hz:∀w,(sizeOf e).run P w = .ok sz w)(hzv:∀w,(zeroValue e).run P w = .ok z w)
  (hle:Nat.ble (len*sz) 16777216=Af) (w:World) (hf:Instr.fill (λi=>Ad (i*sz,sz)) ((Array.range (len*sz)).map ((if len*sz=0 then #[] else z.cells)[· % (if len*sz=0 then #[] else z.cells).size]!)) parts.toList=Ad cs.toArray) :
  (Instr.buildSlice t len parts).run P w = .ok (.slice (Ad ⟨w.heap.size,0,Ai⟩) len len) (w.alloc (.cells cs.toArray e)):=by
 have hle' : ¬ 16777216<len*sz:=by simpa using hle
 unfold Instr.buildSlice
 by_cases h0:len*sz=0
 ·have er:Array.range 0 = #[]:=rfl;simp only[h0,Arp,er] at hf;have hf:Instr.fill (λi=>Ad (i*sz,sz)) #[] parts.toList=Ad cs.toArray:=by simpa using hf
  simp[run_underlying ht,hz,hle',h0,er,hf,newRow,newObj,Sem.run,Sem.run_bind]
 ·simp only[h0,Arl] at hf;simp[run_underlying ht,hz,hzv,hle',h0,hf,newRow,newObj,Sem.run,Sem.run_bind]
variable{parts:Array (Nat×Operand)}{inf:TypeInfo}{caps:List Value}{f:FuncId}
section
variable {P : Program} {n : Nat} {c : Cx} {ops : Array Oper} {Q : Exit → Act → World → Prop} {rest : List Oper} {l : Fr} {H H' : List Ent} {d : Nat} {d' : Option Nat} {x y z3 : Operand} {ty t t' e : TypeId} {pos : String} {af : Array Edge} {g : Option (Nat × Bool)} {v u : Value} {r : Rp} {sz : Nat}
theorem Jk {k:Nat}(hag:∀w,(isAgg t).run P w = .ok Af w)(hsz:∀w,(sizeOf t).run P w = .ok sz w)(hx:look l k=Ad (rv (.pointer (Ad ⟨b,0,Ai⟩))))(hi:H[i]? =Ad (.blk b cs e))(hl:Ae cs=sz):RV P n c l H (.cell k t) (Dr cs):=λa w Z ha hw=>by
 obtain⟨us,h1,h2⟩:=hw.ent hi;obtain⟨p,hp1,hp2⟩:=ha.tm k _ hx;rw[show p=_ from hp2] at hp1;have h4:=run_loadCells_list (P:=P) w ⟨b,0,Ai⟩ us (λj u hj=>by
  rw[MP,cell_of_row w b _ _ e (0,0) h1,AqT];simpa using hj)
 rw[h2.length,hl] at h4;exact⟨.agg us.toArray,⟨us,rfl,h2⟩,by simp[Ak5,Array.getD_eq_getD_getElem?,hp1,asAddr,loadVar,hag,hsz,h4]⟩
def Cel (H:List Ent)(r:Rp)(cs:List Rp):Prop:=∀(c:Cx) Z w v,St c H Z w→r.p Z v→BM Z cs v.cells.toList
theorem Cel.one {q:Rp}(h:r.one=Af)(hu:Up H r q):Cel H r [q]:=λc Z w v hw hp=>by
 rw[MN (r.hone h Z v hp)];exact⟨hu c Z w v hw hp,trivial⟩
theorem Cel.agg (h:N9 H cs cs'):Cel H (Dr cs) cs':=λc Z w v hw ⟨us,e,hu⟩=>by subst e;exact h.all hw hu
def Je (H:List Ent):List Rp→List (List Rp)→Prop
 | [],[]=>True
 | r::rs,cs::css=>Cel H r cs∧Je H rs css
 | _,_=>False
theorem Je.all {c:Cx}{Z:Fz}{w:World}(hw:St c H Z w):∀{rs:List Rp} {css:List (List Rp)} {vs:List Value},Je H rs css→BM Z rs vs→BM Z css.flatten (vs.flatMap λv=>v.cells.toList)∧Ae css=Ae vs∧∀(i:Nat) cs v,css[i]? =Ad cs→vs[i]? =Ad v→v.cells.size=Ae cs
 | [],[],[],_,_=>⟨trivial,rfl,Aj⟩
 | r::rs,cs::css,v::vs,⟨h1,h2⟩,⟨h3,h4⟩=>by
  obtain⟨a1,a2,a3⟩:=h2.all hw h4;have h5:=h1 c Z w v hw h3;refine⟨by simpa using h5.append a1,by simp[a2],λi cs' v' hi hv=>?_⟩
  cases i with
  | zero=>simp at hi hv;subst hi hv;have:=h5.length;simpa using this
  | succ i=>exact a3 i cs' v' (by simpa using hi) (by simpa using hv)
theorem XT {len:Nat}{xs:List Operand}{css:List (List Rp)}{zz:Value}(ht:P.underlying t=Ad (.slice e))(hz:∀w,(sizeOf e).run P w = .ok sz w)(hzv:∀w,(zeroValue e).run P w = .ok zz w)
  (hparts:parts.toList=(xs.zipIdx 0).map λp=>(p.2,p.1)) (hlen:Ae ys=len) (hv:R0 l xs=Ad rs) (hc:Je H rs css) (hcs:css=ys.map enc) (henc:∀z,Ae (enc z)=sz) (hsz:Nat.blt 0 sz=Af) (hle:Nat.ble (len*sz) 16777216=Af) (hn:Nat.blt d n=Af)
  (h:∀b,WL P n c ops Q rest ((d,rv (.slice (Ad ⟨b,0,Ai⟩) len len))::l) (.row (.slice (Ad ⟨b,0,Ai⟩) len len) e sz (ys.map enc)::H)) :
  WL P n c ops Q ({ dst:=Ad d,op:=.buildSlice t len parts,type:=ty,pos:=pos,after:=af,guard:=Ai }::rest) l H:=
 PP (λa w Z ha hw=>by
  have hall:=JG ha hv;obtain⟨h1,h2,h3⟩:=hc.all hw hall;have hsz':0<sz:=by simpa using hsz
  have hle' : ¬ 16777216<len*sz:=by simpa using hle
  have hxl:Ae (xs.map a.eval)=len:=by rw[← h2,hcs,Aqz,hlen]
  have hcell:∀v∈xs.map a.eval,v.cells.size=sz:=λv hv'=>by
   obtain⟨i,hi⟩:=List.getElem?_of_mem hv';have hil:=(List.getElem?_eq_some_iff.1 hi).1;have hil2:i<Ae css:=Ab
   rw[h3 i css[i] v (Aqx hil2) hi];have:css[i]∈ys.map enc:=by rw[← hcs];exact List.getElem_mem hil2
   obtain⟨z,_,hz'⟩:=List.mem_map.1 this;rw[← hz'];exact henc z
  have hflen:Ae ((xs.map a.eval).flatMap λv=>v.cells.toList)=len*sz:=by
   rw[h1.length,KK (sz:=sz) (λc hc'=>by rw[hcs] at hc';obtain⟨z,_,hz'⟩:=List.mem_map.1 hc';rw[← hz'];exact henc z),hcs,Aqz,hlen]
  have hpe:(parts.map λ(i,x)=>(i,a.eval x)).toList=((xs.map a.eval).zipIdx 0).map λp=>(p.2,p.1):=by
   rw[Array.toList_map,hparts,List.zipIdx_map,Aro,Aro];rfl
  have hrun:(Instr.buildSlice t len (parts.map λ(i,x)=>(i,a.eval x))).run P w = .ok (.slice (Ad ⟨w.heap.size,0,Ai⟩) len len) (w.alloc (.cells ((xs.map a.eval).flatMap λv=>v.cells.toList).toArray e)):=by
   refine AbG ht hz hzv hle w ?_;rw[hpe]
   by_cases h0:len*sz=0
   ·have:len=0:=by
     rcases Nat.mul_eq_zero.1 h0 with h | h
     ·exact h
     ·omega
    subst this;have hx0:xs=[]:=by simpa using AqB (by simpa using hxl)
    subst hx0;simp[Instr.fill]
   ·simp only[h0,Arl];exact Great.fill_whole hsz' (xs.map a.eval) _ hcell (by rw[hxl];simp)
  refine⟨_,w.alloc (.cells ((xs.map a.eval).flatMap λv=>v.cells.toList).toArray e),_,_,Z,by simp[execOp,hrun],Fz.le.refl _,rfl,
   hw.alloc _ (e:=.row (.slice (Ad ⟨w.heap.size,0,Ai⟩) len len) e sz (ys.map enc)) ⟨?_,(xs.map a.eval).flatMap (λv=>v.cells.toList),⟨?_,.inr ⟨w.heap.size,len,_,?_,AqL _,heap_alloc_new w _,?_,?_,?_,?_⟩⟩,?_⟩ (by simp[Ent.foot,Value.ownBlock]),h w.heap.size⟩
  ·intro cl hcl;obtain⟨z,_,hz'⟩:=List.mem_map.1 hcl;rw[← hz'];exact henc z
  ·rw[hflen,Aqz,hlen]
  ·rw[Aqz,hlen]
  ·rw[Aqz,hlen];exact Aq7 _
  ·have:len≤len*sz:=Nat.le_mul_of_pos_right _ hsz';simp only[maxLen];omega
  ·simpa using hflen
  ·rw[Aqz,hlen,← hflen];exact Arn
  ·rw[← hcs];exact h1) hn
theorem SlZ.rds {Z:Fz}{w:World}(hf:Frz Z w)(h:SlZ sz (ys.map enc) Z v)(hsz:0<sz):∃us:List Value,BM Z (ys.map enc).flatten us∧Rds sz w v (Ae ys) us:=by
 obtain⟨A,cap,rfl,_,_,hA,hc⟩:=h;have hl:∀c∈ys.map enc,Ae c=sz:=λc hm=>by
  obtain⟨i,hi⟩:=List.getElem?_of_mem hm;exact(hc i c hi).1
 cases A with
 | none=>
  have:ys=[]:=by
   cases ys with
   | nil=>rfl
   | cons y r=>obtain⟨_,a,h,_⟩:=hc 0 (enc y) Aj;cases h
  subst this;rw[hA rfl];exact⟨[],trivial,Aj,.inl ⟨rfl,rfl⟩⟩
 | some a=>
  obtain⟨us,h1,h2⟩:=S2 (Z:=Z) (cs:=(ys.map enc).flatten) (f:=λj=>Nz Z a.block (a.off+j)) (λj r hj=>by
   have hjl:j<Ae ys*sz:=by
    have:=KK hl;rw[Aqz] at this;rw[← this];exact(List.getElem?_eq_some_iff.1 hj).1
   have hq:j/sz<Ae (ys.map enc):=by rw[Aqz,Nat.div_lt_iff_lt_mul hsz];exact hjl
   have hr:j % sz<sz:=Nat.mod_lt _ hsz;obtain⟨hcl,a',e1,hsp,hcell⟩:=hc (j/sz) (ys.map enc)[j/sz] (Aqx hq);simp only[Option.some.injEq] at e1;subst e1;have hdm:j/sz*sz+j % sz=j:=by rw[Nat.mul_comm];exact Nat.div_add_mod j sz
   have hlt:j % sz<Ae ((ys.map enc)[j/sz]):=Ab
   have h3:=Ow hl (Aqx hq) (Aqx hlt);rw[hdm,hj] at h3;simp only[Option.some.injEq] at h3;obtain⟨u,hu,hp⟩:=hcell (j % sz) _ (Aqx hlt);rw[hdm] at hu;exact⟨u,hu,by rw[h3];exact hp⟩)
  refine⟨us,h1,?_,.inr ⟨a,cap,Aj,λj u hj=>?_⟩⟩
  ·rw[h1.length,KK hl,Aqz]
  ·have hjl:j<Ae us:=(List.getElem?_eq_some_iff.1 hj).1;have h3:=PM hf (h2 j u hj);have hsp:a.spot=Ai:=by
    cases ys with
    | nil=>have:=h1.length;simp at this;subst this;simp at hjl
    | cons y r=>obtain⟨_,a',e1,hs,_⟩:=hc 0 (enc y) Aj;simp at e1;subst e1;exact hs
   obtain⟨b,off,spot⟩:=a;simp only at hsp;subst hsp;rw[MP];exact h3
def HJ (P:Program)(n:Nat)(c:Cx)(l:Fr)(H:List Ent)(y:Operand)(sz k:Nat)(cs:List Rp):Prop:=∀a w Z,Gl n l a Z→St c H Z w→∃us,BM Z cs us∧Rds sz w (a.eval y) k us
theorem HJ.z (h:ev l y=Ad (Cg sz (ys.map enc)))(hsz:Nat.blt 0 sz=Af):HJ P n c l H y sz (Ae ys) (ys.map enc).flatten:=λa w Z ha hw=>SlZ.rds hw.frz (ha.ev h) (by simpa using hsz)
theorem HJ.w {α:Type}{ys:List α}{enc:α→List Rp}(i:Nat)(h:ev l y=Ad (rv v))(hi:H[i]? =Ad (.row v e sz (ys.map enc))):HJ P n c l H y sz (Ae ys) (ys.map enc).flatten:=λa w Z ha hw=>by
 obtain⟨h0,us,h1,h2⟩:=hw.ent hi;refine⟨us,h2,?_⟩;rw[ha.eval h];have:=Rds.of_row (w:=w) (v:=v) (e:=e) (sz:=sz) (m:=Ae (ys.map enc)) (xs:=us) h1;simpa using this
theorem Ahc {xs:List α}{z:Value}{bytes:Nat}(ht:P.underlying t=Ad (.slice e))(hinf:P.info? e=Ad inf)(hz:inf.zero=Ad z)(hsize:inf.size=sz)(hby:inf.bytes=bytes)(hzs:z.cells.size=sz)(hsz:Nat.blt 0 sz=Af)(hbp:Nat.blt 0 bytes=Af)
  (hx:ev l x=Ad (rv v)) (hi:H[i]? =Ad (.row v e sz (xs.map enc))) (hy:HJ P n c l H y sz (Ae ys) (ys.map enc).flatten) (henc:∀z,Ae (enc z)=sz) (hone:∀z,(enc z).all (·.one)=Af) (hg:De bytes (Ae xs+Ae ys)=Af) (hn:Nat.blt d n=Af)
  (h:∀v',WL P n c ops Q rest ((d,rv v')::l) (.row v' e sz ((xs++ys).map enc)::H.eraseIdx i)) :
  WL P n c ops Q ({ dst:=Ad d,op:=.call { callee:=.builtin .append,args:=#[x,y],argTypes:=#[t,t] },type:=ty,pos:=pos,after:=af,guard:=Ai }::rest) l H:=
 PP (λa w Z ha hw=>by
  obtain⟨h0,us,h1,h2⟩:=hw.ent hi;obtain⟨ws,h3,h4⟩:=hy a w Z ha hw;have hsz':0<sz:=by simpa using hsz
  have hbp':0<bytes:=by simpa using hbp
  have hb:(Ae xs+Ae ys)*bytes≤140737488355328:=by simpa[De] using hg
  have hle:Ae xs+Ae ys≤(Ae xs+Ae ys)*bytes:=Nat.le_mul_of_pos_right _ hbp';have hws:∀y∈ws,y.oneCell'=Af:=BM.one (rs:=(ys.map enc).flatten) (by
   rw[AqX];intro r hr;obtain⟨cl,hcl,hrc⟩:=List.mem_flatten.1 hr;obtain⟨z',_,rfl⟩:=List.mem_map.1 hcl;exact List.all_eq_true.1 (hone z') r hrc) h3
  have hxl:Ae (xs.map enc)=Ae xs:=Aqz ..;rw[hxl] at h1;obtain⟨v',w',e1,e2,e3,e4⟩:=P5 (P:=P) ty ht hinf hz hsize hby hzs hsz' h1 h4 hws hb (by simp only[maxLen];omega);have hent:(Ent.row v' e sz ((xs++ys).map enc)).holds Z w':=⟨λcl hcl=>by obtain⟨z',_,rfl⟩:=List.mem_map.1 hcl;exact henc z',us++ws,by simpa using e2,by rw[Arf,List.flatten_append];exact h2.append h3⟩
  have hst:=hw.callF hi (St.one (e':=.row v' e sz ((xs++ys).map enc)) (M:=(Ent.row v e sz (xs.map enc)).foot) hw.frz hw.env hw.emono e3.os e3.tape e3.output e3.size (λk hk hne=>e3.block k hk (λe1=>hne (by simp[Ent.foot,← e1])))
   (hw.zdis _ (Aq1 hi)) hent (λk hk=>by
    simp only[Ent.foot,Option.mem_toList] at hk ⊢;rcases e4 with e4 | e4
    ·exact .inl (e4▸hk)
    ·exact .inr (e4 k hk)))
  exact⟨v',w',rv v',_,Z,by simp[execOp,resolve,invoke,builtin,ha.eval hx,e1],Fz.le.refl _,rfl,hst,h v'⟩) hn
theorem Nj {i:Int}(ht:P.underlying t=Ad (.slice e))(hz:∀w,(sizeOf e).run P w = .ok sz w)(h:ev l x=Ad (Cg sz (ys.map enc)))(hi:ev l y=Ad (rI k i))(hg:Gk i (Ae ys:Int)=Af) :
  Ck P n c l H { dst:=d',op:=.slice t x (Ad y) Ai Ai,type:=ty,pos:=pos,after:=af,guard:=g } (Cg sz ((ys.drop i.toNat).map enc)):=λa w Z ha hw=>by
 obtain⟨A,cap,e1,hc1,hc2,hA,hc⟩:=ha.ev h;have h0:=(CP hg).1;have h1:=(CP hg).2;simp only[Aqz] at e1 hc1;refine⟨.slice (if cap=i.toNat then A else A.map (·.add (i.toNat*sz))) (Ae ys-i.toNat) (cap-i.toNat),⟨if cap=i.toNat then A else A.map (·.add (i.toNat*sz)),cap-i.toNat,?_,?_,Ab,?_,λq cl hq=>?_⟩,by simp[execOp,e1,ha.eval hi,Instr.sliceAt,Instr.slice,run_underlying ht,Instr.sliceBounds,Cc (m:=Ae ys) _ _ h0 h1,hz]⟩
 ·congr 1
  simp
 ·simp;omega
 ·intro hn
  split at hn
  ·have:=hA hn;omega
  ·have:=hA (by simpa using hn);omega
 ·rw[AqI,List.getElem?_drop] at hq
  cases hq':ys[i.toNat+q]? with
  | none=>rw[hq'] at hq;cases hq
  | some yy=>
   rw[hq'] at hq;simp only[Option.map_some,Option.some.injEq] at hq;subst hq;have hlt:=(List.getElem?_eq_some_iff.1 hq').1;obtain⟨hl,ad,rfl,hs,hcs⟩:=hc (i.toNat+q) (enc yy) (by simp[hq']);obtain⟨b,off,spot⟩:=ad;simp only at hs;subst hs;have hne : ¬ cap=i.toNat:=Ab
   refine⟨hl,⟨b,off+i.toNat*sz,Ai⟩,by simp[hne,MP],rfl,λq' r' hr'=>?_⟩;obtain⟨u,hu,hp⟩:=hcs q' r' hr';refine⟨u,?_,hp⟩;have:off+i.toNat*sz+(q*sz+q')=off+((i.toNat+q)*sz+q'):=by rw[Nat.add_mul];omega
   simp only;rw[this];exact hu
theorem AnP {j:Int}(ht:P.underlying t=Ad (.slice e))(hz:∀w,(sizeOf e).run P w = .ok sz w)(hx:ev l x=Ad (rv v))(hy:ev l y=Ad (rI k j))(hi:H[i]? =Ad (.row v e sz (ys.map enc)))(hg:Gk j (Ae ys:Int)=Af)(hn:Nat.blt d n=Af)
  (h:∀v',WL P n c ops Q rest ((d,rv v')::l) (H.set i (.row v' e sz ((ys.take j.toNat).map enc)))) :
  WL P n c ops Q ({ dst:=Ad d,op:=.slice t x Ai (Ad y) Ai,type:=ty,pos:=pos,after:=af,guard:=Ai }::rest) l H:=
 PP (λa w Z ha hw=>by
  obtain⟨h0,us,⟨h1,h2⟩,h3⟩:=hw.ent hi;have g0:=(CP hg).1;have g1:=(CP hg).2;rcases h2 with⟨rfl,hz0⟩ | ⟨b,cap,cur,rfl,_,hb,hcap,hm,hcs,htk⟩
  ·simp at hz0;subst hz0;obtain rfl:j=0:=by simp at g1;omega
   refine⟨.slice Ai 0 0,w,_,_,Z,by simp[execOp,ha.eval hx,ha.eval hy,Instr.sliceAt,Instr.slice,run_underlying ht,Instr.sliceBounds,Cc (m:=0) _ _ (Aq8 0) (Aq8 0),hz],Fz.le.refl _,rfl,?_,h _⟩;exact hw.set hi rfl rfl rfl (Aq7 _) (λ_ _ _=>rfl) ⟨Aj,[],⟨Aj,.inl ⟨rfl,Aj⟩⟩,trivial⟩ (by simp[Ent.foot,Value.ownBlock])
  ·simp only[Aqz] at h1 hcap htk;have hjc:j≤(cap:Int):=Ab
   have hjl:j.toNat≤Ae ys:=Ab
   refine⟨.slice (Ad ⟨b,0,Ai⟩) j.toNat cap,w,_,_,Z,by simp[execOp,ha.eval hx,ha.eval hy,Instr.sliceAt,Instr.slice,run_underlying ht,Instr.sliceBounds,Cc (m:=cap) _ _ g0 hjc,hz];intro _;rfl,Fz.le.refl _,rfl,?_,h _⟩;refine hw.set hi rfl rfl rfl (Aq7 _) (λ_ _ _=>rfl) ⟨λcl hcl=>?_,us.take (j.toNat*sz),⟨?_,.inr ⟨b,cap,cur,?_,AqL _,hb,?_,hm,hcs,?_⟩⟩,?_⟩ (by simp[Ent.foot,Value.ownBlock])
   ·rw[List.map_take] at hcl;exact h0 cl (List.mem_of_mem_take hcl)
   ·rw[AqV,h1,Aqz,AqV,Nat.min_eq_left hjl];exact Nat.min_eq_left (Nat.mul_le_mul_right _ hjl)
   ·simp[Nat.min_eq_left hjl]
   ·simp;omega
   ·rw[Aqz,AqV,Nat.min_eq_left hjl,← htk,List.take_take,Nat.min_eq_left (Nat.mul_le_mul_right _ hjl)]
   ·have:((ys.take j.toNat).map enc).flatten=(ys.map enc).flatten.take (j.toNat*sz):=by
     rw[List.map_take];clear h3 h1 htk hcs hcap g1 hjc;generalize ys.map enc=zs at h0;have key:∀(zs:List (List Rp)) (k:Nat),(∀c∈zs,Ae c=sz)→(zs.take k).flatten=zs.flatten.take (k*sz):=by
      intro zs
      induction zs with
      | nil=>intro k _;simp
      | cons z zs ih=>
       intro k hk
       cases k with
       | zero=>simp
       | succ k=>
        have hzl:=hk z Aj;simp only[List.take_succ_cons,List.flatten_cons];rw[ih k (λc hc=>hk c (by simp[hc]))];have e1:(k+1)*sz=Ae z+k*sz:=by rw[hzl,Nat.succ_mul];omega
        rw[e1,List.take_length_add_append]
     exact key zs _ h0
    rw[this];exact h3.take _) hn
theorem UW {z4:Operand}{k' k'':IntKind}{i j:Int}(ht:P.underlying t=Ad (.slice e))(hz:∀w,(sizeOf e).run P w = .ok sz w)(h:ev l x=Ad (Cg sz (ys.map enc)))(hi:ev l y=Ad (rI k i))(hj:ev l z3=Ad (rI k' j))(hm:ev l z4=Ad (rI k'' j))(hg1:Gk i j=Af)(hg2:Gk j (Ae ys:Int)=Af) :
  Ck P n c l H { dst:=d',op:=.slice t x (Ad y) (Ad z3) (Ad z4),type:=ty,pos:=pos,after:=af,guard:=g } (Cg sz (((ys.drop i.toNat).take (j.toNat-i.toNat)).map enc)):=λa w Z ha hw=>by
 obtain⟨A,cap,e1,hc1,hc2,hA,hc⟩:=ha.ev h;have h0:=(CP hg1).1;have h1:=(CP hg1).2;have h2:=(CP hg2).2;have hj0:0≤j:=Ab
 simp only[Aqz] at e1 hc1;have h3:j≤(cap:Int):=Ab
 refine⟨.slice (if j.toNat=i.toNat then A else A.map (·.add (i.toNat*sz))) (j.toNat-i.toNat) (j.toNat-i.toNat),⟨if j.toNat=i.toNat then A else A.map (·.add (i.toNat*sz)),j.toNat-i.toNat,?_,?_,Ab,?_,λq cl hq=>?_⟩,by simp[execOp,e1,ha.eval hi,ha.eval hj,ha.eval hm,Instr.sliceAt,Instr.slice,run_underlying ht,Instr.sliceBounds,Cc (m:=cap) _ _ hj0 h3,Cc (m:=j.toNat) _ _ hj0 Ab,Cc (m:=j.toNat) _ _ h0 Ab,hz]⟩
 ·congr 1
  simp;omega
 ·simp;omega
 ·intro hn
  split at hn
  ·omega
  ·have:=hA (by simpa using hn);omega
 ·rw[AqI] at hq
  cases hq':(Aq (j.toNat-i.toNat) (Ap i.toNat ys))[q]? with
  | none=>rw[hq'] at hq;cases hq
  | some yy=>
   rw[hq'] at hq;simp only[Option.map_some,Option.some.injEq] at hq;subst hq;rw[AqU] at hq'
   split at hq'
   ·rename_i hlt
    rw[List.getElem?_drop] at hq';obtain⟨hl,ad,rfl,hs,hcs⟩:=hc (i.toNat+q) (enc yy) (by simp[hq']);obtain⟨b,off,spot⟩:=ad;simp only at hs;subst hs;have hne : ¬ j.toNat=i.toNat:=Ab
    refine⟨hl,⟨b,off+i.toNat*sz,Ai⟩,by simp[hne,MP],rfl,λq' r' hr'=>?_⟩;obtain⟨u,hu,hp⟩:=hcs q' r' hr';refine⟨u,?_,hp⟩;have:off+i.toNat*sz+(q*sz+q')=off+((i.toNat+q)*sz+q'):=by rw[Nat.add_mul];omega
    simp only;rw[this];exact hu
   ·cases hq'
theorem AlZ {p q:Int}(ht:P.underlying t=Ad (.int k))(hx:ev l x=Ad (rI k p))(hy:ev l y=Ad (rI k q)):Ck P n c l H { dst:=d',op:=.call { callee:=.builtin .max,args:=#[x,y],argTypes:=#[t,t] },type:=ty,pos:=pos,after:=af,guard:=g } (rI k (max p q)):=λa w Z ha _=>DX<|by
 have e:(if p<q then q else p)=max p q:=by split<;>omega
 simp[execOp,resolve,invoke,builtin,ha.eval hx,ha.eval hy,Builtin.max_,Builtin.max2,run_underlying ht,e]
theorem Qd {parts:Array Operand}(h:R0 l parts.toList=Ad (caps.map rv)):Ck P n c l H { dst:=d',op:=.makeFunc (.func f) #[] parts,type:=ty,pos:=pos,after:=af,guard:=g } (rv (.func (.func f) #[] caps.toArray)):=λa w Z ha _=>DX<|by
 have h1:=BM.eq_rv (JG ha h);have h2:parts.map a.eval=caps.toArray:=by apply Array.ext';simpa using h1
 simp[execOp,Instr.makeFunc,h2]
theorem Of (hu:∃e',P.underlying t=Ad (.pointer e'))(hx:ev l x=Ad (rv (.pointer (Ad p)))):Ck P n c l H { dst:=d',op:=.binOp .eql t x (.const (.pointer Ai)) t',type:=ty,pos:=pos,after:=af,guard:=g } (rB Ah):=λa w Z ha _=>DX<|by
 obtain⟨e',hu⟩:=hu;have h1:∀dd:Nat,(Op.equalIn (dd+1) t (.pointer (Ad p)) (.pointer Ai)).run P w = .ok Ah w:=λdd=>by simp[Op.equalIn,run_underlying hu]
 have h2:(Op.equal t (.pointer (Ad p)) (.pointer Ai)).run P w = .ok Ah w:=h1 9999;have h3:(eqGuard .eql t x (.const (.pointer Ai)) (.pointer (Ad p)) (.pointer Ai)).run P w = .ok () w:=by unfold eqGuard;split<;>simp
 have hy:a.eval (.const (.pointer Ai)) = .pointer Ai:=rfl;simp only[execOp,ha.eval hx,hy,Sem.run_bind,h3,Result.andThen_ok,binOp,h2,Sem.run_pure]
@[reducible] def AcG (x:Int):List Rp:=[rI .i64 x]
@[reducible] def CO (x:Int):List Rp:=[rI .u8 x]
theorem E9 (x:Int):Ae (CO x)=1:=rfl
theorem MK (x:Int):(CO x).all (·.one)=Af:=rfl
@[reducible] def eS (x:Aw):List Rp:=[rS x]
theorem D6 (x:Aw):Ae (eS x)=1:=rfl
theorem Lw (x:Aw):(eS x).all (·.one)=Af:=rfl
end
section
variable (P : Program) (n : Nat) (c : Cx) (ops : Array Oper) (Q : Exit → Act → World → Prop)
def GA (l:Fr)(H:List Ent)(o:Oper)(r:Rp)(H':List Ent):Prop:=
 ∀a w Z (K:Act→World→Prop),Gl n l a Z→St c H Z w→(∀v w' Z',Fz.le Z Z'→r.p Z' v→St c H' Z' w'→K (a.put o.dst v) w')→
  (Region.wanted o (yielded ops a.tmps)=Af→o.wp P a w K Q)∧(Region.wanted o (yielded ops a.tmps)=Ah→K (a.put o.dst undef) w)
end
def Abo (l' l:Fr):Prop:=∀i v,look l' i=Ad v→∃q,look l i=Ad q∧If q v
theorem Gl.subL {n:Nat}{a:Act}{Z:Fz}{l l':Fr}(h:Gl n l a Z)(hs:Abo l' l):Gl n l' a Z:=⟨h.size,h.defers,λi v hi=>by
 obtain⟨q,hq,hle⟩:=hs i v hi;obtain⟨u,hu,hp⟩:=h.tm i q hq;exact⟨u,hu,hle Z u hp⟩⟩
structure Kp (ks:List Nat) (l l':Fr):Prop where
 one:Abo l' l
 two:∀i v,look l' i=Ad v→ks.contains i=Af
variable{ks:List Nat}
theorem Sh:Kp ks [] []:=⟨λi v h=>by simp[look] at h,λi v h=>by simp[look] at h⟩
theorem Ps {l l':Fr}(h:ks.contains i=Af)(t:Kp ks l l'):Kp ks ((i,r)::l) ((i,r)::l'):=by
 refine⟨λj v hj=>?_,λj v hj=>?_⟩
 ·rw[DO] at hj ⊢
  split at hj
  ·rename_i e;rw[Arc e];simp at hj;subst hj;exact⟨r,rfl,If.refl r⟩
  ·rename_i e;rw[AqM e];exact t.one j v hj
 ·rw[DO] at hj
  split at hj
  ·rename_i e;subst e;exact h
  ·exact t.two j v hj
theorem Rq {l l':Fr}(h:ks.contains i=Ah)(t:Kp ks l l'):Kp ks ((i,r)::l) l':=by
 refine⟨λj v hj=>?_,t.two⟩;rw[DO]
 by_cases e:i=j
 ·subst e;rw[t.two i v hj] at h;cases h
 ·rw[AqM e];exact t.one j v hj
structure Sp where
 deps:List Nat
 r:Rp
 kd:Nat
def Hg (sp:List Sp)(i:Nat):Sp:=sp.getD i ⟨[],rv undef,0⟩
def Dw (ops:List Oper)(i:Nat):Option Nat:=(ops[i]?).bind (·.dst)
def Di (ops:List Oper)(sp:List Sp):List Nat→Fr→Fr
 | [],l=>l
 | j::r,l=>match Dw ops j with
  | some d=>(d,(Hg sp j).r)::Di ops sp r l
  | none=>Di ops sp r l
def E5 (o:Oper):List Nat:=(o.after.toList.filter (Region.binds .any)).map (·.on)
def Qn:List Oper→List Nat→List Nat
 | [],acc=>acc
 | o::rest,acc=>Qn rest (acc++[(E5 o).foldl (λs e=>s||| 2 ^ e||| acc.getD e 0) 0])
def Hz (l:Fr):List Nat:=l.map (·.1)
def okB (n:Nat)(ops:List Oper)(N:Nat)(keys:List Nat)(deps:List (List Nat))(kds:List Nat):Bool:=
 let cl:=Qn ops []
 (As (Ae ops)).all (λi=>(E5 (ops.getD i default)).all (·<i))&&
 (As N).all (λi=>match Dw ops i with
  | some d=>Ac (d<n)&&!keys.contains d&&(As N).all (λj=>j ==i||Dw ops j !=Ad d)
  | none=>Af)&&
 (As N).all (λi=>(deps.getD i []).all (λj=>(E5 (ops.getD i default)).contains j))&&
 (As N).all (λi=>kds.getD i 0 ==0||kds.getD i 0 ==3||(As N).all (λj=>kds.getD j 0 !=2||j ==i||(if j<i then(cl.getD i 0).testBit j else(cl.getD j 0).testBit i)))&&
 (As (Ae ops)).all (λi=>i<N||(As N).all (λj=>(cl.getD i 0).testBit j))&&Ae ops≤N+1&&kds.all (·≤3)
variable{ats:Array TypeId}{l0:Fr}{pos:String}{args:List Operand}{g:Option (Nat×Bool)}{os:List Oper}{id:Nat}{op:Op}{want:Bool}{af:Array Edge}{H1:List Ent}{l1:Fr}{dj:Nat}
section
variable {P : Program} {n : Nat} {c : Cx} {opsA : Array Oper} {Q : Exit → Act → World → Prop}
theorem JA (ops:List Oper)(F:Nat→Prop):∀(rest:List Oper) (acc:List Nat),(∀(t:Nat) o,rest[t]? =Ad o→∀e∈E5 o,F (Ae acc+t)→F e)→
  (∀(j i:Nat),(acc.getD j 0).testBit i=Af→F j→F i)→∀(j i:Nat),((Qn rest acc).getD j 0).testBit i=Af→F j→F i
 | [],acc,_,h=>h
 | o::rest,acc,hr,h=>by
  unfold Qn;refine JA ops F rest _ (λt o' ht e he hF=>hr (t+1) o' (by simpa using ht) e he (by simpa[Nat.add_assoc,Nat.add_comm 1 t] using hF)) (λj i hb hF=>?_)
  by_cases hj:j<Ae acc
  ·refine h j i ?_ hF;simpa[Arr hj] using hb
  ·by_cases hj2:j=Ae acc
   ·subst hj2;simp only[Aqy,Art (Aq7 _),Nat.sub_self,List.getElem?_cons_zero,AqE] at hb;have key:∀(es:List Nat) (s0:Nat),(es.foldl (λs e=>s||| 2 ^ e||| acc.getD e 0) s0).testBit i=Af→s0.testBit i=Af∨∃e∈es,e=i∨(acc.getD e 0).testBit i=Af:=by
     intro es
     induction es with
     | nil=>intro s0 h0;exact .inl h0
     | cons e es ih=>
      intro s0 h0;rcases ih _ h0 with h1 | ⟨e',he',h1⟩
      ·simp only[Nat.testBit_or,AqF,Nat.testBit_two_pow,Aqq] at h1;rcases h1 with(h1 | h1) | h1
       ·exact .inl h1
       ·exact .inr ⟨e,Aj,.inl h1⟩
       ·exact .inr ⟨e,Aj,.inr h1⟩
      ·exact .inr ⟨e',by simp[he'],h1⟩
    rcases key (E5 o) 0 hb with h0 | ⟨e,he,h1 | h1⟩
    ·simp at h0
    ·subst h1;exact hr 0 o rfl e he (by simpa using hF)
    ·exact h e i h1 (hr 0 o rfl e he (by simpa using hF))
   ·have:(acc++[(E5 o).foldl (λs e=>s||| 2 ^ e||| acc.getD e 0) 0]).getD j 0=0:=by
     rw[Aqy,List.getElem?_eq_none Am];rfl
    rw[this] at hb;simp at hb
def Zh (P:Program)(n:Nat)(c:Cx)(opsA:Array Oper)(Q:Exit→Act→World→Prop)(ops:List Oper)(sp:List Sp)(l0:Fr)(All:List (List Ent)):Nat→List Oper→List (List Ent)→Prop
 | i,o::rest,H::H'::Hs=>
  (match (Hg sp i).kd with
   | 0=>H'=H∧∀H,GA P n c opsA Q (Di ops sp (Hg sp i).deps l0) H o (Hg sp i).r H
   | 1=>H'=H∧GA P n c opsA Q (Di ops sp (Hg sp i).deps l0) H o (Hg sp i).r H
   | 3=>H'=H∧∀H∈All,GA P n c opsA Q (Di ops sp (Hg sp i).deps l0) H o (Hg sp i).r H
   | _=>GA P n c opsA Q (Di ops sp (Hg sp i).deps l0) H o (Hg sp i).r H')∧Zh P n c opsA Q ops sp l0 All (i+1) rest (H'::Hs)
 | _,[],[_]=>True
 | _,_,_=>False
theorem Zh.at {ops:List Oper}{sp:List Sp}{l0:Fr}{All:List (List Ent)}:∀{k:Nat} {rest:List Oper} {Hs:List (List Ent)},Zh P n c opsA Q ops sp l0 All k rest Hs→Ae Hs=Ae rest+1∧∀(t:Nat) o,rest[t]? =Ad o→
  (match (Hg sp (k+t)).kd with
   | 0=>Hs.getD (t+1) []=Hs.getD t []∧∀H,GA P n c opsA Q (Di ops sp (Hg sp (k+t)).deps l0) H o (Hg sp (k+t)).r H
   | 1=>Hs.getD (t+1) []=Hs.getD t []∧GA P n c opsA Q (Di ops sp (Hg sp (k+t)).deps l0) (Hs.getD t []) o (Hg sp (k+t)).r (Hs.getD t [])
   | 3=>Hs.getD (t+1) []=Hs.getD t []∧∀H∈All,GA P n c opsA Q (Di ops sp (Hg sp (k+t)).deps l0) H o (Hg sp (k+t)).r H
   | _=>GA P n c opsA Q (Di ops sp (Hg sp (k+t)).deps l0) (Hs.getD t []) o (Hg sp (k+t)).r (Hs.getD (t+1) []))
 | k,o::rest,H::H'::Hs,⟨h1,h2⟩=>by
  obtain⟨hl,ih⟩:=Zh.at h2;refine⟨by simp at hl ⊢;omega,λt o' ht=>?_⟩
  cases t with
  | zero=>simp at ht;subst ht;simpa using h1
  | succ t=>
   have:=ih t o' (by simpa using ht);rw[show k+(t+1)=k+1+t from Ab];simpa using this
 | _,[],[_],_=>⟨rfl,λt o h=>by simp at h⟩
theorem Om:∀{l:Fr} {i:Nat} {r:Rp},look l i=Ad r→i∈Hz l
 | [],i,r,h=>by simp[look] at h
 | p::l,i,r,h=>by
  obtain⟨j,u⟩:=p;rw[DO] at h
  split at h
  ·rename_i e;subst e;simp[Hz]
  ·simp only[Hz,AqY,Ars];exact .inr (Om h)
theorem Pq {ops:List Oper}{sp:List Sp}{l0:Fr}{a:Act}{Z:Fz}(h0:Gl n l0 a Z):∀{ds:List Nat},(∀j∈ds,∀d,Dw ops j=Ad d→∃v,a.tmps[d]? =Ad v∧(Hg sp j).r.p Z v)→Gl n (Di ops sp ds l0) a Z
 | [],_=>h0
 | j::ds,h=>by
  have ih:=Pq h0 (ds:=ds) (λj' hj'=>h j' (by simp[hj']));unfold Di
  cases hd:Dw ops j with
  | none=>exact ih
  | some d=>
   refine⟨ih.size,ih.defers,λi r hi=>?_⟩;rw[DO] at hi
   split at hi
   ·rename_i e;subst e;simp at hi;subst hi;exact h j Aj d hd
   ·exact ih.tm i r hi
theorem SB {pre last:List Oper}(sp:List Sp)(Hs:List (List Ent)){l:Fr}(hm:P.follows .mixedOrders=Af)
  (hB:okB n (pre++last) (Ae pre) (Hz l0) (sp.map (·.deps)) (sp.map (·.kd))=Af) (hl0:Abo l0 l) (hsp:Ae sp=Ae pre) (hH:Hs.getD 0 []=H)
  (hob:Zh P n c (pre++last).toArray Q (pre++last) sp l0 Hs 0 pre Hs)
  (h:WL P n c (pre++last).toArray Q last (Di (pre++last) sp (As (Ae pre)) l0) (Hs.getD (Ae pre) [])):WC P n c (.region id (pre++last).toArray Af) Q l H:=by
 intro a w Z ha hw;generalize hops:pre++last=ops at *;obtain⟨hHl,hat⟩:=hob.at;simp only[okB,Aqu,AqX,List.mem_range,Aqq] at hB;obtain⟨⟨⟨⟨⟨⟨b1,b2⟩,b3⟩,b4⟩,b5⟩,b6⟩,b7⟩:=hB;have hN:Ae pre≤Ae ops:=by rw[← hops];simp
 have hget:∀i,i<Ae pre→ops[i]? =pre[i]?:=λi hi=>by rw[← hops,Arr hi]
 have hkd:∀i,i<Ae pre→(sp.map (·.kd)).getD i 0=(Hg sp i).kd:=λi hi=>by
  simp[Hg,Aqy,AqI,Aqx (show i<Ae sp by omega)]
 have hdp:∀i,i<Ae pre→(sp.map (·.deps)).getD i []=(Hg sp i).deps:=λi hi=>by
  simp[Hg,Aqy,AqI,Aqx (show i<Ae sp by omega)]
 have hconst:∀(k b:Nat),b+k≤Ae pre→(∀j,b≤j→j<b+k→(Hg sp j).kd≠2)→Hs.getD (b+k) []=Hs.getD b []:=by
  intro k
  induction k with
  | zero=>intro b _ _;rfl
  | succ k ih=>
   intro b hb hj;have hlt:b+k<Ae pre:=Ab
   have h1:=hat (b+k) pre[b+k] (Aqx hlt);rw[AqT] at h1;have hk2:(Hg sp (b+k)).kd≤3:=by
    have:=b7 ((sp.map (·.kd)).getD (b+k) 0) (by
     rw[Aqy,Aqx Am];exact List.getElem_mem _)
    rw[hkd _ hlt] at this;exact this
   have hne:=hj (b+k) Ab Ab;have e1:Hs.getD (b+k+1) []=Hs.getD (b+k) []:=by
    match hq:(Hg sp (b+k)).kd,h1 with
    | 0,h1=>exact h1.1
    | 1,h1=>exact h1.1
    | 2,_=>exact absurd hq hne
    | 3,h1=>exact h1.1
    | q+4,_=>omega
   rw[show b+(k+1)=b+k+1 from Ab,e1];exact ih b Ab (λj h1 h2=>hj j h1 Ab)
 refine wp_region_any hm ?_;have main:∀(fuel:Nat) (listed:Array Bool) (a:Act) (w:World) (Z:Fz) (m:Nat),listed.size=Ae ops→listed.toList.count Ah=fuel→m≤Ae pre→
   St c (Hs.getD m []) Z w→Gl n l0 a Z→(∀j,j<Ae pre→listed.getD j Af=Af→∀d,Dw ops j=Ad d→∃v,a.tmps[d]? =Ad v∧(Hg sp j).r.p Z v)→
   (∀j,j<Ae pre→(Hg sp j).kd=2→(listed.getD j Af=Af↔j<m))→(∀j o,ops[j]? =Ad o→listed.getD j Af=Af→∀e∈E5 o,listed.getD e Af=Af)→
   (∀j,Ae pre≤j→j<Ae ops→listed.getD j Af=Ah)→wpAny P .any ops.toArray Q fuel listed a w:=by
  have rdy:∀(listed:Array Bool),listed.size=Ae ops→Region.ready .any ops.toArray listed=[]→∀j,j<Ae ops→listed.getD j Af=Af:=by
   intro listed hsz hr j
   induction j using Nat.strongRecOn with
   | ind j ih=>
    intro hj
    cases hb:listed.getD j Af with
    | true=>rfl
    | false=>
     have:j∈Region.ready .any ops.toArray listed:=mem_ready.2 ⟨hb,ops[j],by simp[hj],λe he hbn=>by
      have h1:=b1 j hj;rw[Aqy,Aqx hj] at h1;have hlt:e.on<j:=h1 e.on (by
       simp only[E5,AqE,List.mem_map,List.mem_filter];exact⟨e,⟨by simpa using he,hbn⟩,rfl⟩)
      have:=ih e.on hlt Ab;rw[Array.getD_eq_getD_getElem?] at this ⊢;rw[Array.getElem?_eq_getElem Ab] at this ⊢;simpa using this⟩
     rw[hr] at this;cases this
  have fin:∀(listed:Array Bool) (a:Act) (w:World) (Z:Fz) (m:Nat),listed.size=Ae ops→m≤Ae pre→St c (Hs.getD m []) Z w→Gl n l0 a Z→(∀j,j<Ae pre→listed.getD j Af=Af)→
    (∀j,j<Ae pre→listed.getD j Af=Af→∀d,Dw ops j=Ad d→∃v,a.tmps[d]? =Ad v∧(Hg sp j).r.p Z v)→
    (∀j,j<Ae pre→(Hg sp j).kd=2→(listed.getD j Af=Af↔j<m))→wpList P ops.toArray Q last a w:=by
   intro listed a w Z m hsz hmN hst hag hall hv hloud;refine h a w Z (Pq hag (λj hj d hd=>hv j (by simpa using hj) (hall j (by simpa using hj)) d hd)) ?_;have:=hconst (Ae pre-m) m Ab (λj h1 h2 h3=>by
    have:=(hloud j Ab h3).1 (hall j Ab);omega)
   rw[show m+(Ae pre-m)=Ae pre from Ab] at this;rw[this];exact hst
  intro fuel
  induction fuel with
  | zero=>
   intro listed a w Z m hsz hcnt hmN hst hag hv hloud hcl hlast;have hall:∀j,j<Ae ops→listed.getD j Af=Af:=λj hj=>by
    cases hb:listed.getD j Af with
    | true=>rfl
    | false=>
     have:Ah∈listed.toList:=by
      rw[Array.getD_eq_getD_getElem?,Array.getElem?_eq_getElem Ab] at hb;simp at hb;rw[← hb];simp
     have:=List.count_pos_iff.2 this;omega
   have hl0':last=[]:=by
    cases last with
    | nil=>rfl
    | cons o r=>
     have hlt:Ae pre<Ae ops:=by rw[← hops];simp
     have:=hall (Ae pre) hlt;rw[hlast (Ae pre) (Aq7 _) hlt] at this;cases this
   subst hl0';refine⟨?_,fin listed a w Z m hsz hmN hst hag (λj hj=>hall j Ab) hv hloud⟩
   cases hr:Region.ready .any ops.toArray listed with
   | nil=>rfl
   | cons i r=>
    have hi:i∈Region.ready .any ops.toArray listed:=by rw[hr];simp
    obtain⟨h1,o,ho,_⟩:=mem_ready.1 hi;rw[hall i (by have:=(Array.getElem?_eq_some_iff.1 ho).1;simpa using this)] at h1;cases h1
  | succ fuel ih=>
   intro listed a w Z m hsz hcnt hmN hst hag hv hloud hcl hlast;have clo:∀(j i:Nat),((Qn ops []).getD j 0).testBit i=Af→listed.getD j Af=Af→listed.getD i Af=Af:=
    JA ops (λi=>listed.getD i Af=Af) ops [] (λt o ht e he hF=>hcl t o ht (by simpa using hF) e he) (λj i hb=>by simp at hb)
   refine⟨λhr=>?_,λi hi=>?_⟩
   ·have hall:=rdy listed hsz hr;have:listed.toList.count Ah=0:=by
     rw[List.count_eq_zero];intro hmem;obtain⟨k,hk⟩:=List.getElem?_of_mem hmem;have hkl:=(List.getElem?_eq_some_iff.1 hk).1;have:=hall k (by simpa[hsz] using hkl);rw[Array.getD_eq_getD_getElem?] at this;simp at hk this;rw[hk] at this;simp at this
    omega
   ·obtain⟨hun,o,ho,haft⟩:=mem_ready.1 hi;have ho':ops[i]? =Ad o:=by simpa using ho
    have hil:i<Ae ops:=(List.getElem?_eq_some_iff.1 ho').1;have hbl:∀e∈E5 o,listed.getD e Af=Af:=λe he=>by
     simp only[E5,List.mem_map,List.mem_filter] at he;obtain⟨x,⟨hx1,hx2⟩,rfl⟩:=he;have h3:=haft x (by simpa using hx1) hx2;rw[Array.getD_eq_getD_getElem?] at h3 ⊢
     cases hq:listed[x.on]? with
     | none=>rw[hq] at h3;cases h3
     | some b=>rw[hq] at h3;simpa using h3
    have hset:∀j,(listed.setIfInBounds i Af).getD j Af=Af↔(j=i∨listed.getD j Af=Af):=λj=>by
     by_cases hj:i=j
     ·subst hj;have:i<listed.size:=Ab
      simp[this]
     ·rw[getD_set_ne Af hj];constructor
      ·exact .inr
      ·rintro(h1 | h1)
       ·exact absurd h1.symm hj
       ·exact h1
    have hsz':(listed.setIfInBounds i Af).size=Ae ops:=by simpa using hsz
    have hcnt':(listed.setIfInBounds i Af).toList.count Ah=fuel:=by
     have hlt:i<listed.size:=Ab
     have hfi:listed.toList[i]? =Ad Ah:=by
      rw[Array.getD_eq_getD_getElem?,Array.getElem?_eq_getElem hlt] at hun;simp at hun;simp[hlt,hun]
     rw[Array.toList_setIfInBounds];have h1:=List.count_set (a:=Af) (b:=Ah) (l:=listed.toList) (i:=i) (by simpa using hlt);have h2:listed.toList[i]'(by simpa using hlt)=Ah:=by
      have:=List.getElem?_eq_some_iff.1 hfi;exact this.2
     rw[h1,h2,hcnt];rfl
    have hcl':∀j o,ops[j]? =Ad o→(listed.setIfInBounds i Af).getD j Af=Af→∀e∈E5 o,(listed.setIfInBounds i Af).getD e Af=Af:=λj o' hj hl e he=>by
     rw[hset] at hl ⊢;rcases hl with rfl | hl
     ·rw[ho'] at hj;simp at hj;subst hj;exact .inr (hbl e he)
     ·exact .inr (hcl j o' hj hl e he)
    unfold wpOp;have hoA:ops.toArray[i]? =Ad o:=ho;simp only[hoA]
    by_cases hiN:i<Ae pre
    · -- one of those at the front
     have hpre:pre[i]? =Ad o:=by rw[← hget i hiN];exact ho'
     have h1:=hat i o hpre;rw[AqT] at h1;have hag':Gl n (Di ops sp (Hg sp i).deps l0) a Z:=Pq hag (λj hj d hd=>by
      have h3:=b3 i hiN;rw[hdp i hiN] at h3;have h4:=h3 j hj;rw[Aqy,ho',AqE,List.contains_iff_mem] at h4;have hlj:=hbl j h4;have hji:j<i:=by
       have:=b1 i hil;rw[Aqy,ho',AqE] at this;exact this j h4
      exact hv j Ab hlj d hd)
     have hdst:∀d,o.dst=Ad d→(d<n∧d ∉ Hz l0)∧∀j,j<Ae pre→j≠i→Dw ops j≠Ad d:=λd hd=>by
      have h3:=b2 i hiN;have:Dw ops i=Ad d:=by simp[Dw,ho',hd]
      rw[this] at h3;simp only[Aqu,Aq6,AqX,List.mem_range,Aqq] at h3;refine⟨⟨h3.1.1,λhmem=>by rw[← List.contains_iff_mem] at hmem;rw[hmem] at h3;cases h3.1.2⟩,λj hj hne he=>?_⟩;have:=h3.2 j hj;simp[hne,he] at this
     have after:∀(v:Value) (w':World) (Z':Fz) (m':Nat),m'≤Ae pre→Fz.le Z Z'→(o.dst≠Ai→(Hg sp i).r.p Z' v)→St c (Hs.getD m' []) Z' w'→
       (∀j,j<Ae pre→(Hg sp j).kd=2→((listed.setIfInBounds i Af).getD j Af=Af↔j<m'))→wpAny P .any ops.toArray Q fuel (listed.setIfInBounds i Af) (a.put o.dst v) w':=by
      intro v w' Z' m' hm' hz hp hst' hloud';have hput:∀k u,a.tmps[k]? =Ad u→o.dst≠Ad k→(a.put o.dst v).tmps[k]? =Ad u:=λk u hk hne=>by
       cases hd:o.dst with
       | none=>simpa[Act.put] using hk
       | some d=>
        simp only[Act.put,Array.getElem?_setIfInBounds];rw[AqM (λe=>hne (by rw[hd,e]))];exact hk
      refine ih _ _ _ Z' m' hsz' hcnt' hm' hst' ⟨?_,?_,λk r hk=>?_⟩ (λj hj hl d hd=>?_) hloud' hcl' (λj h1 h2=>?_)
      ·cases o.dst<;>simp[Act.put,hag.size]
      ·cases o.dst<;>simp[Act.put,hag.defers]
      ·obtain⟨u,hu,hpu⟩:=hag.tm k r hk;exact⟨u,hput k u hu (λe=>(hdst k e).1.2 (Om hk)),r.mono hz hpu⟩
      ·by_cases hji:j=i
       ·subst hji;have hod:o.dst=Ad d:=by simpa[Dw,ho'] using hd
        refine⟨v,?_,hp (by simp[hod])⟩;have hdn:d<a.tmps.size:=by rw[hag.size];exact(hdst d hod).1.1
        simp[Act.put,hod,hdn]
       ·rw[hset] at hl;rcases hl with hl | hl
        ·exact absurd hl hji
        ·obtain⟨u,hu,hpu⟩:=hv j hj hl d hd;exact⟨u,hput d u hu (λe=>(hdst d e).2 j hj hji hd),(Hg sp j).r.mono hz hpu⟩
      ·rw[getD_set_ne Af Ab];exact hlast j h1 h2
     have loudSame:(Hg sp i).kd≠2→∀j,j<Ae pre→(Hg sp j).kd=2→((listed.setIfInBounds i Af).getD j Af=Af↔j<m):=λhne j hj hk=>by
      rw[hset,← hloud j hj hk];constructor
      ·rintro(h1 | h1)
       ·subst h1;exact absurd hk hne
       ·exact h1
      ·exact .inr
     have level:(Hg sp i).kd≠0∧(Hg sp i).kd≠3→Hs.getD i []=Hs.getD m []∧∀j,j<Ae pre→(Hg sp j).kd=2→j≠i→(listed.getD j Af=Af↔j<i):=λhne=>by
      have ord:∀j,j<Ae pre→(Hg sp j).kd=2→j≠i→(listed.getD j Af=Af↔j<i):=λj hj hk hji=>by
       have h3:=b4 i hiN;rw[hkd i hiN,AqF,AqF,beq_iff_eq,beq_iff_eq] at h3;rcases h3 with(h3 | h3) | h3
       ·exact absurd h3 hne.1
       ·exact absurd h3 hne.2
       ·rw[AqX] at h3;have h4:=h3 j (by simpa using hj);rw[hkd j hj,hk] at h4;simp only[bne_self_eq_false,Aq9,AqF,beq_iff_eq,hji,false_or] at h4
        by_cases hlt:j<i
        ·rw[Arc hlt] at h4;have:listed.getD j Af=Af:=by
          have hcl2:∀(k q:Nat),((Qn ops []).getD k 0).testBit q=Af→(k=i∨listed.getD k Af=Af)→(q=i∨listed.getD q Af=Af):=
           JA ops (λk=>k=i∨listed.getD k Af=Af) ops [] (λt o' ht e he hF=>by
            rcases hF with hF | hF
            ·simp at hF;subst hF;rw[ho'] at ht;simp at ht;subst ht;exact .inr (hbl e he)
            ·exact .inr (hcl t o' ht (by simpa using hF) e he)) (λj i hb=>by simp at hb)
          rcases hcl2 i j h4 (.inl rfl) with h5 | h5
          ·exact absurd h5 hji
          ·exact h5
         exact⟨λ_=>hlt,λ_=>this⟩
        ·rw[AqM hlt] at h4;refine⟨λh5=>?_,λh5=>absurd h5 hlt⟩;have:=clo j i h4 h5;rw[this] at hun;cases hun
      refine⟨?_,ord⟩;rcases Nat.le_total m i with hmi | hmi
      ·have:=hconst (i-m) m Ab (λj h1 h2 h3=>by
        have h4:=(ord j Ab h3 Ab).2 Ab;have:=(hloud j Ab h3).1 h4;omega)
       rw[show m+(i-m)=i from Ab] at this;exact this
      ·have:=hconst (m-i) i Ab (λj h1 h2 h3=>by
        have h4:=(hloud j Ab h3).2 Ab
        by_cases hji:j=i
        ·subst hji;rw[h4] at hun;cases hun
        ·have:=(ord j Ab h3 hji).1 h4;omega)
       rw[show i+(m-i)=m from Ab] at this;exact this.symm
     have step:∀H',GA P n c ops.toArray Q (Di ops sp (Hg sp i).deps l0) (Hs.getD m []) o (Hg sp i).r H'→(∃m',m'≤Ae pre∧H'=Hs.getD m' []∧∀j,j<Ae pre→(Hg sp j).kd=2→((listed.setIfInBounds i Af).getD j Af=Af↔j<m'))→
       (if Region.wanted o (yielded ops.toArray a.tmps) then o.wp P a w (wpAny P .any ops.toArray Q fuel (listed.setIfInBounds i Af)) Q∨(o.asks P a w∧LetsOut Q) else wpAny P .any ops.toArray Q fuel (listed.setIfInBounds i Af) (a.put o.dst undef) w):=λH' hok ⟨m',hm',hHm,hl'⟩=>by
      obtain⟨k1,k2⟩:=hok a w Z (wpAny P .any ops.toArray Q fuel (listed.setIfInBounds i Af)) hag' hst (λv w' Z' hz hp hs=>after v w' Z' m' hm' hz (λ_=>hp) (by rw[← hHm];exact hs) hl')
      split
      ·rename_i hw';exact .inl (k1 hw')
      ·rename_i hw';exact k2 (by simpa using hw')
     have hk2:(Hg sp i).kd≤3:=by
      have:=b7 ((sp.map (·.kd)).getD i 0) (by
       rw[Aqy,Aqx Am];exact List.getElem_mem _)
      rw[hkd _ hiN] at this;exact this
     match hq:(Hg sp i).kd,h1 with
     | 0,h1=>exact step _ (h1.2 _) ⟨m,hmN,rfl,loudSame Ab⟩
     | 1,h1=>
      obtain⟨e1,e2⟩:=level ⟨Ab,Ab⟩;refine step _ (by rw[← e1];exact h1.2) ⟨m,hmN,e1,loudSame Ab⟩
     | 2,h1=>
      obtain⟨e1,e2⟩:=level ⟨Ab,Ab⟩;refine step _ (by rw[← e1];exact h1) ⟨i+1,Ab,rfl,λj hj hk=>?_⟩;rw[hset]
      by_cases hji:j=i
      ·subst hji;simp
      ·rw[e2 j hj hk hji];simp[hji];omega
     | 3,h1=>exact step _ (h1.2 _ (by
      rw[Aqy,Aqx Ab];exact List.getElem_mem _)) ⟨m,hmN,rfl,loudSame Ab⟩
     | q+4,_=>omega
    · -- the last one
     have hNi:i=Ae pre:=Ab
     have hlast1:∃r,last=o::r:=by
      cases last with
      | nil=>rw[← hops] at hil;simp at hil;omega
      | cons o' r=>
       rw[← hops,hNi] at ho';simp at ho';exact⟨r,by rw[ho']⟩
     obtain⟨r,rfl⟩:=hlast1;have hr:r=[]:=by
      have:=b6;rw[← hops] at this;simp at this
      cases r with
      | nil=>rfl
      | cons _ _=>simp at this
     subst hr;have hall:∀j,j<Ae pre→listed.getD j Af=Af:=λj hj=>by
      have hcl2:∀(k q:Nat),((Qn ops []).getD k 0).testBit q=Af→(k=i∨listed.getD k Af=Af)→(q=i∨listed.getD q Af=Af):=
       JA ops (λk=>k=i∨listed.getD k Af=Af) ops [] (λt o' ht e he hF=>by
        rcases hF with hF | hF
        ·simp at hF;subst hF;rw[ho'] at ht;simp at ht;subst ht;exact .inr (hbl e he)
        ·exact .inr (hcl t o' ht (by simpa using hF) e he)) (λj i hb=>by simp at hb)
      have h5:=b5 i hil;simp only[AqF,Aqq,AqX,List.mem_range] at h5;rcases h5 with h5 | h5
      ·omega
      ·rcases hcl2 i j (h5 j hj) (.inl rfl) with h6 | h6
       ·omega
       ·exact h6
     have hf:=fin listed a w Z m hsz hmN hst hag hall hv hloud;have kk:∀a' w',Q .normal a' w'→wpAny P .any ops.toArray Q fuel (listed.setIfInBounds i Af) a' w':=λa' w' hq=>by
      have hall':∀j,j<Ae ops→(listed.setIfInBounds i Af).getD j Af=Af:=λj hj=>by
       rw[hset]
       by_cases hji:j=i
       ·exact .inl hji
       ·refine .inr (hall j ?_);have:Ae ops=Ae pre+1:=by rw[← hops];simp
        omega
      have hnr:Region.ready .any ops.toArray (listed.setIfInBounds i Af)=[]:=by
       cases hr:Region.ready .any ops.toArray (listed.setIfInBounds i Af) with
       | nil=>rfl
       | cons k r=>
        have hk:k∈Region.ready .any ops.toArray (listed.setIfInBounds i Af):=by rw[hr];simp
        obtain⟨h1,o2,ho2,_⟩:=mem_ready.1 hk;rw[hall' k (by have:=(Array.getElem?_eq_some_iff.1 ho2).1;simpa using this)] at h1;cases h1
      cases fuel with
      | zero=>exact⟨hnr,hq⟩
      | succ f=>exact⟨λ_=>hq,λk hk=>by rw[hnr] at hk;cases hk⟩
     simp only[wpList] at hf
     split
     ·rename_i hw'
      rw[Arc hw'] at hf;exact hf.imp (λh=>Oper.wp_mono kk h) (λh=>h)
     ·rename_i hw'
      rw[AqM hw'] at hf;exact kk _ _ hf
 have e0:∀j,j<Ae ops→(Array.replicate (Ae ops) Ah).getD j Af=Ah:=λj hj=>by simp[hj]
 have hsz0:ops.toArray.size=Ae ops:=Aj
 rw[hsz0];refine main (Ae ops) (Array.replicate (Ae ops) Ah) a _ Z 0 Aj Aj (AqL _) (by rw[hH];exact hw.drawn _) (ha.subL hl0) (λj hj hl=>?_) (λj hj _=>?_) (λj o hj hl=>?_) (λj _ h2=>e0 j h2)
 ·rw[e0 j Ab] at hl;cases hl
 ·rw[e0 j Ab];simp
 ·rw[e0 j (List.getElem?_eq_some_iff.1 hj).1] at hl;cases hl
section
variable {ops : List Oper} {sp : List Sp} {l0 l : Fr} {H H' : List Ent} {Hs All : List (List Ent)} {i : Nat} {o : Oper} {rest all : List Oper}
theorem Aas (hk:(Hg sp i).kd=0)(h:∀H,GA P n c opsA Q (Di all sp (Hg sp i).deps l0) H o (Hg sp i).r H)(hr:Zh P n c opsA Q all sp l0 All (i+1) rest (H::Hs)):Zh P n c opsA Q all sp l0 All i (o::rest) (H::H::Hs):=by
 refine⟨?_,hr⟩;rw[hk];exact⟨rfl,h⟩
theorem Aoe (hk:(Hg sp i).kd=1)(h:GA P n c opsA Q (Di all sp (Hg sp i).deps l0) H o (Hg sp i).r H)(hr:Zh P n c opsA Q all sp l0 All (i+1) rest (H::Hs)):Zh P n c opsA Q all sp l0 All i (o::rest) (H::H::Hs):=by
 refine⟨?_,hr⟩;rw[hk];exact⟨rfl,h⟩
theorem Od (hk:(Hg sp i).kd=2)(h:GA P n c opsA Q (Di all sp (Hg sp i).deps l0) H o (Hg sp i).r H')(hr:Zh P n c opsA Q all sp l0 All (i+1) rest (H'::Hs)):Zh P n c opsA Q all sp l0 All i (o::rest) (H::H'::Hs):=by
 refine⟨?_,hr⟩;rw[hk];exact h
theorem Kt:Zh P n c opsA Q all sp l0 All i [] [H]:=trivial
def S5:List Oper→List Sp→Fr→Fr
 | o::os,s::sp,l=>match o.dst with
  | some d=>(d,s.r)::S5 os sp l
  | none=>S5 os sp l
 | _,_,l=>l
theorem Zn {all:List Oper}{sp:List Sp}{l0:Fr}:∀(os:List Oper) (ss:List Sp) (k:Nat),os=all.drop k→ss=sp.drop k→Ae ss=Ae os→Di all sp (List.range' k (Ae os)) l0=S5 os ss l0
 | [],_,_,_,_,_=>by cases ‹List Sp›<;>rfl
 | o::os,[],_,_,_,h=>by simp at h
 | o::os,s::ss,k,ho,hs,h=>by
  have e1:all[k]? =Ad o:=by
   have:=congrArg (·[0]?) ho;simp at this;exact this.symm
  have e2:sp[k]? =Ad s:=by
   have:=congrArg (·[0]?) hs;simp at this;exact this.symm
  have ih:=Zn (l0:=l0) os ss (k+1) (by have:=congrArg List.tail ho;simpa using this) (by have:=congrArg List.tail hs;simpa using this) (by simpa using h);simp only[Aqp,List.range'_succ];unfold Di S5;rw[ih];simp only[Dw,Hg,e1,e2,Option.bind_some,Aqy,AqE]
  cases o.dst<;>rfl
structure Kz (ks:List Nat) (os:List Oper) (sp:List Sp) (l0 l1:Fr):Prop where
 go:Kp ks (S5 os sp l0) l1
theorem AmS {d:Nat}{ty:TypeId}{ds:List Nat}{kd:Nat}{sp:List Sp}{l0:Fr}(h:ks.contains d=Af)(t:Kz ks os sp l0 l1) :
  Kz ks ({ dst:=Ad d,op:=op,type:=ty,pos:=pos,after:=af,guard:=g }::os) (⟨ds,r,kd⟩::sp) l0 ((d,r)::l1):=⟨Ps h t.go⟩
theorem AmU {d:Nat}{ty:TypeId}{ds:List Nat}{kd:Nat}{sp:List Sp}{l0:Fr}(h:ks.contains d=Ah)(t:Kz ks os sp l0 l1) :
  Kz ks ({ dst:=Ad d,op:=op,type:=ty,pos:=pos,after:=af,guard:=g }::os) (⟨ds,r,kd⟩::sp) l0 l1:=⟨Rq h t.go⟩
theorem AmT {ty:TypeId}{s:Sp}{sp:List Sp}{l0:Fr}(t:Kz ks os sp l0 l1) :
  Kz ks ({ dst:=Ai,op:=op,type:=ty,pos:=pos,after:=af,guard:=g }::os) (s::sp) l0 l1:=⟨t.go⟩
theorem AmV {l0:Fr}(t:Kp ks l0 l1):Kz ks [] [] l0 l1:=⟨t⟩
theorem KS {l0:Fr}(ks0:List Nat)(sp:List Sp)(Hs:List (List Ent))(ks:List Nat)
  (hob:Zh P n c os.toArray Q os sp l0 Hs 0 os Hs) (h:WK n c (Q .normal) l1 H1)
  (h0:Kp ks0 l l0:=by repeat (first | exact Sh | (apply Ps;rfl) | (apply Rq;rfl)))
  (hz:Kz ks os sp l0 l1:=by repeat (first | (apply AmS;rfl) | (apply AmU;rfl) | apply AmT | apply AmV | exact Sh | (apply Ps;rfl) | (apply Rq;rfl)))
  (hm:P.follows .mixedOrders=Af:=by kernel_rfl) (hB:okB n os (Ae os) (Hz l0) (sp.map (·.deps)) (sp.map (·.kd))=Af:=by kernel_rfl)
  (hsp:Ae sp=Ae os:=by rfl) (hH:Hs.getD 0 []=H:=by rfl) (hH1:Hs.getD (Ae os) []=H1:=by rfl):WC P n c (.region id os.toArray Af) Q l H:=by
 have hk:WK n c (Q .normal) (Di os sp (As (Ae os)) l0) (Hs.getD (Ae os) []):=λa w Z ha hw=>h a w Z (ha.subL (by
   have e:=Zn (all:=os) (sp:=sp) (l0:=l0) os sp 0 Aj Aj hsp;rw[List.range_eq_range',e];exact hz.go.one)) (by rw[← hH1];exact hw)
 have:=SB (Q:=Q) (id:=id) (pre:=os) (last:=[]) sp Hs (l0:=l0) (l:=l) (H:=H) hm (by simpa using hB) h0.one hsp hH (by simpa using hob) (AD (by simpa using hk));simpa using this
theorem O7 {l0:Fr}(N:Nat)(ks0:List Nat)(sp:List Sp)(Hs:List (List Ent))(ks:List Nat)
  (hob:Zh P n c os.toArray Q os sp l0 Hs 0 (os.take N) Hs) (h:WL P n c os.toArray Q (os.drop N) l1 H1)
  (h0:Kp ks0 l l0:=by repeat (first | exact Sh | (apply Ps;rfl) | (apply Rq;rfl)))
  (hz:Kz ks (os.take N) sp l0 l1:=by repeat (first | (apply AmS;rfl) | (apply AmU;rfl) | apply AmT | apply AmV | exact Sh | (apply Ps;rfl) | (apply Rq;rfl)))
  (hm:P.follows .mixedOrders=Af:=by kernel_rfl) (hN:Nat.ble N (Ae os)=Af:=by rfl) (hB:okB n os N (Hz l0) (sp.map (·.deps)) (sp.map (·.kd))=Af:=by kernel_rfl)
  (hsp:Ae sp=N:=by rfl) (hH:Hs.getD 0 []=H:=by rfl) (hH1:Hs.getD N []=H1:=by rfl):WC P n c (.region id os.toArray Af) Q l H:=by
 have hN':N≤Ae os:=by simpa using hN
 have hl:Ae (os.take N)=N:=by simp[hN']
 have hk:WL P n c os.toArray Q (os.drop N) (Di os sp (As N) l0) (Hs.getD N []):=λa w Z ha hw=>h a w Z (ha.subL (by
  have key:∀M,M≤N→Di os sp (List.range' (N-M) M) l0=S5 ((os.take N).drop (N-M)) (sp.drop (N-M)) l0:=by
   intro M
   induction M with
   | zero=>intro _;simp[hsp,Di,S5,List.drop_of_length_le,hl]
   | succ M ih=>
    intro hM;have ih:=ih Ab;have e1:(os.take N).drop (N-(M+1))=(os[N-(M+1)]'(Ab))::(os.take N).drop (N-M):=by
     rw[List.drop_eq_getElem_cons Ab];simp[show N-(M+1)+1=N-M from Ab]
    have e2:sp.drop (N-(M+1))=(sp[N-(M+1)]'(Ab))::sp.drop (N-M):=by
     rw[List.drop_eq_getElem_cons Ab];simp[show N-(M+1)+1=N-M from Ab]
    rw[List.range'_succ,show N-(M+1)+1=N-M from Ab,e1,e2];unfold Di S5;rw[ih];simp only[Dw,Hg,Aqy,Aqx (show N-(M+1)<Ae os from Ab),Aqx (show N-(M+1)<Ae sp from Ab),Option.bind_some,AqE]
    cases(os[N-(M+1)]'(Ab)).dst<;>rfl
  have:=key N (Aq7 _);simp only[Nat.sub_self,List.drop_zero] at this;rw[List.range_eq_range',this];exact hz.go.one)) (by rw[← hH1];exact hw)
 have:=SB (P:=P) (n:=n) (c:=c) (Q:=Q) (id:=id) (pre:=os.take N) (last:=os.drop N) sp Hs (l0:=l0) (l:=l) (H:=H) hm (by rw[Ard,hl];exact hB) h0.one (by rw[hl];exact hsp) hH (by rw[Ard];exact hob) (by rw[Ard,hl];exact hk)
 rwa [Ard] at this
end
section
variable {l : Fr} {H H' : List Ent} {d : Nat} {op : Op} {ty : TypeId} {pos : String} {af : Array Edge} {r : Rp}
theorem ET (hr:Ck P n c l H { dst:=Ad d,op:=op,type:=ty,pos:=pos,after:=af,guard:=Ai } r):GA P n c opsA Q l H { dst:=Ad d,op:=op,type:=ty,pos:=pos,after:=af,guard:=Ai } r H:=λa w Z K ha hw hK=>
 ⟨λ_=>by
  obtain⟨v,hv,he⟩:=hr a w Z ha hw;unfold Oper.wp;rw[he];exact hK v w Z (Fz.le.refl _) hv hw,λh=>by simp[Region.wanted] at h⟩
theorem AlU {d:Option Nat}{b:Bool}(hj:Eu opsA j=Ad dj)(hv:look l dj=Ad (rB b))(hb:b=want)
  (h:GA P n c opsA Q l H { dst:=d,op:=op,type:=ty,pos:=pos,after:=af,guard:=Ai } r H'):GA P n c opsA Q l H { dst:=d,op:=op,type:=ty,pos:=pos,after:=af,guard:=Ad (j,want) } r H':=λa w Z K ha hw hK=>by
 obtain⟨h1,_⟩:=h a w Z K ha hw hK;have hy:=GH ha hj hv;subst hb;refine⟨λ_=>h1 (by simp[Region.wanted]),λh2=>?_⟩;simp[Region.wanted,hy] at h2
theorem AmC {d:Option Nat}{b:Bool}(hj:Eu opsA j=Ad dj)(hv:look l dj=Ad (rB b))(hb:b = !want):GA P n c opsA Q l H { dst:=d,op:=op,type:=ty,pos:=pos,after:=af,guard:=Ad (j,want) } (rv undef) H:=λa w Z K ha hw hK=>by
 have hy:=GH ha hj hv;subst hb;refine⟨λh2=>?_,λ_=>hK undef w Z (Fz.le.refl _) rfl hw⟩;simp[Region.wanted,hy] at h2
theorem AhQ {d:Option Nat}(hj:Eu opsA j=Ad dj)(hv:look l dj=Ad (rv undef)):GA P n c opsA Q l H { dst:=d,op:=op,type:=ty,pos:=pos,after:=af,guard:=Ad (j,want) } (rv undef) H:=λa w Z K ha hw hK=>by
 have hy:=JC ha hj hv;refine⟨λh2=>?_,λ_=>hK undef w Z (Fz.le.refl _) rfl hw⟩;simp[Region.wanted,hy] at h2
theorem oq {all:List Oper}{sp:List Sp}{rest:List Oper}{Hs All:List (List Ent)}{c:Cx}
  (hr:∀{H},Ck P n c (Di all sp (Hg sp i).deps l0) H { dst:=Ad d,op:=op,type:=ty,pos:=pos,after:=af,guard:=Ai } (Hg sp i).r)
  (h:Zh P n c opsA Q all sp l0 All (i+1) rest (H::Hs)) (hk:(Hg sp i).kd=0:=by rfl):Zh P n c opsA Q all sp l0 All i ({ dst:=Ad d,op:=op,type:=ty,pos:=pos,after:=af,guard:=Ai }::rest) (H::H::Hs):=Aas hk (λ_=>ET hr) h
theorem of {all:List Oper}{sp:List Sp}{rest:List Oper}{Hs All:List (List Ent)}{c:Cx}
  (hr:Ck P n c (Di all sp (Hg sp i).deps l0) H { dst:=Ad d,op:=op,type:=ty,pos:=pos,after:=af,guard:=Ai } (Hg sp i).r)
  (h:Zh P n c opsA Q all sp l0 All (i+1) rest (H::Hs)) (hk:(Hg sp i).kd=1:=by rfl):Zh P n c opsA Q all sp l0 All i ({ dst:=Ad d,op:=op,type:=ty,pos:=pos,after:=af,guard:=Ai }::rest) (H::H::Hs):=Aoe hk (ET hr) h
theorem CQ {t e sz len:Nat}{xs:List Operand}{css:List (List Rp)}{zz:Value}(ht:P.underlying t=Ad (.slice e))(hz:∀w,(sizeOf e).run P w = .ok sz w)(hzv:∀w,(zeroValue e).run P w = .ok zz w)
  (hparts:parts.toList=(xs.zipIdx 0).map λp=>(p.2,p.1)) (hlen:Ae ys=len) (hv:R0 l xs=Ad rs) (hc:Je H rs css) (hcs:css=ys.map enc) (henc:∀z,Ae (enc z)=sz) (hsz:Nat.blt 0 sz=Af) (hle:Nat.ble (len*sz) 16777216=Af):GA P n c opsA Q l H { dst:=Ad d,op:=.buildSlice t len parts,type:=ty,pos:=pos,after:=af,guard:=Ai } (Cg sz (ys.map enc)) H:=λa w Z K ha hw hK=>
 ⟨λ_=>by
  have hall:=JG ha hv;obtain⟨h1,h2,h3⟩:=hc.all hw hall;have hsz':0<sz:=by simpa using hsz
  have hle' : ¬ 16777216<len*sz:=by simpa using hle
  have hxl:Ae (xs.map a.eval)=len:=by rw[← h2,hcs,Aqz,hlen]
  have hcell:∀v∈xs.map a.eval,v.cells.size=sz:=λv hv'=>by
   obtain⟨i,hi⟩:=List.getElem?_of_mem hv';have hil:=(List.getElem?_eq_some_iff.1 hi).1;have hil2:i<Ae css:=Ab
   rw[h3 i css[i] v (Aqx hil2) hi];have:css[i]∈ys.map enc:=by rw[← hcs];exact List.getElem_mem hil2
   obtain⟨z,_,hz'⟩:=List.mem_map.1 this;rw[← hz'];exact henc z
  have hflen:Ae ((xs.map a.eval).flatMap λv=>v.cells.toList)=len*sz:=by
   rw[h1.length,KK (sz:=sz) (λc hc'=>by rw[hcs] at hc';obtain⟨z,_,hz'⟩:=List.mem_map.1 hc';rw[← hz'];exact henc z),hcs,Aqz,hlen]
  have hpe:(parts.map λ(i,x)=>(i,a.eval x)).toList=((xs.map a.eval).zipIdx 0).map λp=>(p.2,p.1):=by
   rw[Array.toList_map,hparts,List.zipIdx_map,Aro,Aro];rfl
  have hrun:(Instr.buildSlice t len (parts.map λ(i,x)=>(i,a.eval x))).run P w = .ok (.slice (Ad ⟨w.heap.size,0,Ai⟩) len len) (w.alloc (.cells ((xs.map a.eval).flatMap λv=>v.cells.toList).toArray e)):=by
   refine AbG ht hz hzv hle w ?_;rw[hpe]
   by_cases h0:len*sz=0
   ·have:len=0:=by
     rcases Nat.mul_eq_zero.1 h0 with h | h
     ·exact h
     ·omega
    subst this;have hx0:xs=[]:=by simpa using AqB (by simpa using hxl)
    subst hx0;simp[Instr.fill]
   ·simp only[h0,Arl];exact Great.fill_whole hsz' (xs.map a.eval) _ hcell (by rw[hxl];simp)
  have hal:St c (.row (.slice (Ad ⟨w.heap.size,0,Ai⟩) len len) e sz (ys.map enc)::H) Z (w.alloc (.cells ((xs.map a.eval).flatMap λv=>v.cells.toList).toArray e)):=by
   refine hw.alloc _ (e:=.row (.slice (Ad ⟨w.heap.size,0,Ai⟩) len len) e sz (ys.map enc)) ⟨?_,(xs.map a.eval).flatMap (λv=>v.cells.toList),⟨?_,.inr ⟨w.heap.size,len,_,?_,AqL _,heap_alloc_new w _,?_,?_,?_,?_⟩⟩,?_⟩ (by simp[Ent.foot,Value.ownBlock])
   ·intro cl hcl;obtain⟨z,_,hz'⟩:=List.mem_map.1 hcl;rw[← hz'];exact henc z
   ·rw[hflen,Aqz,hlen]
   ·rw[Aqz,hlen]
   ·rw[Aqz,hlen];exact Aq7 _
   ·have:len≤len*sz:=Nat.le_mul_of_pos_right _ hsz';simp only[maxLen];omega
   ·simpa using hflen
   ·rw[Aqz,hlen,← hflen];exact Arn
   ·rw[← hcs];exact h1
  obtain⟨Z',hz',hst,hsl⟩:=hal.freeze (i:=0) rfl;unfold Oper.wp;rw[show(execOp a.eval { dst:=Ad d,op:=.buildSlice t len parts,type:=ty,pos:=pos,after:=af,guard:=Ai }).run P w = .ok (.value (.slice (Ad ⟨w.heap.size,0,Ai⟩) len len)) (w.alloc (.cells ((xs.map a.eval).flatMap λv=>v.cells.toList).toArray e)) from by simp[execOp,hrun]];exact hK _ _ Z' hz' hsl hst,λh=>by simp[Region.wanted] at h⟩
theorem EU {r r':Rp}(hcall:∀(as1:Array Value) (w:World),(callFunc f as1).run P w = .ok (.enter f as1) w)(hv:R0 l args=Ad rs)
  (hc:Fn0 P c.E f rs r') (hr:r'=r):GA P n c opsA Q l H { dst:=Ad d,op:=.call { callee:=.value (.func f),args:=args.toArray,argTypes:=ats },type:=ty,pos:=pos,after:=af,guard:=Ai } r H:=λa w Z K ha hw hK=>
 ⟨λ_=>by
  unfold Oper.wp;rw[Iq rfl hcall w];refine(hc w Z _ (JG ha hv) (St.enter (Hin:=[]) (Hr:=H) hw)).mono ?_;rintro e w' ⟨r2,v,Ho,Z',rfl,⟨rfl,rfl⟩,hr2,hs⟩;subst hr;exact hK v w' Z' hs.le hr2 (by simpa using hw.call0 hs),λh=>by simp[Region.wanted] at h⟩
def Anv (P:Program)(n:Nat)(c:Cx)(l:Fr)(H:List Ent)(o:Oper)(H':List Ent):Prop:=∀a w Z,Gl n l a Z→St c H Z w→∃w',(execOp a.eval o).run P w = .ok .skip w'∧St c H' Z w'
theorem Yw (hr:Anv P n c l H { dst:=Ai,op:=op,type:=ty,pos:=pos,after:=af,guard:=Ai } H'):GA P n c opsA Q l H { dst:=Ai,op:=op,type:=ty,pos:=pos,after:=af,guard:=Ai } (rv undef) H':=λa w Z K ha hw hK=>
 ⟨λ_=>by
  obtain⟨w',he,hs⟩:=hr a w Z ha hw;unfold Oper.wp;rw[he];exact hK undef w' Z (Fz.le.refl _) rfl hs,λh=>by simp[Region.wanted] at h⟩
end
section
variable {ops : Array Oper} {rest : List Oper} {l : Fr} {H H' : List Ent} {d : Nat} {d' : Option Nat} {x y : Operand} {ty t t' e : TypeId} {pos : String} {af : Array Edge} {g : Option (Nat × Bool)} {v u : Value} {r : Rp} {sz : Nat}
theorem Pr (hag:∀w,(sizeOf t).run P w = .ok 1 w)(hx:ev l x=Ad (rv (.pointer (Ad ⟨b,off,Ai⟩))))(hy:ev l y=Ad r)(hv:Zg H r)
  (hi:H[i]? =Ad (.blk b cs e)) (hlt:Nat.blt off (Ae cs)=Af) {cs':List Rp} (hcs:cs.set off r=cs') (hH:H.set i (.blk b cs' e)=H'):Anv P n c l H { dst:=Ai,op:=.store t x y,type:=ty,pos:=pos,after:=af,guard:=Ai } H':=λa w Z ha hw=>by
  obtain⟨us,hb,h2⟩:=hw.ent hi;have hr:=ha.ev hy;have hone:=hv c Z w _ hw hr;have hlen:=h2.length;have hlt':off<Ae us:=by rw[hlen];simpa using hlt
  have h1:=run_storeCells_at P b off e [a.eval y] 0 us.toArray w hb Am (by simpa using hone);have hcv:=MN hone;have h3:us.take off++[a.eval y]++us.drop (off+1)=us.set off (a.eval y):=by
   simp[List.set_eq_take_append_cons_drop,hlt']
  simp only[Nat.add_zero,Aqp,Ari,AqT] at h1;rw[h3] at h1;refine⟨w.setRow b (us.set off (a.eval y)).toArray,?_,?_⟩
  ·simp[execOp,ha.eval hx,Instr.storeAt,Instr.sureAddr,storeVar,hag,hcv,h1]
  ·subst hH;subst hcs;refine hw.set hi rfl rfl rfl (by simp[World.setRow]) (λk _ hk=>?_) ⟨us.set off (a.eval y),setRow_heap w b _ _ e (0,0) hb,h2.set off hr⟩ (by simp[Ent.foot]);simp only[Ent.foot,AqG] at hk;simp only[World.setRow,Array.getElem?_modify];rw[AqM (λe=>hk e.symm)]
theorem Ie (hsz:∀w,(sizeOf t).run P w = .ok sz w)(hx:ev l x=Ad (rv (.pointer (Ad ⟨b,off,Ai⟩))))(hy:ev l y=Ad (Dr rs))
  (hl:Ae rs=sz) (hv:CB H rs) (hi:H[i]? =Ad (.blk b cs e)) (hlt:Nat.ble (off+sz) (Ae cs)=Af) {cs':List Rp}
  (hcs:cs.take off++rs++cs.drop (off+sz)=cs') (hH:H.set i (.blk b cs' e)=H'):Anv P n c l H { dst:=Ai,op:=.store t x y,type:=ty,pos:=pos,after:=af,guard:=Ai } H':=λa w Z ha hw=>by
  obtain⟨us,hb,h2⟩:=hw.ent hi;obtain⟨vs,e1,h4⟩:=ha.ev hy;have hlen:=h2.length;have hvl:=h4.length;have hlt':off+sz≤Ae us:=by rw[hlen];simpa using hlt
  have h1:=run_storeCells_at P b off e vs 0 us.toArray w hb Am (λv hv'=>hv.at hw h4 v hv');simp only[Nat.add_zero] at h1;refine⟨w.setRow b (us.take off++vs++us.drop (off+sz)).toArray,?_,?_⟩
  ·have h5:Ae vs=sz:=Ab
   rw[h5] at h1;simp only[Aq4] at h1 ⊢;simp[execOp,ha.eval hx,e1,Instr.storeAt,Instr.sureAddr,storeVar,hsz,Value.cells,h5,h1]
  ·subst hH;subst hcs;refine hw.set hi rfl rfl rfl (by simp[World.setRow]) (λk _ hk=>?_) ⟨us.take off++vs++us.drop (off+sz),setRow_heap w b _ _ e (0,0) hb,((h2.take off).append h4).append (h2.drop (off+sz))⟩ (by simp[Ent.foot]);simp only[Ent.foot,AqG] at hk;simp only[World.setRow,Array.getElem?_modify];rw[AqM (λe=>hk e.symm)]
end
end
theorem Mp (l:List UInt8):((E7 l).map CO).flatten=(l.map λc=>Value.int .u8 c.toNat).map rv:=by
 induction l with
 | nil=>rfl
 | cons c r ih=>simp only[E7,AqY,List.flatten_cons] at ih ⊢;rw[ih];rfl
theorem Ew (l:List UInt8):Ae (E7 l)=Ae l:=by simp[E7]
variable{s:List UInt8}
theorem Q7 {w:World}{t t' e:TypeId}{v:Value}{m:Nat}{us:List Value}(ty:TypeId)(ht:P.underlying t=Ad (.slice e))(hu:P.underlying t'=Ad .string)(hinf:P.info? e=Ad inf)(hz:inf.zero=Ad (.int .u8 0))(hsize:inf.size=1)(hby:inf.bytes=1)
  (hown:w.ownsRow 0 e 1 v m us) (hb:m+Ae s≤140737488355328) :
  ∃v' w',(Builtin.append_ #[t,t'] ty #[v,.string (B s)]).run P w = .ok v' w'∧w'.ownsRow 0 e 1 v' (m+Ae s) (us++s.map λc=>Value.int .u8 c.toNat)∧w.grownBy w' v.ownBlock∧(v'.ownBlock=v.ownBlock∨∀b,v'.ownBlock=Ad b→w.heap.size≤b):=by
 have hsz:(B s).size=Ae s:=I3 s;have hcells:Lib.strCells (B s)=s.map λc=>Value.int .u8 c.toNat:=by simp[Lib.strCells,B]
 rcases hown.2 with⟨rfl,rfl⟩ | ⟨g,cap,cur,rfl,hbg,hg,hnc,hcm,hcs,htake⟩
 ·have hx:us=[]:=AqB (by simpa using hown.1);subst hx;obtain⟨v',w',e1,e2,e3,_⟩:=Lib.run_append_own_string (P:=P) (w:=w) w.heap.size t t' ty e inf ht hu hinf hz hsize hby (.slice Ai 0 0) 0 [] (World.ownsRow_nil w _ e 1) (B s) (by rw[hsz];simp only[maxLen];omega) (by rw[hsz];omega) (Aq7 _);rw[hsz,hcells] at e2;refine⟨v',w',e1,⟨e2.1,?_⟩,e3,.inr λb hb=>(e2.lt b hb).1⟩;rcases e2.2 with h | ⟨g,cap,cur,h,_,rest⟩
  ·exact .inl h
  ·exact .inr ⟨g,cap,cur,h,AqL _,rest⟩
 ·obtain⟨v',w',e1,e2,e3,_⟩:=Lib.run_append_own_string (P:=P) (w:=w) 0 t t' ty e inf ht hu hinf hz hsize hby _ m us hown (B s) (by rw[hsz];simp only[maxLen];omega) (by rw[hsz];omega) (AqL _);rw[hsz,hcells] at e2;refine⟨v',w',e1,e2,e3,?_⟩
  by_cases hroom:m+(B s).size≤cap
  ·have hr:=Lib.run_append_room_string (P:=P) w t t' ty e inf ht hu hinf hsize g m cap cur hg (B s) hroom (by simp at hcs;omega);rw[hr] at e1;simp only[Result.ok.injEq] at e1;rw[← e1.1];exact .inl rfl
  ·have holds:∀j u,us[j]? =Ad u→w.cell? ((⟨g,0,Ai⟩:Addr).add j)=Ad u:=hown.cells (g:=g) rfl;have hr:=Lib.run_append_grow_string (P:=P) w t t' ty e inf (.int .u8 0) ht hu hinf hz ⟨g,0,Ai⟩ m cap us (by rw[hsize];exact hown.1) holds (B s) Ab (by rw[hsz];omega) (by rw[hby];exact growslice_fits Ab (by rw[hsz];omega));rw[hr] at e1;simp only[Result.ok.injEq] at e1;rw[← e1.1];exact .inr λb hb=>by simp[Value.ownBlock] at hb;omega
variable{Φ:Rp→List Ent→Prop}{te:TypeId}
section
variable {P : Program} {n : Nat} {c : Cx} {ops : Array Oper} {Q : Exit → Act → World → Prop} {rest : List Oper} {l : Fr} {H H' : List Ent} {d : Nat} {d' : Option Nat} {x y z3 : Operand} {ty t t' e : TypeId} {pos : String} {af : Array Edge} {g : Option (Nat × Bool)} {v u : Value} {r : Rp} {sz : Nat} {K : Act → World → Prop}
theorem St.tobld {Z:Fz}{w:World}(h:St c H Z w){T:TypeId}(hi:H[i]? =Ad (.blk b [rv (.pointer Ai),rv (.slice Ai 0 0)] T)):St c (H.set i (.bld T te b (.slice Ai 0 0) [])) Z w:=by
 refine h.set hi rfl rfl rfl (Aq7 _) (λ_ _ _=>rfl) ?_ (by simp[Ent.foot,Value.ownBlock]);obtain⟨us,h1,h2⟩:=h.ent hi;have:=BM.eq_rv (us:=[.pointer Ai,.slice Ai 0 0]) h2;subst this;exact⟨_,.inl rfl,h1,⟨Aj,.inl ⟨rfl,rfl⟩⟩,by simp[Value.ownBlock]⟩
theorem WK.tobld {i b:Nat}{te T:TypeId}(hi:H[i]? =Ad (.blk b [rv (.pointer Ai),rv (.slice Ai 0 0)] T))(h:WK n c K l (H.set i (.bld T te b (.slice Ai 0 0) []))):WK n c K l H:=λa w Z ha hw=>h a w Z ha (St.tobld hw hi)
theorem WL.tobld {i b:Nat}{te T:TypeId}(hi:H[i]? =Ad (.blk b [rv (.pointer Ai),rv (.slice Ai 0 0)] T))(h:WL P n c ops Q rest l (H.set i (.bld T te b (.slice Ai 0 0) []))):WL P n c ops Q rest l H:=λa w Z ha hw=>h a w Z ha (St.tobld hw hi)
theorem WC.tobld {xx:Code}{i b:Nat}{te T:TypeId}(hi:H[i]? =Ad (.blk b [rv (.pointer Ai),rv (.slice Ai 0 0)] T))(h:WC P n c xx Q l (H.set i (.bld T te b (.slice Ai 0 0) []))):WC P n c xx Q l H:=λa w Z ha hw=>h a w Z ha (St.tobld hw hi)
theorem Fn.bld {E:Fz→Prop}{f:FuncId}{args:List Rp}{T te:TypeId}{b:Nat}{v:Value}{s s':List UInt8}{res:Rp}
  (h:∀p,(p = .pointer Ai∨p = .pointer (Ad ⟨b,0,Ai⟩))→Fn P E f args [.blk b [rv p,rv v] T,.row v te 1 ((E7 s).map CO)] (λR H=>∃w0:Value,R=res∧H=[.blk b [rv (.pointer (Ad ⟨b,0,Ai⟩)),rv w0] T,.row w0 te 1 ((E7 s').map CO)])) :
  Fn P E f args [.bld T te b v s] (λR H=>∃w0:Value,R=res∧H=[.bld T te b w0 s']):=λw Z vs hv hs=>by
 obtain⟨p,hp,h1,h2,h3⟩:=hs.has _ (List.mem_singleton.2 rfl);have hfoot:[Ent.bld T te b v s].flatMap Ent.foot=[Ent.blk b [rv p,rv v] T,Ent.row v te 1 ((E7 s).map CO)].flatMap Ent.foot:=by simp[Ent.foot]
 have hs':St ⟨w,Z,[Ent.blk b [rv p,rv v] T,Ent.row v te 1 ((E7 s).map CO)].flatMap Ent.foot,E,[]⟩ [Ent.blk b [rv p,rv v] T,Ent.row v te 1 ((E7 s).map CO)] Z w:=by
  refine⟨rfl,rfl,rfl,Aq7 _,λ_ _ _=>rfl,?_,λe he k hk=>.inr (List.mem_flatMap.2 ⟨e,he,hk⟩),?_,hs.frz,Fz.le.refl _,λ_ _ e=>.inl e,λe he k hk=>?_,hs.env,hs.emono,RD.none rfl⟩
  ·intro e he;simp only[Ars,List.not_mem_nil,or_false] at he;rcases he with rfl | rfl
   ·exact⟨[p,v],h1,rfl,rfl,trivial⟩
   ·refine⟨λcl hcl=>by obtain⟨z,_,rfl⟩:=List.mem_map.1 hcl;rfl,_,by simpa[Ew] using h2,?_⟩;rw[Mp];exact BM.rvs Z _
  ·refine List.pairwise_cons.2 ⟨λe he k hk hk'=>?_,List.pairwise_singleton ..⟩;simp only[AqG] at he;subst he;simp only[Ent.foot,AqG] at hk;subst hk;simp only[Ent.foot,Option.mem_toList] at hk';exact h3 hk'
  ·have hmem:k∈[Ent.bld T te b v s].flatMap Ent.foot:=by rw[hfoot];exact List.mem_flatMap.2 ⟨e,he,hk⟩
   obtain⟨e',he',hk'⟩:=List.mem_flatMap.1 hmem;exact hs.zdis e' he' k hk'
 rw[hfoot] at hs ⊢;refine(h p hp w Z vs hv hs').mono λe w' ⟨R,vv,H,Z',he,⟨w0,hR,hH⟩,hpR,ht⟩=>⟨R,vv,[.bld T te b w0 s'],Z',he,⟨w0,hR,rfl⟩,hpR,?_⟩
 subst hH;obtain⟨us,k1,k2⟩:=ht.has (.blk b [rv (.pointer (Ad ⟨b,0,Ai⟩)),rv w0] T) Aj;obtain⟨k3,ws,k4,k5⟩:=ht.has (.row w0 te 1 ((E7 s').map CO)) Aj;have e1:=BM.eq_rv (us:=[.pointer (Ad ⟨b,0,Ai⟩),w0]) k2;subst e1;rw[Mp] at k5;have e2:=BM.eq_rv k5;subst e2;have hd:=List.pairwise_cons.1 ht.dis;have hne:w0.ownBlock≠Ad b:=λhb=>hd.1 _ (List.mem_singleton.2 rfl) b (by simp[Ent.foot]) (by simp[Ent.foot,hb]);refine { ht with has:=?_,own:=?_,dis:=List.pairwise_singleton ..,zdis:=?_,gst:=⟨by simp[Ent.gk],by simp[Ent.gk],List.pairwise_singleton ..,ht.gst.new,by simp[Ent.gk]⟩ }
 ·intro e' he';simp only[AqG] at he';subst he';exact⟨_,.inr rfl,k1,by simpa[Ew] using k4,hne⟩
 ·intro e' he' k hk;simp only[AqG] at he';subst he';simp only[Ent.foot,Ars] at hk;rcases hk with rfl | hk
  ·exact ht.own (.blk k [rv (.pointer (Ad ⟨k,0,Ai⟩)),rv w0] T) Aj k (by simp[Ent.foot])
  ·exact ht.own (.row w0 te 1 ((E7 s').map CO)) Aj k hk
 ·intro e' he' k hk;simp only[AqG] at he';subst he';simp only[Ent.foot,Ars] at hk;rcases hk with rfl | hk
  ·exact ht.zdis (.blk k [rv (.pointer (Ad ⟨k,0,Ai⟩)),rv w0] T) Aj k (by simp[Ent.foot])
  ·exact ht.zdis (.row w0 te 1 ((E7 s').map CO)) Aj k hk
theorem Fn.bldS {E:Fz→Prop}{args:List Rp}{T:TypeId}{v:Value}{res:Rp}
  (h:∀p,(p = .pointer Ai∨p = .pointer (Ad ⟨b,0,Ai⟩))→Fn P E f args [.blk b [rv p,rv v] T,.row v te 1 ((E7 s).map CO)] (λR H=>R=res∧H=[])) :
  Fn P E f args [.bld T te b v s] (λR H=>R=res∧H=[]):=λw Z vs hv hs=>by
 obtain⟨p,hp,h1,h2,h3⟩:=hs.has _ (List.mem_singleton.2 rfl);have hfoot:[Ent.bld T te b v s].flatMap Ent.foot=[Ent.blk b [rv p,rv v] T,Ent.row v te 1 ((E7 s).map CO)].flatMap Ent.foot:=by simp[Ent.foot]
 have hs':St ⟨w,Z,[Ent.blk b [rv p,rv v] T,Ent.row v te 1 ((E7 s).map CO)].flatMap Ent.foot,E,[]⟩ [Ent.blk b [rv p,rv v] T,Ent.row v te 1 ((E7 s).map CO)] Z w:=by
  refine⟨rfl,rfl,rfl,Aq7 _,λ_ _ _=>rfl,?_,λe he k hk=>.inr (List.mem_flatMap.2 ⟨e,he,hk⟩),?_,hs.frz,Fz.le.refl _,λ_ _ e=>.inl e,λe he k hk=>?_,hs.env,hs.emono,RD.none rfl⟩
  ·intro e he;simp only[Ars,List.not_mem_nil,or_false] at he;rcases he with rfl | rfl
   ·exact⟨[p,v],h1,rfl,rfl,trivial⟩
   ·refine⟨λcl hcl=>by obtain⟨z,_,rfl⟩:=List.mem_map.1 hcl;rfl,_,by simpa[Ew] using h2,?_⟩;rw[Mp];exact BM.rvs Z _
  ·refine List.pairwise_cons.2 ⟨λe he k hk hk'=>?_,List.pairwise_singleton ..⟩;simp only[AqG] at he;subst he;simp only[Ent.foot,AqG] at hk;subst hk;simp only[Ent.foot,Option.mem_toList] at hk';exact h3 hk'
  ·have hmem:k∈[Ent.bld T te b v s].flatMap Ent.foot:=by rw[hfoot];exact List.mem_flatMap.2 ⟨e,he,hk⟩
   obtain⟨e',he',hk'⟩:=List.mem_flatMap.1 hmem;exact hs.zdis e' he' k hk'
 rw[hfoot] at hs ⊢;exact h p hp w Z vs hv hs'
theorem AhY (hu:∃e',P.underlying t=Ad (.pointer e'))(hx:ev l x=Ad (rv (.pointer Ai))):Ck P n c l H { dst:=d',op:=.binOp .eql t x (.const (.pointer Ai)) t',type:=ty,pos:=pos,after:=af,guard:=g } (rB Af):=λa w Z ha _=>DX<|by
 obtain⟨e',hu⟩:=hu;have h1:∀dd:Nat,(Op.equalIn (dd+1) t (.pointer Ai) (.pointer Ai)).run P w = .ok Af w:=λdd=>by simp[Op.equalIn,run_underlying hu]
 have h2:(Op.equal t (.pointer Ai) (.pointer Ai)).run P w = .ok Af w:=h1 9999;have h3:(eqGuard .eql t x (.const (.pointer Ai)) (.pointer Ai) (.pointer Ai)).run P w = .ok () w:=by unfold eqGuard;split<;>simp
 have hy:a.eval (.const (.pointer Ai)) = .pointer Ai:=rfl;simp only[execOp,ha.eval hx,hy,Sem.run_bind,h3,Result.andThen_ok,binOp,h2,Sem.run_pure]
theorem Afs (hu:∃e',P.underlying t=Ad (.pointer e'))(hx:ev l x=Ad (rv (.pointer (Ad p)))):Ck P n c l H { dst:=d',op:=.binOp .neq t x (.const (.pointer Ai)) t',type:=ty,pos:=pos,after:=af,guard:=g } (rB Af):=λa w Z ha _=>DX<|by
 obtain⟨e',hu⟩:=hu;have h1:∀dd:Nat,(Op.equalIn (dd+1) t (.pointer (Ad p)) (.pointer Ai)).run P w = .ok Ah w:=λdd=>by simp[Op.equalIn,run_underlying hu]
 have h2:(Op.equal t (.pointer (Ad p)) (.pointer Ai)).run P w = .ok Ah w:=h1 9999;have h3:(eqGuard .neq t x (.const (.pointer Ai)) (.pointer (Ad p)) (.pointer Ai)).run P w = .ok () w:=by unfold eqGuard;split<;>simp
 have hy:a.eval (.const (.pointer Ai)) = .pointer Ai:=rfl;simp only[execOp,ha.eval hx,hy,Sem.run_bind,h3,Result.andThen_ok,binOp,h2,Sem.run_pure];rfl
theorem Aav (hu:∃e',P.underlying t=Ad (.pointer e'))(hx:ev l x=Ad (rv (.pointer Ai))):Ck P n c l H { dst:=d',op:=.binOp .neq t x (.const (.pointer Ai)) t',type:=ty,pos:=pos,after:=af,guard:=g } (rB Ah):=λa w Z ha _=>DX<|by
 obtain⟨e',hu⟩:=hu;have h1:∀dd:Nat,(Op.equalIn (dd+1) t (.pointer Ai) (.pointer Ai)).run P w = .ok Af w:=λdd=>by simp[Op.equalIn,run_underlying hu]
 have h2:(Op.equal t (.pointer Ai) (.pointer Ai)).run P w = .ok Af w:=h1 9999;have h3:(eqGuard .neq t x (.const (.pointer Ai)) (.pointer Ai) (.pointer Ai)).run P w = .ok () w:=by unfold eqGuard;split<;>simp
 have hy:a.eval (.const (.pointer Ai)) = .pointer Ai:=rfl;simp only[execOp,ha.eval hx,hy,Sem.run_bind,h3,Result.andThen_ok,binOp,h2,Sem.run_pure];rfl
theorem Acf (hu:P.underlying t=Ad (.pointer te))(hi:∃j,P.info? te=Ad j)(hx:ev l x=Ad (rv (.pointer (Ad p))))(hy:ev l y=Ad (rv (.pointer (Ad p)))):Ck P n c l H { dst:=d',op:=.binOp .neq t x y t',type:=ty,pos:=pos,after:=af,guard:=g } (rB Ah):=λa w Z ha _=>DX<|by
 obtain⟨j,hj⟩:=hi;have h3:(eqGuard .neq t x y (.pointer (Ad p)) (.pointer (Ad p))).run P w = .ok () w:=by unfold eqGuard;split<;>simp
 simp only[execOp,ha.eval hx,ha.eval hy,Sem.run_bind,h3,Result.andThen_ok,Lib.run_neq_ptr_same w p hu hj,Sem.run_pure]
theorem W4 {w:World}{Z:Fz}(hw:St c H Z w)(hi:H[i]? =Ad (.blk b cs e)):w.shape? b=Ad (e,Ae cs):=by
 obtain⟨us,h1,h2⟩:=hw.ent hi;simp[World.shape?,h1,h2.length]
theorem Aau (hs:P.underlying t=Ad (.pointer te))(hd:P.underlying t'=Ad .unsafePointer)(hj:∃j,P.info? te=Ad j∧j.size≠0)(hx:ev l x=Ad (rv (.pointer (Ad ⟨b,0,Ai⟩))))(hi:H[i]? =Ad (.blk b cs e))(hl:Nat.blt 0 (Ae cs)=Af) :
  Ck P n c l H { dst:=d',op:=.convert t t' x,type:=ty,pos:=pos,after:=af,guard:=g } (rv (.pointer (Ad ⟨b,0,Ai⟩))):=λa w Z ha hw=>DX<|by
 obtain⟨j,hj1,hj2⟩:=hj;have:=Lib.run_to_unsafe (P:=P) w ⟨b,0,Ai⟩ hs hd hj1 hj2 (W4 hw hi) (by simpa using hl);simp[execOp,ha.eval hx,this]
theorem Wd (hs:P.underlying t=Ad .unsafePointer)(hd:P.underlying t'=Ad (.pointer te))(hj:∃j,P.info? te=Ad j)(hx:ev l x=Ad (rv (.pointer (Ad ⟨b,0,Ai⟩))))(hi:H[i]? =Ad (.blk b cs e))(hl:liesAt P P.depth e (Ae cs/P.cellsOf e) 0 te 1=Af) :
  Ck P n c l H { dst:=d',op:=.convert t t' x,type:=ty,pos:=pos,after:=af,guard:=g } (rv (.pointer (Ad ⟨b,0,Ai⟩))):=λa w Z ha hw=>DX<|by
 obtain⟨j,hj1⟩:=hj;have:=Lib.run_from_unsafe (P:=P) w ⟨b,0,Ai⟩ hs hd hj1 (W4 hw hi) hl;simp[execOp,ha.eval hx,this]
theorem AkM {f : FuncId} {fn : Func} {ats : Array TypeId} (hf : P.funcs[f]? = Ad fn) (hname : (fn.name == "runtime.NumGoroutine") = Ah) (hb : fn.body.isNone = Af) (hn : Extern.findNext fn = Ai) (he : Extern.find fn = Ad Extern.AbiNoEscape.same) (hx : ev l x = Ad (rv v)) :
  Ck P n c l H { dst:=d',op:=.call { callee:=.value (.func f),args:=#[x],argTypes:=ats },type:=ty,pos:=pos,after:=af,guard:=g } (rv v):=λa w Z ha hw=>DX<|by
 have h1:=run_callFunc_extern (P:=P) (w:=w) (args:=#[v]) hf hname hb hn he;rw[Lib.run_noEscape] at h1;simp only[execOp,resolve,Sem.run_bind,Sem.run_pure,Result.andThen_ok,Act.eval,Deferred.ofValue,invoke];simp only[List.map_toArray,AqY,List.map_nil,ha.eval hx,Array.append_empty,Array.empty_append];simpa using h1
theorem TG {xs:List α}(h:Ac (0<Ae xs)=Af):Ac (0<Ae (xs.map enc))=Af:=by simpa using h
section
variable {P : Program} {n : Nat} {c : Cx} {l : Fr} {H : List Ent} {d' : Option Nat} {x : Operand} {ty t t' e : TypeId} {pos : String} {af : Array Edge} {g : Option (Nat × Bool)} {v : Value}
theorem Ajj:∀(ns:List Int) (p:List UInt8),ns.foldl (λr n=>r.push (Ar n.toNat)) (B p)=B (p++Qv ns)
 | [],p=>by simp[Qv]
 | n::ns,p=>by
  have e:(B p).push (Ar n.toNat)=B (p++[Ar n.toNat]):=by simp[B,ByteArray.push]
  simp only[List.foldl_cons,e];rw[Ajj ns];simp[Qv]
theorem Abd (xs:List Int):(xs.map CO).flatten=(xs.map λc=>Value.int .u8 c).map rv:=by
 induction xs with
 | nil=>rfl
 | cons a r ih=>simp[CO,ih]
theorem WV {xs:List Int}(hs:P.underlying t=Ad (.slice e))(hd:P.underlying t'=Ad .string)(he:P.underlying e=Ad (.int .u8))(hx:ev l x=Ad (rv v))(hi:H[i]? =Ad (.row v e 1 (xs.map CO))) :
  Ck P n c l H { dst:=d',op:=.convert t t' x,type:=ty,pos:=pos,after:=af,guard:=g } (rS (Qv xs)):=λa w Z ha hw=>by
 obtain⟨_,us,⟨h1,h2⟩,h3⟩:=hw.ent hi;rw[Abd] at h3;have e2:=BM.eq_rv h3;subst e2;refine⟨.string (B (Qv xs)),rfl,?_⟩;have hlx:=ha.eval hx;rcases h2 with⟨rfl,hz⟩ | ⟨b,cap,cur,rfl,_,hb,hcap,hm,hcs,htk⟩
 ·have hx0:xs=[]:=by simpa using hz
  subst hx0;have:=run_convert_bytes_string w t t' e Ai 0 0 hs he hd;simp only[execOp,hlx];have e3:(Conv.bytesToString (.slice Ai 0 0)).run P w = .ok (.string (B [])) w:=rfl;rw[e3] at this;simp[this,Qv]
 ·simp only[Aqz,Nat.mul_one] at htk hcap hcs h1;have hld:=run_loadCells_list (P:=P) w ⟨b,0,Ai⟩ (xs.map λc=>Value.int .u8 c) (λj u hj=>by
   rw[MP,AqT,cell_of_row w b j cur e (0,0) hb];rw[← htk,AqU] at hj
   split at hj
   ·simpa using hj
   ·cases hj)
  rw[Aqz] at hld;have h4:=run_bytesToString w ⟨b,0,Ai⟩ (Ae xs) cap xs hld;have h5:=run_convert_bytes_string w t t' e (Ad ⟨b,0,Ai⟩) (Ae xs) cap hs he hd;have h6:=Ajj xs [];rw[h4,show ByteArray.empty=B [] from rfl,h6] at h5;simp[execOp,hlx,h5]
end
def slp:Value→Value
 | .slice a _ _=>.pointer a
 | v=>v
theorem SU {ts:Array TypeId}(hx:ev l x=Ad (rv v))(hi:H[i]? =Ad (.row v e sz xs))(hg:Ac (0<Ae xs)=Af) :
  Ck P n c l H { dst:=d',op:=.call { callee:=.builtin .unsafeSliceData,args:=#[x],argTypes:=ts },type:=ty,pos:=pos,after:=af,guard:=g } (rv (slp v)):=λa w Z ha hw=>DX<|by
 obtain⟨_,us,⟨_,h2⟩,_⟩:=hw.ent hi;have h0:0<Ae xs:=by simpa using hg
 rcases h2 with⟨rfl,hz⟩ | ⟨b,cap,cur,rfl,_,_,hc,_⟩
 ·omega
 ·have:=Lib.run_unsafeSliceData_row (P:=P) w ts ty ⟨b,0,Ai⟩ (Ae xs) cap Ab;simp[execOp,resolve,invoke,builtin,ha.eval hx,this,slp]
def Ao5 (P:Program)(n:Nat)(c:Cx)(l:Fr)(H:List Ent)(o:Oper)(r:Rp)(H':List Ent):Prop:=∀a w Z,Gl n l a Z→St c H Z w→∃v w' Z',Fz.le Z Z'∧r.p Z' v∧(execOp a.eval o).run P w = .ok (.value v) w'∧St c H' Z' w'
theorem Aob {opsA:Array Oper}(hr:Ao5 P n c l H { dst:=Ad d,op:=op,type:=ty,pos:=pos,after:=af,guard:=Ai } r H'):GA P n c opsA Q l H { dst:=Ad d,op:=op,type:=ty,pos:=pos,after:=af,guard:=Ai } r H':=λa w Z K0 ha hw hK=>
 ⟨λ_=>by
  obtain⟨v,w',Z',hz,hv,he,hs⟩:=hr a w Z ha hw;unfold Oper.wp;rw[he];exact hK v w' Z' hz hv hs,λh=>by simp[Region.wanted] at h⟩
theorem O1 {pt it:TypeId}(hp:P.underlying pt=Ad (.pointer e))(hc:P.cellsOf e=1)(hx:ev l x=Ad (rv (slp v)))(hy:ev l y=Ad (rI .i64 (Ae (E7 s):Int)))(hi:H[i]? =Ad (.row v e 1 ((E7 s).map CO)))(hg:Ac (0<Ae ((E7 s).map CO))=Af)(hH:H.eraseIdx i=H') :
  Ao5 P n c l H { dst:=Ad d,op:=.call { callee:=.builtin .unsafeString,args:=#[x,y],argTypes:=#[pt,it] },type:=ty,pos:=pos,after:=af,guard:=Ai } (rS s) H':=λa w Z ha hw=>by
 obtain⟨_,us,⟨h1,h2⟩,h3⟩:=hw.ent hi;rw[Mp] at h3;have e2:=BM.eq_rv h3;subst e2;have h0:0<Ae s:=by simpa[Ew] using hg
 rcases h2 with⟨rfl,hz⟩ | ⟨b,cap,cur,rfl,_,hb,hcap,hm,hcs,htk⟩
 ·simp[Ew] at hz;subst hz;simp at h0
 ·simp only[Aqz,Ew,Nat.mul_one] at htk hcap hcs h1;have hus:=Lib.run_unsafeString_row (P:=P) w pt it ty e hp hc b cur.size (by simp[World.shape?,hb]) s (by intro e;subst e;simp at h0) Ab (by simp only[maxLen] at hm;omega) (λj x hj=>by
   rw[MP,AqT,cell_of_row w b j cur e (0,0) hb];have:(s.map λc=>Value.int .u8 c.toNat)[j]? =Ad (.int .u8 x.toNat):=by simp[hj]
   rw[← htk,AqU] at this
   split at this
   ·simpa using this
   ·cases this)
  have hmem:=Aq1 hi;have hfr:=hw.front hi;have hd:=List.pairwise_cons.1 hfr.dis;have hst:=hfr.sub (List.sublist_cons_self _ _);have hkeep:∀k,k≠b→(w.freeze ⟨b,0,Ai⟩ (Ae s)).heap[k]? =w.heap[k]?:=λk hk=>by
   simp only[World.freeze]
   split
   ·rfl
   ·simp only[Array.getElem?_modify];rw[AqM (λe=>hk e.symm)]
  have hzb:Z b=Ai:=hw.zdis _ hmem b (by simp[Ent.foot,Value.ownBlock]);refine⟨.string ⟨s.toArray⟩,w.freeze ⟨b,0,Ai⟩ (Ae s),Z,Fz.le.refl _,rfl,?_,?_⟩
  ·have hlx:=ha.eval hx;have hly:=ha.eval hy;rw[Ew] at hly;simp[execOp,resolve,invoke,builtin,hlx,hly,slp,hus]
  ·subst hH;have hfz:∀(f:World→Prop),True:=λ_=>trivial;refine { hst with os:=?_,tape:=?_,output:=?_,size:=?_,old:=λk hk hkM=>?_,has:=λen he=>?_,frz:=⟨λb' o hb'=>?_,λk i b hb=>Nat.lt_of_lt_of_le (hst.frz.nm k i b hb) (by simp only[World.freeze];split<;>simp)⟩,gst:=hst.gst.grow (by simp only[World.freeze];split<;>simp) }
   ·rw[← hst.os];simp only[World.freeze];split<;>rfl
   ·rw[← hst.tape];simp only[World.freeze];split<;>rfl
   ·rw[← hst.output];simp only[World.freeze];split<;>rfl
   ·refine Nat.le_trans hst.size ?_;simp only[World.freeze];split<;>simp
   ·have hkb:k≠b:=λe=>by
     subst e;rcases hw.own _ hmem k (by simp[Ent.foot,Value.ownBlock]) with h4 | h4
     ·omega
     ·exact hkM h4
    rw[hkeep k hkb];exact hst.old k hk hkM
   ·exact Ent.keep (hst.has en he) (Fz.le.refl _) λk hk=>hkeep k (λe=>hd.1 en he b (by simp[Ent.foot,Value.ownBlock]) (e▸hk))
   ·rw[hkeep b' (λe=>by subst e;rw[hzb] at hb';cases hb')];exact hst.frz b' o hb'
theorem ZJ {o:Oper}{a:Act}(ho:o.op = .call { callee:=.value x,args:=args.toArray,argTypes:=ats })(hx:a.eval x = .func (.func f) #[] caps.toArray)
  (hcall:∀(as1:Array Value) (w:World),(callFunc f as1).run P w = .ok (.enter f as1) w) (w:World):(execOp a.eval o).run P w = .ok (.enter f (args.map a.eval++caps).toArray) w:=by
 simp[execOp,ho,resolve,hx,Deferred.ofValue,invoke,hcall]
theorem XS {Hin Hr:List Ent}(hcall:∀(as1:Array Value) (w:World),(callFunc f as1).run P w = .ok (.enter f as1) w)(hx:ev l x=Ad (rv (.func (.func f) #[] caps.toArray)))(hv:R0 l args=Ad rs)
  (hp:H.Perm (Hin++Hr)) (hc:Fn P c.E f (rs++caps.map rv) Hin Φ) (hn:Nat.blt d n=Af) (h:∀r Ho,Φ r Ho→WL P n c ops Q rest ((d,r)::l) (Ho++Hr)) :
  WL P n c ops Q ({ dst:=Ad d,op:=.call { callee:=.value x,args:=args.toArray,argTypes:=ats },type:=ty,pos:=pos,after:=af,guard:=Ai }::rest) l H:=
 O4 (args:=λa=>(args.map a.eval++caps).toArray) (λa w Z ha hw=>⟨ZJ rfl (ha.eval hx) hcall w,by
  have hw2:=hw.perm hp;refine(hc w Z _ (by have:=(JG ha hv).append (BM.rvs Z caps);simpa using this) hw2.enter).mono ?_;rintro e w' ⟨r,v,Ho,Z',he,hΦ,hr,hs⟩;exact⟨v,r,Ho++Hr,Z',he,hs.le,hr,hw2.call hs,h r Ho hΦ⟩⟩) hn
theorem H7 {xs:List Int}(ht:P.underlying t=Ad (.slice e))(hu:P.underlying t'=Ad .string)(hinf:P.info? e=Ad inf)(hz:inf.zero=Ad (.int .u8 0))(hsize:inf.size=1)(hby:inf.bytes=1)
  (hx:ev l x=Ad (rv v)) (hy:ev l y=Ad (rS s)) (hi:H[i]? =Ad (.row v e 1 (xs.map CO))) (hg:De 1 (Ae xs+Ae s)=Af) (hn:Nat.blt d n=Af)
  (h:∀v',WL P n c ops Q rest ((d,rv v')::l) (.row v' e 1 ((xs++E7 s).map CO)::H.eraseIdx i)) :
  WL P n c ops Q ({ dst:=Ad d,op:=.call { callee:=.builtin .append,args:=#[x,y],argTypes:=#[t,t'] },type:=ty,pos:=pos,after:=af,guard:=Ai }::rest) l H:=
 PP (λa w Z ha hw=>by
  obtain⟨h0,us,h1,h2⟩:=hw.ent hi;have hb:(Ae xs+Ae s)*1≤140737488355328:=by simpa[De] using hg
  rw[Aqz] at h1;obtain⟨v',w',e1,e2,e3,e4⟩:=Q7 (P:=P) (w:=w) ty ht hu hinf hz hsize hby h1 (s:=s) Ab;have hent:(Ent.row v' e 1 ((xs++E7 s).map CO)).holds Z w':=⟨λcl hcl=>by obtain⟨z',_,rfl⟩:=List.mem_map.1 hcl;rfl,us++s.map (λc=>Value.int .u8 c.toNat),by simpa[Ew] using e2,by
   rw[Arf,List.flatten_append,Mp];exact h2.append (BM.rvs Z _)⟩
  have hst:=hw.callF hi (St.one (e':=.row v' e 1 ((xs++E7 s).map CO)) (M:=(Ent.row v e 1 (xs.map CO)).foot) hw.frz hw.env hw.emono e3.os e3.tape e3.output e3.size (λk hk hne=>e3.block k hk (λe1=>hne (by simp[Ent.foot,← e1])))
   (hw.zdis _ (Aq1 hi)) hent (λk hk=>by
    simp only[Ent.foot,Option.mem_toList] at hk ⊢;rcases e4 with e4 | e4
    ·exact .inl (e4▸hk)
    ·exact .inr (e4 k hk)))
  exact⟨v',w',rv v',_,Z,by simp[execOp,resolve,invoke,builtin,ha.eval hx,ha.eval hy,e1],Fz.le.refl _,rfl,hst,h v'⟩) hn
end
variable{K:Exit→Act→World→Prop}
section
variable {P : Program} {n : Nat} {c : Cx} {ops : Array Oper} {Q : Exit → Act → World → Prop} {rest : List Oper} {l : Fr} {H : List Ent} {d : Nat} {ty : TypeId} {pos : String} {af : Array Edge} {r : Rp} {x y z3 : Operand}
theorem wo {d:Option Nat}{b:Bool}(hb:b=want)(h:WL P n c ops Q ({ dst:=d,op:=op,type:=ty,pos:=pos,after:=af,guard:=Ai }::rest) l H)(hj:Eu ops j=Ad dj:=by rfl)(hv:look l dj=Ad (rB b):=by rfl) :
  WL P n c ops Q ({ dst:=d,op:=op,type:=ty,pos:=pos,after:=af,guard:=Ad (j,want) }::rest) l H:=BL hj hv hb h
theorem wf {b:Bool}(hb:b = !want)(h:WL P n c ops Q rest ((d,rv undef)::l) H)(hj:Eu ops j=Ad dj:=by rfl)(hv:look l dj=Ad (rB b):=by rfl)(hn:Nat.blt d n=Af:=by rfl) :
  WL P n c ops Q ({ dst:=Ad d,op:=op,type:=ty,pos:=pos,after:=af,guard:=Ad (j,want) }::rest) l H:=Dh hj hv hb hn h
theorem wu (h:WL P n c ops Q rest ((d,rv undef)::l) H)(hj:Eu ops j=Ad dj:=by rfl)(hv:look l dj=Ad (rv undef):=by rfl)(hn:Nat.blt d n=Af:=by rfl) :
  WL P n c ops Q ({ dst:=Ad d,op:=op,type:=ty,pos:=pos,after:=af,guard:=Ad (j,want) }::rest) l H:=Ez hj hv hn h
theorem wv (hr:Ck P n c l H { dst:=Ad d,op:=op,type:=ty,pos:=pos,after:=af,guard:=Ai } r)(h:WL P n c ops Q rest ((d,r)::l) H)(hn:Nat.blt d n=Af:=by rfl):WL P n c ops Q ({ dst:=Ad d,op:=op,type:=ty,pos:=pos,after:=af,guard:=Ai }::rest) l H:=C2 hr hn h
theorem wm (h:ev l x=Ad r)(hk:WL P n c ops Q rest ((d,r)::l) H)(hn:Nat.blt d n=Af:=by rfl):WL P n c ops Q ({ dst:=Ad d,op:=.move x,type:=ty,pos:=pos,after:=af,guard:=Ai }::rest) l H:=C2 (AQ h) hn hk
theorem wa (h:ev l x=Ad r)(hk:WL P n c ops Q rest ((d,r)::l) H)(hn:Nat.blt d n=Af:=by rfl):WL P n c ops Q ({ dst:=Ad d,op:=.assign x,type:=ty,pos:=pos,after:=af,guard:=Ai }::rest) l H:=C2 (Cj h) hn hk
theorem EA {b:Bool}(hc:ev l z3=Ad (rB b))(hb:b=Af)(h:ev l x=Ad r)(hk:WL P n c ops Q rest ((d,r)::l) H)(hn:Nat.blt d n=Af:=by rfl):WL P n c ops Q ({ dst:=Ad d,op:=.pick z3 x y,type:=ty,pos:=pos,after:=af,guard:=Ai }::rest) l H:=C2 (E2 hc hb h) hn hk
theorem D7 {b:Bool}(hc:ev l z3=Ad (rB b))(hb:b=Ah)(h:ev l y=Ad r)(hk:WL P n c ops Q rest ((d,r)::l) H)(hn:Nat.blt d n=Af:=by rfl):WL P n c ops Q ({ dst:=Ad d,op:=.pick z3 x y,type:=ty,pos:=pos,after:=af,guard:=Ai }::rest) l H:=C2 (DE hc hb h) hn hk
theorem wc0 (hcall:∀(as1:Array Value) (w:World),(callFunc f as1).run P w = .ok (.enter f as1) w)(hc:Fn0 P c.E f rs r)(hv:R0 l args=Ad rs)(h:WL P n c ops Q rest ((d,r)::l) H)(hn:Nat.blt d n=Af:=by rfl) :
  WL P n c ops Q ({ dst:=Ad d,op:=.call { callee:=.value (.func f),args:=args.toArray,argTypes:=ats },type:=ty,pos:=pos,after:=af,guard:=Ai }::rest) l H:=CR hcall hv hc rfl hn h
theorem Ge {opsA:Array Oper}(hcall:∀(as1:Array Value) (w:World),(callFunc f as1).run P w = .ok (.enter f as1) w)(hc:Fn0 P c.E f rs r)(hv:R0 l args=Ad rs) :
  GA P n c opsA Q l H { dst:=Ad d,op:=.call { callee:=.value (.func f),args:=args.toArray,argTypes:=ats },type:=ty,pos:=pos,after:=af,guard:=Ai } r H:=EU hcall hv hc rfl
theorem wt (hl:Hj l1 l:=by repeat (first | exact Hj.nil | refine Hj.c rfl ?_))(hH:H1.Sublist H:=by repeat (first | exact sN | refine sC ?_ | refine sS ?_)):WK n c (Exit.then (Mid n c l1 H1) K .normal) l H:=AG (IL hl hH)
theorem Ce {p:Prop}(hp:p)(hl:p→Hj l1 l:=by intro hp;repeat (first | exact Hj.nil | refine Hj.c rfl ?_ | refine Hj.c (by first | (simp only[hp];rfl) | simp[hp]) ?_))(hH:H1.Sublist H:=by repeat (first | exact sN | refine sC ?_ | refine sS ?_)):WK n c (Exit.then (Mid n c l1 H1) K .normal) l H:=AG (IL (hl hp) hH)
end
abbrev rP (b o:Nat):Rp:=rv (.pointer (Ad ⟨b,o,Ai⟩))
variable{G:Prop}
theorem ck {p:Bool}{x:Option α}{r:α}(h:Bc p x=Ad r)(k:p=Af→x=Ad r→G):G:=k (Abg h).1 (Abg h).2
theorem ob {β:Type}{a:Option β}{f:β→Option α}{r:α}(h:BB a f=Ad r)(k:∀b,a=Ad b→f b=Ad r→G):G:=let ⟨b,h1,h2⟩:=Aod h;k b h1 h2
theorem bd {β:Type}{a:β}{f:β→Option α}{r:α}(h:Pp a f=Ad r)(k:∀b,b=a→f b=Ad r→G):G:=let ⟨b,h1,h2⟩:=Ao2 h;k b h1 h2
theorem bz {b:Bool}{x y:Option α}{r:α}(h:By b x y=Ad r)(t:b=Af→x=Ad r→G)(f:b=Ah→y=Ad r→G):G:=by
 cases b
 ·exact f rfl h
 ·exact t rfl h
section
variable {P : Program} {n : Nat} {c : Cx} {ops : Array Oper} {Q : Exit → Act → World → Prop} {rest : List Oper} {l : Fr} {H : List Ent} {d : Nat} {x y : Operand} {t e : TypeId} {ty : TypeId} {pos : String} {af : Array Edge} {r : Rp} {sz : Nat}
theorem cz {b:Bool}{X Y:Option α}{r:α}{cx cy:Code}{o:Operand}(h:By b X Y=Ad r)(ho:ev l o=Ad (rB b))(h1:b=Af→X=Ad r→WC P n c cx Q l H)(h2:b=Ah→Y=Ad r→WC P n c cy Q l H):WC P n c (.cond o cx cy) Q l H:=
 JD ho (λe=>h1 e (Aov e h)) (λe=>h2 e (Aow e h))
theorem wz (hj:Eu ops j=Ad dj)(hv:look l dj=Ad (rB (!want)))(h:WL P n c ops Q rest ((d,rv undef)::l) H)(hn:Nat.blt d n=Af:=by rfl) :
  WL P n c ops Q ({ dst:=Ad d,op:=op,type:=ty,pos:=pos,after:=af,guard:=Ad (j,want) }::rest) l H:=Dh hj hv rfl hn h
theorem vF {o o':Nat}{f:Field}(hu:P.underlying t=Ad (.struct fs))(h:(fs[i]?,ev l x,o+f.offset)=(Ad f,Ad (rv (.pointer (Ad ⟨b,o,Ai⟩))),o'))(hsz:∀w,(sizeOf f.type).run P w = .ok (sz+1) w)
  (k:WL P n c ops Q rest ((d,rv (.pointer (Ad ⟨b,o',Ai⟩)))::l) H) (hn:Nat.blt d n=Af:=by rfl):WL P n c ops Q ({ dst:=Ad d,op:=.fieldAddr t x i,type:=ty,pos:=pos,after:=af,guard:=Ai }::rest) l H:=by
 simp only[Prod.mk.injEq] at h;exact C2 (AI hu h.1 hsz h.2.1 h.2.2) hn k
theorem vL (i:Nat)(hag:∀w,(isAgg t).run P w = .ok Ah w)(h:(ev l x,H[i]?,cs[off]?)=(Ad (rv (.pointer (Ad ⟨b,off,Ai⟩))),Ad (.blk b cs e),Ad r))
  (k:WL P n c ops Q rest ((d,r)::l) H) (hn:Nat.blt d n=Af:=by rfl):WL P n c ops Q ({ dst:=Ad d,op:=.load t x,type:=ty,pos:=pos,after:=af,guard:=Ai }::rest) l H:=by
 simp only[Prod.mk.injEq] at h;exact C2 (Bq i hag h.1 h.2.1 h.2.2) hn k
end
abbrev Bn (x:Int):Rp:=rI .i64 x
abbrev CV (x:Int):Nat:=Ao x
abbrev BP {a b:Type}(f:a→b)(l:List a):List b:=List.map f l
structure At {α:Type} (i:Nat) (l:List α) (e:α) (l':List α):Prop where
 go:l.Perm (e::l')
variable{l:List α}
theorem Ao4 {e:α}:At 0 (e::l) e l:=⟨AqC _⟩
variable{l':List α}
theorem Ao3 {x e:α}(h:At i l e l'):At (i+1) (x::l) e (x::l'):=⟨(h.go.cons x).trans (List.Perm.swap e x l')⟩
structure Pk {α:Type} (is:List Nat) (l l':List α):Prop where
 go:l.Perm l'
theorem AnZ:Pk [] l l:=⟨AqC _⟩
theorem AnY {r:List Nat}{l1 l2:List α}{e:α}(h:At i l e l1)(t:Pk r l1 l2):Pk (i::r) l (e::l2):=⟨h.go.trans (t.go.cons e)⟩
structure Ag2 {α:Type} (i:Nat) (l:List α) (x:α) (l':List α):Prop where
 go:l.set i x=l'
theorem Am3 {a x:α}:Ag2 0 (a::l) x (x::l):=⟨rfl⟩
theorem Am2 {a x:α}(h:Ag2 i l x l'):Ag2 (i+1) (a::l) x (a::l'):=⟨by rw[List.set_cons_succ,h.go]⟩
structure Ag3 {α:Type} (i:Nat) (rs l l':List α):Prop where
 go:l.take i++rs++l.drop (i+Ae rs)=l'
theorem AoQ:Ag3 0 [] l l:=⟨Aj⟩
theorem AoP {r a:α}{rs:List α}(h:Ag3 0 rs l l'):Ag3 0 (r::rs) (a::l) (r::l'):=⟨by
 have:=h.go;simp only[List.take_zero,AqH,AqT] at this ⊢;rw[Aqp,List.drop_succ_cons,Ara,this]⟩
theorem AoO {a:α}{rs:List α}(h:Ag3 i rs l l'):Ag3 (i+1) rs (a::l) (a::l'):=⟨by
 have:=h.go;rw[List.take_succ_cons,show i+1+Ae rs=(i+Ae rs)+1 from Ab,List.drop_succ_cons,Ara,Ara,this]⟩
section
variable {P : Program} {n : Nat} {c : Cx} {ops opsA : Array Oper} {Q : Exit → Act → World → Prop} {rest : List Oper} {l l' : Fr} {H H' H2 Hr : List Ent} {x : Code} {K : Act → World → Prop} {d : Nat} {ty t e : TypeId} {pos : String} {af : Array Edge} {y z : Operand} {r : Rp} {sz : Nat}
theorem Jp (is:List Nat)(h:WK n c K l H2)(hp:Pk is H H2:=by repeat (first | exact AnZ | apply AnY | exact Ao4 | apply Ao3)):WK n c K l H:=Aki hp.go h
theorem EG (is:List Nat){Hin:List Ent}(hcall:∀(as1:Array Value) (w:World),(callFunc f as1).run P w = .ok (.enter f as1) w)(hc:Fn P c.E f rs Hin Φ)
  (h:∀r Ho,Φ r Ho→WL P n c ops Q rest ((d,r)::l) (Ho++Hr)) (hv:R0 l args=Ad rs:=by rfl) (hp:Pk is H (Hin++Hr):=by repeat (first | exact AnZ | apply AnY | exact Ao4 | apply Ao3)) (hn:Nat.blt d n=Af:=by rfl) :
  WL P n c ops Q ({ dst:=Ad d,op:=.call { callee:=.value (.func f),args:=args.toArray,argTypes:=ats },type:=ty,pos:=pos,after:=af,guard:=Ai }::rest) l H:=Em hcall hv hp.go hc hn h
theorem EM (h:WC P n c x Q l' H')(hl:l=l':=by first | (dsimp only;done) | (dsimp only;exact rfl) | exact rfl)(hH:H=H':=by first | (dsimp only;done) | (dsimp only;exact rfl) | exact rfl):WC P n c x Q l H:=AnO hl hH h
theorem Hb (h:WK n c K l' H')(hl:l=l':=by first | (dsimp only;done) | (dsimp only;exact rfl) | exact rfl)(hH:H=H':=by first | (dsimp only;done) | (dsimp only;exact rfl) | exact rfl):WK n c K l H:=AnN hl hH h
theorem us (i:Nat)(hag:∀w,(sizeOf t).run P w = .ok 1 w)(hx:ev l z=Ad (rv (.pointer (Ad ⟨b,off,Ai⟩))))(hy:ev l y=Ad r)(hv:Zg H r)(hi:H[i]? =Ad (.blk b cs e))(hlt:Nat.blt off (Ae cs)=Af)
  (h:WL P n c ops Q rest l H') (hcs:Ag2 off cs r cs':=by repeat (first | exact Am3 | apply Am2)) (hH:Ag2 i H (.blk b cs' e) H':=by repeat (first | exact Am3 | apply Am2)) :
  WL P n c ops Q ({ dst:=Ai,op:=.store t z y,type:=ty,pos:=pos,after:=af,guard:=Ai }::rest) l H:=Adf hag hx hy hv hi hlt hcs.go hH.go h
theorem L5 (i:Nat)(hsz:∀w,(sizeOf t).run P w = .ok sz w)(hx:ev l z=Ad (rv (.pointer (Ad ⟨b,off,Ai⟩))))(hy:ev l y=Ad (Dr rs))(hl:Ae rs=sz)(hv:CB H rs)(hi:H[i]? =Ad (.blk b cs e))(hlt:Nat.ble (off+sz) (Ae cs)=Af)
  (h:WL P n c ops Q rest l H') (hcs:Ag3 off rs cs cs':=by repeat (first | exact AoQ | apply AoP | apply AoO)) (hH:Ag2 i H (.blk b cs' e) H':=by repeat (first | exact Am3 | apply Am2)) :
  WL P n c ops Q ({ dst:=Ai,op:=.store t z y,type:=ty,pos:=pos,after:=af,guard:=Ai }::rest) l H:=SI hsz hx hy hl hv hi hlt (by rw[← hl];exact hcs.go) hH.go h
def frA (os:List Oper)(acc:List Rp)(t:Nat)(l0:Fr):List Nat→Fr
 | []=>l0
 | j::r=>match Dw os j with
  | some d=>(d,acc.getD (t-1-j) (rv undef))::frA os acc t l0 r
  | none=>frA os acc t l0 r
def spA:List Oper→List Rp→List Sp
 | o::os,r::rs=>⟨E5 o,r,1⟩::spA os rs
 | _,_=>[]
theorem Adj:∀{os:List Oper} {rs:List Rp},Ae os=Ae rs→Ae (spA os rs)=Ae os
 | [],[],_=>rfl
 | o::os,r::rs,h=>by rw[spA,Aqp,Aqp,Adj (by simpa using h)]
 | [],_::_,h=>by simp at h
 | _::_,[],h=>by simp at h
theorem AbE:∀{os:List Oper} {rs:List Rp} {i:Nat} {o:Oper} {r:Rp},os[i]? =Ad o→rs[i]? =Ad r→(spA os rs)[i]? =Ad ⟨E5 o,r,1⟩
 | o::os,r::rs,0,o',r',h1,h2=>by simp at h1 h2;subst h1;subst h2;rfl
 | o::os,r::rs,i+1,o',r',h1,h2=>by rw[spA,List.getElem?_cons_succ];exact AbE (by simpa using h1) (by simpa using h2)
 | [],_,i,_,_,h1,_=>by simp at h1
 | _::_,[],i,_,_,_,h2=>by simp at h2
def RdH (P:Program)(n:Nat)(c:Cx)(Q:Exit→Act→World→Prop)(os:List Oper)(l0:Fr)(H:List Ent)(acc:List Rp):Prop:=
 ∀(i:Nat) o r,os[i]? =Ad o→acc.reverse[i]? =Ad r→GA P n c os.toArray Q (frA os (acc.drop (Ae acc-i)) i l0 (E5 o)) H o r H
def RdK (P:Program)(n:Nat)(c:Cx)(Q:Exit→Act→World→Prop)(os:List Oper)(l0:Fr)(H:List Ent)(G:Prop)(t:Nat)(acc:List Rp)(rest:List Oper):Prop:=
 rest=os.drop t→t=Ae acc→RdH P n c Q os l0 H acc→G
theorem RdH.cons {os:List Oper}{l0:Fr}{acc:List Rp}{o:Oper}{r:Rp}(h:RdH P n c Q os l0 H acc)(ho:os[Ae acc]? =Ad o)(hr:GA P n c os.toArray Q (frA os acc (Ae acc) l0 (E5 o)) H o r H):RdH P n c Q os l0 H (r::acc):=λi o' r' h1 h2=>by
 rw[List.reverse_cons] at h2
 by_cases hi:i<Ae acc
 ·rw[Arr (by simpa using hi)] at h2;have:=h i o' r' h1 h2;rw[Aqp,show (Ae acc)+1-i=(Ae acc-i)+1 from Ab,List.drop_succ_cons];exact this
 ·have hlt:=(List.getElem?_eq_some_iff.1 h2).1;simp at hlt;have e:i=Ae acc:=Ab
  subst e;rw[Art Aj] at h2;simp at h2;subst h2;rw[ho] at h1;obtain rfl:=Option.some.inj h1;rw[Aqp,show (Ae acc)+1-Ae acc=1 from Ab,List.drop_succ_cons,List.drop_zero];exact hr
theorem Aje {os:List Oper}{acc:List Rp}{l0:Fr}{i:Nat}(hl:Ae acc=Ae os)(hi:i≤Ae acc):∀{js:List Nat},(∀j∈js,j<i)→frA os (acc.drop (Ae acc-i)) i l0 js=Di os (spA os acc.reverse) js l0
 | [],_=>rfl
 | j::js,h=>by
  have hj:=h j Aj;have ih:=Aje (l0:=l0) hl hi (js:=js) λj' hj'=>h j' (by simp[hj']);unfold frA Di;have ho:os[j]? =Ad (os[j]'(Ab)):=Aqx Ab;have hr:acc.reverse[j]? =Ad (acc.reverse[j]'(Am)):=Aqx Am;have e:(acc.drop (Ae acc-i)).getD (i-1-j) (rv undef)=(Hg (spA os acc.reverse) j).r:=by
   unfold Hg;rw[Aqy,Aqy,AbE ho hr,List.getElem?_drop,AqE];rw[Aqx Ab,AqE];show _=acc.reverse[j]'(Am);rw[List.getElem_reverse]
   congr 1
   omega
  rw[e,ih]<;>cases Dw os j<;>rfl
theorem Et (ks0:List Nat)(h:RdK P n c Q os l0 H (Kp ks0 l l0→WC P n c (.region id os.toArray Af) Q l H) 0 [] os)(h0:Kp ks0 l l0:=by repeat (first | exact Sh | (apply Ps;rfl) | (apply Rq;rfl))):WC P n c (.region id os.toArray Af) Q l H:=
 h Aj rfl (λi o r _ h2=>by simp at h2) h0
theorem RM {t:Nat}{acc:List Rp}{o:Oper}{r:Rp}{rest:List Oper}(hr:GA P n c os.toArray Q (frA os acc t l0 (E5 o)) H o r H)(h:RdK P n c Q os l0 H G (t+1) (r::acc) rest):RdK P n c Q os l0 H G t acc (o::rest):=λh1 h2 h3=>by
 subst h2;have ho:os[Ae acc]? =Ad o:=by have:=congrArg (·[0]?) h1;simp at this;exact this.symm
 exact h (by have:=congrArg List.tail h1;simpa using this) rfl (h3.cons ho hr)
section
variable {os : List Oper} {l0 : Fr} {G : Prop} {t : Nat} {acc : List Rp} {r : Rp} {rest : List Oper} {op : Op} {j dj : Nat} {want b : Bool} {dd : Option Nat}
theorem rq (hr:Ck P n c (frA os acc t l0 (E5 { dst:=Ad d,op:=op,type:=ty,pos:=pos,after:=af,guard:=Ai })) H { dst:=Ad d,op:=op,type:=ty,pos:=pos,after:=af,guard:=Ai } r)(h:RdK P n c Q os l0 H G (t+1) (r::acc) rest) :
  RdK P n c Q os l0 H G t acc ({ dst:=Ad d,op:=op,type:=ty,pos:=pos,after:=af,guard:=Ai }::rest):=RM (ET hr) h
theorem rg (hb:b=want)(hr:Ck P n c (frA os acc t l0 (E5 { dst:=Ad d,op:=op,type:=ty,pos:=pos,after:=af,guard:=Ad (j,want) })) H { dst:=Ad d,op:=op,type:=ty,pos:=pos,after:=af,guard:=Ai } r)(h:RdK P n c Q os l0 H G (t+1) (r::acc) rest)
  (hj:Eu os.toArray j=Ad dj:=by rfl) (hv:look (frA os acc t l0 (E5 { dst:=Ad d,op:=op,type:=ty,pos:=pos,after:=af,guard:=Ad (j,want) })) dj=Ad (rB b):=by rfl) :
  RdK P n c Q os l0 H G t acc ({ dst:=Ad d,op:=op,type:=ty,pos:=pos,after:=af,guard:=Ad (j,want) }::rest):=RM (AlU hj hv hb (ET hr)) h
theorem ro (hb:b=want)(hr:GA P n c os.toArray Q (frA os acc t l0 (E5 { dst:=dd,op:=op,type:=ty,pos:=pos,after:=af,guard:=Ad (j,want) })) H { dst:=dd,op:=op,type:=ty,pos:=pos,after:=af,guard:=Ai } r H)(h:RdK P n c Q os l0 H G (t+1) (r::acc) rest)
  (hj:Eu os.toArray j=Ad dj:=by rfl) (hv:look (frA os acc t l0 (E5 { dst:=dd,op:=op,type:=ty,pos:=pos,after:=af,guard:=Ad (j,want) })) dj=Ad (rB b):=by rfl) :
  RdK P n c Q os l0 H G t acc ({ dst:=dd,op:=op,type:=ty,pos:=pos,after:=af,guard:=Ad (j,want) }::rest):=RM (AlU hj hv hb hr) h
theorem rz (hb:b = !want)(h:RdK P n c Q os l0 H G (t+1) (rv undef::acc) rest)
  (hj:Eu os.toArray j=Ad dj:=by rfl) (hv:look (frA os acc t l0 (E5 { dst:=dd,op:=op,type:=ty,pos:=pos,after:=af,guard:=Ad (j,want) })) dj=Ad (rB b):=by rfl) :
  RdK P n c Q os l0 H G t acc ({ dst:=dd,op:=op,type:=ty,pos:=pos,after:=af,guard:=Ad (j,want) }::rest):=RM (AmC hj hv hb) h
theorem ru (h:RdK P n c Q os l0 H G (t+1) (rv undef::acc) rest)
  (hj:Eu os.toArray j=Ad dj:=by rfl) (hv:look (frA os acc t l0 (E5 { dst:=dd,op:=op,type:=ty,pos:=pos,after:=af,guard:=Ad (j,want) })) dj=Ad (rv undef):=by rfl) :
  RdK P n c Q os l0 H G t acc ({ dst:=dd,op:=op,type:=ty,pos:=pos,after:=af,guard:=Ad (j,want) }::rest):=RM (AhQ hj hv) h
end
theorem re {ks0:List Nat}{t:Nat}{acc:List Rp}(ks:List Nat)(h:WK n c (Q .normal) l1 H)
  (hz:Kz ks os (spA os acc.reverse) l0 l1:=by repeat (first | (apply AmS;rfl) | (apply AmU;rfl) | apply AmT | apply AmV | exact Sh | (apply Ps;rfl) | (apply Rq;rfl)))
  (hm:P.follows .mixedOrders=Af:=by kernel_rfl) (hB:okB n os (Ae os) (Hz l0) (os.map E5) (os.map λ_=>1)=Af:=by kernel_rfl) (ht:t=Ae os:=by rfl) :
  RdK P n c Q os l0 H (Kp ks0 l l0→WC P n c (.region id os.toArray Af) Q l H) t acc []:=λ_ hl hob h0=>by
 have hlen:Ae acc=Ae os:=Ab
 have hsp:Ae (spA os acc.reverse)=Ae os:=Adj (by simpa using hlen.symm);have key:∀{os:List Oper} {rs:List Rp},Ae os=Ae rs→(spA os rs).map (·.deps)=os.map E5∧(spA os rs).map (·.kd)=os.map λ_=>1:=by
  intro os
  induction os with
  | nil=>intro rs h;cases rs with
   | nil=>exact⟨rfl,rfl⟩
   | cons _ _=>simp at h
  | cons o os ih=>intro rs h;cases rs with
   | nil=>simp at h
   | cons r rs=>obtain⟨h1,h2⟩:=ih (rs:=rs) (by simpa using h);exact⟨by simp[spA,h1],by simp[spA,h2]⟩
 obtain⟨k1,k2⟩:=key (os:=os) (rs:=acc.reverse) (by simpa using hlen.symm);have hlt:∀(i:Nat) o,os[i]? =Ad o→∀j∈E5 o,j<i:=by
  have hB':=hB;unfold okB at hB';simp only[Aqu] at hB';have h1:=hB'.1.1.1.1.1.1;intro i o ho j hj;have hi:=(List.getElem?_eq_some_iff.1 ho).1;have h2:=List.all_eq_true.1 h1 i (List.mem_range.2 hi);have e:os.getD i default=o:=by rw[Aqy,ho];rfl
  rw[e] at h2;exact Aq0 (List.all_eq_true.1 h2 j hj)
 have hobl:∀(k:Nat) (rest:List Oper),rest=os.drop k→Zh P n c os.toArray Q os (spA os acc.reverse) l0 (Au (Ae os+1) H) k rest (Au (Ae rest+1) H):=by
  intro k rest
  induction rest generalizing k with
  | nil=>intro _;exact trivial
  | cons o rest ih=>
   intro hr;have ho:os[k]? =Ad o:=by have:=congrArg (·[0]?) hr;simp at this;exact this.symm
   have hk:=(List.getElem?_eq_some_iff.1 ho).1;have hrr:acc.reverse[k]? =Ad (acc.reverse[k]'(Am)):=Aqx Am;have hs:Hg (spA os acc.reverse) k=⟨E5 o,acc.reverse[k]'(Am),1⟩:=by
    unfold Hg;rw[Aqy,AbE ho hrr];rfl
   have ih:=ih (k+1) (by have:=congrArg List.tail hr;simpa using this);have hop:=hob k o _ ho hrr;rw[Aje hlen Ab (hlt k o ho)] at hop;rw[Aqp,List.replicate_succ,List.replicate_succ];refine⟨?_,by rw[← List.replicate_succ];exact ih⟩;rw[hs];exact⟨rfl,hop⟩
 refine KS (l0:=l0) (l1:=l1) ks0 (spA os acc.reverse) (Au (Ae os+1) H) ks (hobl 0 os Aj) h h0 hz hm (by rw[k1,k2];exact hB) hsp Aj (by simp[Aqy,List.getElem?_replicate])
end
variable{Q:Exit→Act→World→Prop}
theorem SA {n:Nat}{c:Cx}{x y:Code}{l:Fr}{S:Type}(inv:S→Prop)(fr:S→Fr)(hp:S→List Ent)(h:WC P n c x (Exit.then (LU n c inv fr hp) Q) l H)(h2:∀s,inv s→WC P n c y Q (fr s) (hp s)) :
  WC P n c x (Exit.then (λa w=>y.wp P Q a w) Q) l H:=λa w Z ha hw=>wp_mono (h a w Z ha hw) λe a w q=>by
 cases e with
 | normal=>obtain⟨s,Z,hi,hs,ht⟩:=q;exact h2 s hi a w Z hs ht
 | _=>exact q
theorem Z2 {n:Nat}{c:Cx}{x y:Code}{l:Fr}(l1:Fr)(H1:List Ent)(h:WC P n c x (Exit.then (Mid n c l1 H1) Q) l H)(h2:WC P n c y Q l1 H1) :
  WC P n c x (Exit.then (λa w=>y.wp P Q a w) Q) l H:=λa w Z ha hw=>wp_mono (h a w Z ha hw) λe a w q=>by
 cases e with
 | normal=>obtain⟨Z,h3,h4⟩:=q;exact h2 a w Z h3 h4
 | _=>exact q
end Go.Proofs.YtiddaamglmmnaaaGreatDoor.Q
