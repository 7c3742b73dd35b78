/-
  Texts of the proof, put together: AL, FwA, FwB, QA, FwC, FwD, QB, PlA, PQ0, QC, FwE, FwF, FwH, FwK, QD, QE, QR, QS, QZ.
-/
import Derived.Test.YtmjlemhondjfhaaGreatDoorProg
import Derived.WalkKit
import Derived.Deep.QuietTactic
import Derived.Deep.LoopGhost
import Derived.Lib.Strings
import Derived.Scope
import GoSem.Core.View
import GoSem.Op.String
import Derived.IntWalk
import Derived.Lib.Bytealg
import Derived.Laws.AppendOwn
import Derived.Laws.OwnMore
import Derived.Great.FillDense
import Derived.Laws.BytesString
import Derived.Lib.Builder
import Derived.Lib.UnsafeStr
import Derived.Lib.AppendStr
import Derived.Laws.Externs
namespace Go.Proofs.YtmjlemhondjfhaaGreatDoor
open Go
abbrev LZ:=@Tryz.isAgg100
abbrev Lw:=@Tryz.isAgg111
abbrev Lv:=@Tryz.isAgg143
abbrev Q9:=@Tryz.isAgg154
abbrev G8:=@Tryz.isAgg174
abbrev NF:=@Tryz.isAgg175
abbrev E5:=@Tryz.isAgg22
abbrev Lp:=@Tryz.isAgg23
abbrev Qh:=@Tryz.isAgg24
abbrev LE:=@Tryz.isAgg26
abbrev DL:=@Tryz.isAgg27
abbrev Rx:=@Tryz.isAgg29
abbrev Df:=@Tryz.isAgg3
abbrev Xb:=@Tryz.isAgg30
abbrev Qg:=@Tryz.isAgg4
abbrev Yw:=@Tryz.isAgg47
abbrev Eo:=@Tryz.isAgg50
abbrev Nb:=@Tryz.isAgg52
abbrev Kl:=@Tryz.isAgg60
abbrev ST:=@Tryz.isAgg63
abbrev DV:=@Tryz.isAgg68
abbrev Od:=@Tryz.isAgg70
abbrev Dp:=@Tryz.isAgg9
abbrev SS:=@Tryz.call119
abbrev Kk:=@Tryz.call121
abbrev NE:=@Tryz.call137
abbrev SR:=@Tryz.call149
abbrev ON:=@Tryz.call153
abbrev Rw:=@Tryz.call16
abbrev IT:=@Tryz.call165
abbrev Kj:=@Tryz.call168
abbrev SQ:=@Tryz.call23
abbrev OM:=@Tryz.call37
abbrev UG:=@Tryz.call51
abbrev UF:=@Tryz.call56
abbrev OL:=@Tryz.call59
abbrev OK:=@Tryz.call61
abbrev Yv:=@Tryz.call70
abbrev yk8:=@Tryz.call8
abbrev Yu:=@Tryz.call85
abbrev VN:=@Tryz.results103
abbrev Q8:=@Tryz.results119
abbrev ND:=@Tryz.results121
abbrev OJ:=@Tryz.results139
abbrev SP:=@Tryz.results141
abbrev OI:=@Tryz.results16
abbrev VM:=@Tryz.results167
abbrev VL:=@Tryz.results173
abbrev VK:=@Tryz.results180
abbrev Xa:=@Tryz.results19
abbrev SO:=@Tryz.results31
abbrev OH:=@Tryz.results32
abbrev Aa1:=@Tryz.results36
abbrev SN:=@Tryz.results40
abbrev WZ:=@Tryz.results42
abbrev WY:=@Tryz.results49
abbrev Yt:=@Tryz.results50
abbrev WX:=@Tryz.results55
abbrev WW:=@Tryz.results62
abbrev Aa0:=@Tryz.results64
abbrev UE:=@Tryz.results70
abbrev Ys:=@Tryz.results8
abbrev yr9:=@Tryz.results9
abbrev Yr:=@Tryz.results95
abbrev En:=@Tryz.sizeOf100
abbrev GW:=@Tryz.sizeOf111
abbrev GV:=@Tryz.sizeOf143
abbrev Q7:=@Tryz.sizeOf154
abbrev VJ:=@Tryz.sizeOf160
abbrev SM:=@Tryz.sizeOf174
abbrev HH:=@Tryz.sizeOf175
abbrev SL:=@Tryz.sizeOf190
abbrev Dn:=@Tryz.sizeOf22
abbrev J1:=@Tryz.sizeOf23
abbrev LY:=@Tryz.sizeOf24
abbrev Gy:=@Tryz.sizeOf26
abbrev GF:=@Tryz.sizeOf27
abbrev Rv:=@Tryz.sizeOf29
abbrev CK:=@Tryz.sizeOf3
abbrev Yq:=@Tryz.sizeOf30
abbrev Jz:=@Tryz.sizeOf4
abbrev WV:=@Tryz.sizeOf47
abbrev C8:=@Tryz.sizeOf50
abbrev EX:=@Tryz.sizeOf52
abbrev Na:=@Tryz.sizeOf58
abbrev EW:=@Tryz.sizeOf60
abbrev Kb:=@Tryz.sizeOf63
abbrev DU:=@Tryz.sizeOf68
abbrev CJ:=@Tryz.sizeOf70
abbrev OG:=@Tryz.sizeOf72
abbrev CE:=@Tryz.sizeOf9
abbrev OF:=@Tryz.sizeOf90
abbrev Gh:=@Tryz.underlying100
abbrev CT:=@Tryz.underlying111
abbrev E4:=@Tryz.underlying139
abbrev G7:=@Tryz.underlying143
abbrev Q6:=@Tryz.underlying154
abbrev Q5:=@Tryz.underlying156
abbrev VI:=@Tryz.underlying160
abbrev NC:=@Tryz.underlying162
abbrev SK:=@Tryz.underlying174
abbrev Ki:=@Tryz.underlying175
abbrev HG:=@Tryz.underlying177
abbrev SJ:=@Tryz.underlying181
abbrev JS:=@Tryz.underlying187
abbrev JR:=@Tryz.underlying190
abbrev SI:=@Tryz.underlying195
abbrev C7:=@Tryz.underlying22
abbrev Id:=@Tryz.underlying23
abbrev LX:=@Tryz.underlying24
abbrev CM:=@Tryz.underlying26
abbrev Ew:=@Tryz.underlying27
abbrev CZ:=@Tryz.underlying29
abbrev yu3:=@Tryz.underlying3
abbrev Ru:=@Tryz.underlying35
abbrev Aay:=@Tryz.underlying40
abbrev Aax:=@Tryz.underlying44
abbrev MZ:=@Tryz.underlying47
abbrev CL:=@Tryz.underlying50
abbrev Qf:=@Tryz.underlying52
abbrev EV:=@Tryz.underlying60
abbrev Yp:=@Tryz.underlying63
abbrev BD:=@Tryz.underlying70
abbrev Rt:=@Tryz.underlying72
abbrev Acg:=@Tryz.underlying77
abbrev EU:=@Tryz.underlying81
abbrev C4:=@Tryz.underlying9
abbrev SH:=@Tryz.zeroValue100
abbrev SG:=@Tryz.zeroValue143
abbrev yz4:=@Tryz.zeroValue4
abbrev SF:=@Tryz.zeroValue50
abbrev UD:=@Tryz.zeroValue52
abbrev UC:=@Tryz.zeroValue60
abbrev Yo:=@Tryz.zeroValue63
abbrev Oc:=@Tryz.zeroValue70
abbrev Aaw:=@Tryz.zeroValue72
abbrev VH:=@Tryz.zeroValue9
abbrev Qe:=@Tryz.zeroValue90
theorem Aa {α:Sort _}{a:α}:a=a:=rfl
abbrev AeG:=@decide_eq_false_iff_not
abbrev AeH:=@decide_eq_true_eq
abbrev AeI:=@Bool.and_eq_true
abbrev AeJ:=@decide_eq_false
abbrev AeK:=@Bool.false_eq_true
abbrev AeL:=@Bool.not_true
abbrev AeM:=@cond_false
abbrev AeN:=@List.getElem?_eq_getElem
abbrev AeO:=@List.getD_eq_getElem?_getD
abbrev AeP:=@Bool.true_and
abbrev AeQ:=@decide_eq_true
abbrev AeR:=@Nat.lt_succ_self
abbrev AeS:=@Bool.false_or
abbrev AeT:=@Bool.false_and
abbrev AeU:=@Bool.not_false
abbrev AeV:=@Bool.and_false
abbrev AeW:=@cond_true
abbrev AeX:=@Bool.and_true
abbrev AeY:=@Bool.or_false
abbrev AeZ:=@List.length_cons
abbrev Afa:=@Bool.or_true
abbrev Afb:=@Bool.true_or
abbrev Afc:=@List.mem_of_getElem?
abbrev Afd:=@List.Perm.refl
abbrev Afe:=@Bool.not_eq_true'
abbrev Aff:=@List.Perm.cons
abbrev Afg:=@Bool.or_eq_false_iff
abbrev Afh:=@if_false
abbrev Afi:=@List.length_map
abbrev Afj:=@Bool.or_eq_true
abbrev Afk:=@Bool.and_eq_false_iff
abbrev Afl:=@List.length_append
abbrev Afm:=@Nat.le_refl
abbrev Afn:=@if_true
abbrev Afo:=@List.mem_singleton
abbrev Afp:=@List.eq_nil_of_length_eq_zero
abbrev Afq:=@Option.getD_some
abbrev Afr:=@List.getElem?_map
abbrev Afs:=@Bool.eq_iff_iff
abbrev Aft:=@Bool.not_eq_false'
abbrev Afu:=@Nat.zero_add
abbrev Afv:=@Nat.zero_le
abbrev Afw:=@List.all_eq_true
abbrev Afx:=@Int.le_refl
abbrev Afy:=@of_decide_eq_true
abbrev Afz:=@if_neg
abbrev Af0:=@List.getElem?_take
abbrev Af1:=@List.length_singleton
abbrev Af2:=@List.append_assoc
abbrev Af3:=@List.cons_append
abbrev Af4:=@List.mem_cons
abbrev Af5:=@List.getElem?_append_left
abbrev Af6:=@if_pos
abbrev Af7:=@List.length_nil
abbrev Af8:=@List.length_take
abbrev Af9:=@List.length_drop
abbrev AfA:=@List.map_cons
abbrev AfB:=@List.take_append_drop
abbrev AfC:=@List.map_map
abbrev AfD:=@List.append_nil
abbrev AfE:=@of_decide_eq_false
abbrev AfF:=@List.nil_append
open Go Go.RowKit
set_option linter.unusedVariables false
abbrev Fr:=List (Nat×Value)
def look:Fr→Nat→Option Value
 | [],_=>none
 | p::l,i=>bif Nat.beq p.1 i then some p.2 else look l i
theorem Cw (j:Nat)(v:Value)(l:Fr)(i:Nat):look ((j,v)::l) i=if j=i then some v else look l i:=by
 by_cases h:j=i
 ·subst h;simp[look]
 ·have:Nat.beq j i=false:=by
   cases hb:Nat.beq j i
   ·rfl
   ·exact absurd (Nat.eq_of_beq_eq_true hb) h
  simp[look,this,h]
structure Dg (n:Nat) (l:Fr) (a:Act):Prop where
 size:a.tmps.size=n
 defers:a.defers=[]
 tm:∀i v,look l i=some v→a.tmps[i]? =some v
def ev:Fr→Operand→Option Value
 | l,.tmp t=>look l t
 | _,.const v=>some v
 | _,.global g=>some (.pointer (some ⟨g,0,none⟩))
 | _,.func f=>some (.func (.func f) #[] #[])
section
variable {n : Nat} {l l' : Fr} {a : Act}
theorem Dg.eval (h:Dg n l a){x:Operand}{v:Value}(hx:ev l x=some v):a.eval x=v:=by
 cases x with
 | tmp t=>simp[Act.eval,Array.getD_eq_getD_getElem?,h.tm t v hx]
 | const u=>simp only[ev,Option.some.injEq] at hx;subst hx;rfl
 | global g=>simpa[ev,Act.eval] using hx
 | func f=>simpa[ev,Act.eval] using hx
theorem Dg.put (h:Dg n l a){d:Nat}(hd:Nat.blt d n=true)(v:Value):Dg n ((d,v)::l) (a.put (some d) v):=by
 have hd':d<n:=by simpa using hd
 refine⟨by simp[Act.put,h.size],by simp[Act.put,h.defers],λi u hi=>?_⟩;rw[Cw] at hi;simp only[Act.put,Array.getElem?_setIfInBounds]
 split at hi
 ·rename_i e;subst e;simp at hi;subst hi;simp[h.size,hd']
 ·rename_i e;rw[Afz e];exact h.tm i u hi
theorem Dg.put_none (h:Dg n l a)(v:Value):Dg n l (a.put none v):=h
def AH:Fr→Fr→Prop
 | [],_=>True
 | p::r,l=>look l p.1=some p.2∧AH r l
theorem AH.look:∀{l' l:Fr},AH l' l→∀i v,look l' i=some v→Proofs.YtmjlemhondjfhaaGreatDoor.look l i=some v
 | [],_,_,i,v,h=>by simp[Proofs.YtmjlemhondjfhaaGreatDoor.look] at h
 | p::r,l,⟨h1,h2⟩,i,v,h=>by
  obtain⟨j,u⟩:=p;rw[Cw] at h
  split at h
  ·rename_i e;subst e;simp at h;subst h;exact h1
  ·exact AH.look h2 i v h
theorem Dg.sub (h:Dg n l a)(hs:AH l' l):Dg n l' a:=⟨h.size,h.defers,λi v hi=>h.tm i v (hs.look i v hi)⟩
end
inductive Ent where
 | blk (b:Nat) (o:Obj)
 | row (v:Value) (e:TypeId) (sz:Nat) (n:Nat) (xs:List Value)
def Ent.foot:Ent→List Nat
 | .blk b _=>[b]
 | .row v _ _ _ _=>v.ownBlock.toList
def Ent.holds (w:World):Ent→Prop
 | .blk b o=>w.heap[b]? =some o
 | .row v e sz n xs=>w.ownsRow 0 e sz v n xs
theorem Ent.lt {w:World}{e:Ent}(h:e.holds w){k:Nat}(hk:k∈e.foot):k<w.heap.size:=by
 cases e with
 | blk b o=>simp[Ent.foot] at hk;subst hk;exact(Array.getElem?_eq_some_iff.1 h).1
 | row v e sz n xs=>simp[Ent.foot,Option.mem_toList] at hk;exact(World.ownsRow.lt h k hk).2
theorem Ent.keep {w w':World}{e:Ent}(h:e.holds w)(hk:∀k∈e.foot,w'.heap[k]? =w.heap[k]?):e.holds w':=by
 cases e with
 | blk b o=>exact(hk b (by simp[Ent.foot])).trans h
 | row v e sz n xs=>
  refine⟨h.1,?_⟩;rcases h.2 with hn | ⟨g,cap,cur,rfl,hb,hgg,rest⟩
  ·exact .inl hn
  ·exact .inr ⟨g,cap,cur,rfl,hb,(hk g (by simp[Ent.foot,Value.ownBlock])).trans hgg,rest⟩
structure St (w0:World) (M:List Nat) (H:List Ent) (w:World):Prop where
 os:w.os=w0.os
 tape:w.tape=w0.tape
 output:w.output=w0.output
 size:w0.heap.size≤w.heap.size
 old:∀k,k<w0.heap.size→k ∉ M→w.heap[k]? =w0.heap[k]?
 has:∀e∈H,e.holds w
 own:∀e∈H,∀k∈e.foot,w0.heap.size≤k∨k∈M
 dis:H.Pairwise (λe e'=>∀k∈e.foot,k ∉ e'.foot)
section
variable {w0 w w' : World} {M M2 : List Nat} {H H' Hr Hin Hout : List Ent}
theorem St.refl (w:World)(M:List Nat):St w M [] w:=⟨rfl,rfl,rfl,Afm _,λ_ _ _=>rfl,by simp,by simp,.nil⟩
theorem St.enter (h:St w0 M H w):St w (H.flatMap Ent.foot) H w:=
 ⟨rfl,rfl,rfl,Afm _,λ_ _ _=>rfl,h.has,λe he k hk=>.inr (List.mem_flatMap.2 ⟨e,he,hk⟩),h.dis⟩
theorem St.below (h:St w0 [] H w):Below w0.heap.size w0 w:=⟨h.os,h.tape,h.output,h.size,λk hk=>h.old k hk (by simp)⟩
theorem St.of_below (h:Below w0.heap.size w0 w):St w0 [] [] w:=⟨h.os,h.tape,h.output,h.size,λk hk _=>h.block k hk,by simp,by simp,.nil⟩
theorem St.sub (h:St w0 M H w)(hs:H'.Sublist H):St w0 M H' w:=
 ⟨h.os,h.tape,h.output,h.size,h.old,λe he=>h.has e (hs.subset he),λe he=>h.own e (hs.subset he),h.dis.sublist hs⟩
theorem St.perm (h:St w0 M H w)(hp:H.Perm H'):St w0 M H' w:=
 ⟨h.os,h.tape,h.output,h.size,h.old,λe he=>h.has e (hp.mem_iff.2 he),λe he=>h.own e (hp.mem_iff.2 he),
  (hp.pairwise_iff (λhxy k hk hk'=>hxy k hk' hk)).1 h.dis⟩
theorem AZ:∀{H:List Ent} {i:Nat} {e:Ent},H[i]? =some e→H.Perm (e::H.eraseIdx i)
 | x::r,0,e,h=>by simp at h;subst h;simp
 | x::r,i+1,e,h=>by
  simp at h;exact((AZ h).cons x).trans (List.Perm.swap e x _)
theorem St.front (h:St w0 M H w){i:Nat}{e:Ent}(hi:H[i]? =some e):St w0 M (e::H.eraseIdx i) w:=h.perm (AZ hi)
theorem St.drew (h:St w0 M H w):St w0 M H w.drew:=
 ⟨h.os,h.tape,h.output,h.size,h.old,λe he=>Ent.keep (h.has e he) λ_ _=>rfl,h.own,h.dis⟩
theorem St.drawn (h:St w0 M H w)(k:Nat):St w0 M H { w with drawn:=k }:=
 ⟨h.os,h.tape,h.output,h.size,h.old,λe he=>Ent.keep (h.has e he) λ_ _=>rfl,h.own,h.dis⟩
theorem St.mem_lt (h:St w0 M H w){e:Ent}(he:e∈H){k:Nat}(hk:k∈e.foot):k<w.heap.size:=Ent.lt (h.has e he) hk
theorem St.call (h:St w0 M (Hin++Hr) w)(h':St w M2 Hout w')(hM:∀k∈M2,∃e∈Hin,k∈e.foot):St w0 M (Hout++Hr) w':=by
 have hd:=List.pairwise_append.1 h.dis;have hM2:∀k,k<w0.heap.size→k ∉ M→k ∉ M2:=λk hk hkM hkM2=>by
  obtain⟨e,he,hke⟩:=hM k hkM2;rcases h.own e (List.mem_append_left _ he) k hke with h1 | h1
  ·omega
  ·exact hkM h1
 have hr:∀e∈Hr,∀k∈e.foot,k<w.heap.size∧k ∉ M2:=λe he k hk=>by
  refine⟨h.mem_lt (List.mem_append_right _ he) hk,λhkM2=>?_⟩;obtain⟨e',he',hke'⟩:=hM k hkM2;exact hd.2.2 e' he' e he k hke' hk
 refine⟨h'.os.trans h.os,h'.tape.trans h.tape,h'.output.trans h.output,Nat.le_trans h.size h'.size,λk hk hkM=>?_,λe he=>?_,λe he k hk=>?_,?_⟩
 ·exact(h'.old k (Nat.lt_of_lt_of_le hk h.size) (hM2 k hk hkM)).trans (h.old k hk hkM)
 ·rcases List.mem_append.1 he with he | he
  ·exact h'.has e he
  ·exact Ent.keep (h.has e (List.mem_append_right _ he)) λk hk=>h'.old k (hr e he k hk).1 (hr e he k hk).2
 ·rcases List.mem_append.1 he with he | he
  ·rcases h'.own e he k hk with h1 | h1
   ·exact .inl (Nat.le_trans h.size h1)
   ·obtain⟨e',he',hke'⟩:=hM k h1;exact h.own e' (List.mem_append_left _ he') k hke'
  ·exact h.own e (List.mem_append_right _ he) k hk
 ·refine List.pairwise_append.2 ⟨h'.dis,hd.2.1,λe he e' he' k hk hk'=>?_⟩;rcases h'.own e he k hk with h1 | h1
  ·have:=(hr e' he' k hk').1;omega
  ·exact(hr e' he' k hk').2 h1
theorem St.call0 (h:St w0 M H w)(h':St w [] Hout w'):St w0 M (Hout++H) w':=
 St.call (Hin:=[]) (by simpa using h) h' (by simp)
theorem St.set (h:St w0 M H w){i:Nat}{e e':Ent}(hi:H[i]? =some e)(os:w'.os=w.os)(tape:w'.tape=w.tape)(output:w'.output=w.output)(size:w.heap.size≤w'.heap.size)
  (hb:∀k,k<w.heap.size→k ∉ e.foot→w'.heap[k]? =w.heap[k]?) (he:e'.holds w') (hf:∀k∈e'.foot,k∈e.foot∨w.heap.size≤k):St w0 M (H.set i e') w':=by
 have hp:(e::H.eraseIdx i).Perm H:=(AZ hi).symm;have h1:St w0 M ([e]++H.eraseIdx i) w:=h.perm (AZ hi);have hil:i<H.length:=(List.getElem?_eq_some_iff.1 hi).1;have h2:St w e.foot [e'] w':=
  ⟨os,tape,output,size,hb,by simpa using he,by simpa using λk hk=>(hf k hk).symm,by simp⟩
 have h3:=h1.call h2 (λk hk=>⟨e,by simp,hk⟩);have hq:(H.set i e')[i]? =some e':=by simp[hil]
 have:=AZ hq;rw[List.eraseIdx_set_eq] at this;exact h3.perm this.symm
theorem St.alloc (h:St w0 M H w)(o:Obj):St w0 M (.blk w.heap.size o::H) (w.alloc o):=by
 have h2:St w [] [.blk w.heap.size o] (w.alloc o):=
  ⟨rfl,rfl,rfl,by simp,λk hk _=>Below.heap_alloc w o k hk,by simpa[Ent.holds] using heap_alloc_new w o,by simp[Ent.foot],by simp⟩
 exact h.call0 h2
end
section
variable (P : Program) (n : Nat) (w0 : World) (M : List Nat)
def WL (ops:Array Oper)(Q:Exit→Act→World→Prop)(rest:List Oper)(l:Fr)(H:List Ent):Prop:=∀a w,Dg n l a→St w0 M H w→wpList P ops Q rest a w
def WC (c:Code)(Q:Exit→Act→World→Prop)(l:Fr)(H:List Ent):Prop:=∀a w,Dg n l a→St w0 M H w→c.wp P Q a w
def WK (K:Act→World→Prop)(l:Fr)(H:List Ent):Prop:=∀a w,Dg n l a→St w0 M H w→K a w
def Ka {S:Type}(inv:S→Prop)(fr:S→Fr)(hp:S→List Ent):Act→World→Prop:=λa w=>∃s,inv s∧Dg n (fr s) a∧St w0 M (hp s) w
def B4 (l:Fr)(H:List Ent)(o:Oper)(v:Value):Prop:=∀a w,Dg n l a→St w0 M H w→(execOp a.eval o).run P w = .ok (.value v) w
end
def Ym (w:World)(M:List Nat)(Φ:Value→List Ent→Prop):Ending→World→Prop:=λe w'=>∃v H,e = .returned v∧St w M H w'∧Φ v H
def I5 (w:World)(v:Value):Ending→World→Prop:=λe w'=>e = .returned v∧St w [] [] w'
section
variable {P : Program} {n : Nat} {w0 : World} {M : List Nat} {ops : Array Oper} {Q : Exit → Act → World → Prop} {rest : List Oper} {l l' : Fr} {H H' : List Ent} {x y c : Code} {K : Act → World → Prop}
theorem WC.sub (hl:AH l' l)(hH:H'.Sublist H)(h:WC P n w0 M c Q l' H'):WC P n w0 M c Q l H:=λa w ha hw=>h a w (ha.sub hl) (hw.sub hH)
theorem WK.sub (hl:AH l' l)(hH:H'.Sublist H)(h:WK n w0 M K l' H'):WK n w0 M K l H:=λa w ha hw=>h a w (ha.sub hl) (hw.sub hH)
theorem WL.sub (hl:AH l' l)(hH:H'.Sublist H)(h:WL P n w0 M ops Q rest l' H'):WL P n w0 M ops Q rest l H:=λa w ha hw=>h a w (ha.sub hl) (hw.sub hH)
theorem WL.front {i:Nat}{e:Ent}(hi:H[i]? =some e)(h:WL P n w0 M ops Q rest l (e::H.eraseIdx i)):WL P n w0 M ops Q rest l H:=λa w ha hw=>h a w ha (hw.front hi)
theorem Ak (h:WC P n w0 M x (Exit.then (λa w=>y.wp P Q a w) Q) l H):WC P n w0 M (x.seq y) Q l H:=λa w ha hw=>wp_seq (h a w ha hw)
theorem If {S:Type}(inv:S→Prop)(fr:S→Fr)(hp:S→List Ent)(h:WC P n w0 M x (Exit.then (Ka n w0 M inv fr hp) Q) l H)(h2:∀s,inv s→WC P n w0 M y Q (fr s) (hp s)) :
  WC P n w0 M (x.seq y) Q l H:=λa w ha hw=>wp_seq (wp_mono (h a w ha hw) λe a w q=>by
   cases e with
   | normal=>obtain⟨s,hi,hs,ht⟩:=q;exact h2 s hi a w hs ht
   | _=>exact q)
theorem AC {S:Type}{inv:S→Prop}{fr:S→Fr}{hp:S→List Ent}(s:S)(hi:inv s)(hl:AH (fr s) l)(hH:(hp s).Sublist H):WK n w0 M (Ka n w0 M inv fr hp) l H:=
 λ_ _ ha hw=>⟨s,hi,ha.sub hl,hw.sub hH⟩
theorem Ar (h:WK n w0 M K l H):WK n w0 M (Exit.then K Q .normal) l H:=h
theorem Av {id:Nat}(h:WK n w0 M (Q (.exit id)) l H):WK n w0 M (Exit.then K Q (.exit id)) l H:=h
theorem Ab (h:WK n w0 M (Q .ret) l H):WK n w0 M (Exit.then K Q .ret) l H:=h
theorem AB {id:Nat}(h:WK n w0 M (Q .normal) l H):WK n w0 M (Exit.inBlock id Q .normal) l H:=h
theorem A3 {id:Nat}(h:WK n w0 M (Q .ret) l H):WK n w0 M (Exit.inBlock id Q .ret) l H:=h
theorem AA {J:Prop}(b:Bool)(h1:b=true→J)(h2:b=false→J):J:=by cases b;exact h2 rfl;exact h1 rfl
def Mid (n:Nat)(w0:World)(M:List Nat)(φ:Prop)(l:Fr)(H:List Ent):Act→World→Prop:=λa w=>φ∧Dg n l a∧St w0 M H w
theorem A5 (l1:Fr)(H1:List Ent){φ:Prop}(h:WC P n w0 M x (Exit.then (Mid n w0 M φ l1 H1) Q) l H)(h2:φ→WC P n w0 M y Q l1 H1):WC P n w0 M (x.seq y) Q l H:=λa w ha hw=>
 wp_seq (wp_mono (h a w ha hw) λe a w q=>by
  cases e with
  | normal=>exact h2 q.1 a w q.2.1 q.2.2
  | _=>exact q)
theorem Bt {φ:Prop}{l1:Fr}{H1:List Ent}(hφ:φ)(hl:AH l1 l)(hH:H1.Sublist H):WK n w0 M (Mid n w0 M φ l1 H1) l H:=λ_ _ ha hw=>⟨hφ,ha.sub hl,hw.sub hH⟩
theorem fi {k:IntKind}{a b:Int}(h:a=b):some (Value.int k a)=some (Value.int k b):=by rw[h]
theorem fb {a b:Bool}(h:a=b):some (Value.bool a)=some (Value.bool b):=by rw[h]
theorem AG (h:WC P n w0 M y Q l H):WK n w0 M (λa w=>y.wp P Q a w) l H:=h
theorem Aw (h:WK n w0 M (Q .normal) l H):WC P n w0 M .skip Q l H:=λa w ha hw=>wp_skip (h a w ha hw)
theorem Bn {id:Nat}(h:WK n w0 M (Q (.exit id)) l H):WC P n w0 M (.exit id) Q l H:=λa w ha hw=>wp_exit (h a w ha hw)
theorem Ap (h:WK n w0 M (Q .ret) l H):WC P n w0 M .ret Q l H:=λa w ha hw=>wp_ret (h a w ha hw)
theorem A6 {id:Nat}(h:WC P n w0 M c (Exit.inBlock id Q) l H):WC P n w0 M (.block id c) Q l H:=λa w ha hw=>wp_block (h a w ha hw)
theorem AW {id:Nat}(h:WK n w0 M (Q .normal) l H):WK n w0 M (Exit.inBlock id Q (.exit id)) l H:=λa w ha hw=>by
 show if id=id then _ else _
 rw[Af6 rfl];exact h a w ha hw
theorem OO {id id':Nat}(hne:Nat.beq id' id=false)(h:WK n w0 M (Q (.exit id')) l H):WK n w0 M (Exit.inBlock id Q (.exit id')) l H:=λa w ha hw=>by
 show if id'=id then _ else _
 rw[Afz (λe=>by subst e;simp at hne)];exact h a w ha hw
theorem C1 {o:Operand}{b:Bool}(ho:ev l o=some (.bool b))(h1:b=true→WC P n w0 M x Q l H)(h2:b=false→WC P n w0 M y Q l H):WC P n w0 M (.cond o x y) Q l H:=
 λa w ha hw=>wp_cond_split (ha.eval ho) (λe=>h1 e a w ha hw) (λe=>h2 e a w ha hw)
theorem D7 {o:Operand}{b:Bool}(ho:ev l o=some (.bool b))(hb:b=true)(h:WC P n w0 M x Q l H):WC P n w0 M (.cond o x y) Q l H:=
 λa w ha hw=>by subst hb;exact wp_cond_true (ha.eval ho) (h a w ha hw)
theorem CS {o:Operand}{b:Bool}(ho:ev l o=some (.bool b))(hb:b=false)(h:WC P n w0 M y Q l H):WC P n w0 M (.cond o x y) Q l H:=
 λa w ha hw=>by subst hb;exact wp_cond_false (ha.eval ho) (h a w ha hw)
theorem HK {S:Type}(inv:S→Prop)(fr:S→Fr)(hp:S→List Ent)(μ:S→Nat)(s0:S)(h0:inv s0)(hl:AH (fr s0) l)(hH:(hp s0).Sublist H)
  (round:∀s,inv s→WC P n w0 M c (Exit.then (Ka n w0 M (λs'=>inv s'∧μ s'<μ s) fr hp) Q) (fr s) (hp s)):WC P n w0 M (.loop c) Q l H:=λa w ha hw=>by
 refine wp_loop_ghost (λk a w=>∃s,μ s=k∧inv s∧Dg n (fr s) a∧St w0 M (hp s) w) (μ s0) ⟨s0,rfl,h0,ha.sub hl,hw.sub hH⟩ ?_;rintro k a w ⟨s,rfl,hi,ha,hw⟩;refine wp_mono (round s hi a w ha hw) λe a' w' q=>?_
 cases e with
 | normal=>
  obtain⟨s',⟨hi',hlt⟩,ha',hw'⟩:=q;exact⟨μ s',hlt,s',rfl,hi',ha',hw'⟩
 | _=>exact q
theorem Af {id:Nat}{ops:List Oper}(h:WL P n w0 M ops.toArray Q ops l H):WC P n w0 M (.region id ops.toArray false) Q l H:=λa w ha hw=>wp_region_lit (h a w ha hw)
theorem Ah (h:WK n w0 M (Q .normal) l H):WL P n w0 M ops Q [] l H:=λa w ha hw=>wpList_nil (h a w ha hw)
def Ea (ops:Array Oper)(j:Nat):Option Nat:=(ops[j]?).bind (·.dst)
theorem Ed {a:Act}{j d:Nat}{b:Bool}(ha:Dg n l a)(hj:Ea ops j=some d)(hv:look l d=some (.bool b)):yielded ops a.tmps j=some b:=by
 unfold Ea at hj;simp[yielded,hj,ha.tm d _ hv]
theorem Hu {a:Act}{j d:Nat}(ha:Dg n l a)(hj:Ea ops j=some d)(hv:look l d=some undef):yielded ops a.tmps j=none:=by
 unfold Ea at hj;simp[yielded,hj,ha.tm d _ hv,undef]
theorem AL {d:Option Nat}{op:Op}{ty:TypeId}{pos:String}{af:Array Edge}{j dj:Nat}{want b:Bool}(hj:Ea ops j=some dj)(hv:look l dj=some (.bool b))(hb:b=want)
  (h:WL P n w0 M ops Q ({ dst:=d,op:=op,type:=ty,pos:=pos,after:=af,guard:=none }::rest) l H) :
  WL P n w0 M ops Q ({ dst:=d,op:=op,type:=ty,pos:=pos,after:=af,guard:=some (j,want) }::rest) l H:=λa w ha hw=>by
 have h1:=h a w ha hw;have hy:=Ed ha hj hv;subst hb;simp only[wpList,Region.wanted,hy,beq_self_eq_true,Afn] at h1 ⊢;exact h1
theorem A2 {d:Nat}{op:Op}{ty:TypeId}{pos:String}{af:Array Edge}{j dj:Nat}{want b:Bool}(hj:Ea ops j=some dj)(hv:look l dj=some (.bool b))(hb:b = !want)(hn:Nat.blt d n=true)
  (h:WL P n w0 M ops Q rest ((d,undef)::l) H) :
  WL P n w0 M ops Q ({ dst:=some d,op:=op,type:=ty,pos:=pos,after:=af,guard:=some (j,want) }::rest) l H:=λa w ha hw=>by
 have hy:=Ed ha hj hv;subst hb;refine wpList_skip ?_ (h _ w (ha.put hn _) hw);simp[Region.wanted,hy]
theorem BY {d:Nat}{op:Op}{ty:TypeId}{pos:String}{af:Array Edge}{j dj:Nat}{want:Bool}(hj:Ea ops j=some dj)(hv:look l dj=some undef)(hn:Nat.blt d n=true)
  (h:WL P n w0 M ops Q rest ((d,undef)::l) H) :
  WL P n w0 M ops Q ({ dst:=some d,op:=op,type:=ty,pos:=pos,after:=af,guard:=some (j,want) }::rest) l H:=λa w ha hw=>by
 have hy:=Hu ha hj hv;refine wpList_skip ?_ (h _ w (ha.put hn _) hw);simp[Region.wanted,hy]
theorem As {d:Nat}{op:Op}{ty:TypeId}{pos:String}{af:Array Edge}{v:Value}(hr:B4 P n w0 M l H { dst:=some d,op:=op,type:=ty,pos:=pos,after:=af,guard:=none } v)
  (hn:Nat.blt d n=true) (h:WL P n w0 M ops Q rest ((d,v)::l) H):WL P n w0 M ops Q ({ dst:=some d,op:=op,type:=ty,pos:=pos,after:=af,guard:=none }::rest) l H:=λa w ha hw=>
 wpList_plain rfl λK hK=>by
  unfold Oper.wp;rw[hr a w ha hw];exact hK _ _ (h _ w (ha.put hn v) hw)
theorem J2 {d:Nat}{op:Op}{ty:TypeId}{pos:String}{af:Array Edge}
  (hr:∀a w,Dg n l a→St w0 M H w→∃v w' H',(execOp a.eval { dst:=some d,op:=op,type:=ty,pos:=pos,after:=af,guard:=none }).run P w = .ok (.value v) w'∧St w0 M H' w'∧WL P n w0 M ops Q rest ((d,v)::l) H')
  (hn:Nat.blt d n=true):WL P n w0 M ops Q ({ dst:=some d,op:=op,type:=ty,pos:=pos,after:=af,guard:=none }::rest) l H:=λa w ha hw=>
 wpList_plain rfl λK hK=>by
  obtain⟨v,w',H',h1,h2,h3⟩:=hr a w ha hw;unfold Oper.wp;rw[h1];exact hK _ _ (h3 _ w' (ha.put hn v) h2)
theorem SV {op:Op}{ty:TypeId}{pos:String}{af:Array Edge}
  (hr:∀a w,Dg n l a→St w0 M H w→∃w' H',(execOp a.eval { dst:=none,op:=op,type:=ty,pos:=pos,after:=af,guard:=none }).run P w = .ok .skip w'∧St w0 M H' w'∧WL P n w0 M ops Q rest l H') :
  WL P n w0 M ops Q ({ dst:=none,op:=op,type:=ty,pos:=pos,after:=af,guard:=none }::rest) l H:=λa w ha hw=>
 wpList_plain rfl λK hK=>by
  obtain⟨w',H',h1,h2,h3⟩:=hr a w ha hw;unfold Oper.wp;rw[h1];exact hK _ _ (h3 _ w' (ha.put_none _) h2)
theorem KO {d:Nat}{op:Op}{ty:TypeId}{pos:String}{af:Array Edge}{f:FuncId}{args:Array Value}
  (hr:∀a w,Dg n l a→St w0 M H w→(execOp a.eval { dst:=some d,op:=op,type:=ty,pos:=pos,after:=af,guard:=none }).run P w = .ok (.enter f args) w)
  (hc:∀w,St w0 M H w→Calls P f args w (λe w'=>∃v H',e = .returned v∧St w0 M H' w'∧WL P n w0 M ops Q rest ((d,v)::l) H'))
  (hn:Nat.blt d n=true):WL P n w0 M ops Q ({ dst:=some d,op:=op,type:=ty,pos:=pos,after:=af,guard:=none }::rest) l H:=λa w ha hw=>
 wpList_plain rfl λK hK=>by
  unfold Oper.wp;rw[hr a w ha hw];refine(hc w hw).mono ?_;rintro e w' ⟨v,H',rfl,h2,h3⟩;exact hK _ _ (h3 _ w' (ha.put hn v) h2)
end
def B (l:List UInt8):ByteArray:=⟨l.toArray⟩
theorem GT (l:List UInt8):(B l).toList=l:=by
 rw[Go.ByteArray.toList_eq];rfl
theorem DK (l:List UInt8):(B l).size=l.length:=by simp[B,ByteArray.size]
theorem AdY (s:ByteArray):s=B s.data.toList:=by cases s;simp[B]
theorem fs {a b:List UInt8}(h:a=b):some (Value.string (B a))=some (Value.string (B b)):=by rw[h]
theorem U5 (p q:List UInt8):B p++B q=B (p++q):=by
 apply ByteArray.ext;simp[B,ByteArray.data_append]
theorem Ic (l:List UInt8)(i j:Nat):(B l).extract i j=B ((l.drop i).take (j-i)):=by
 rw[Lib.extract_eq];rfl
theorem Acf (l:List UInt8)(i:Nat):(B l)[i]? =l[i]?:=by
 by_cases h:i<(B l).size
 ·have h':i<l.length:=by rw[DK] at h;exact h
  rw[Go.ByteArray.getElem?_lt' _ _ h,AeN h'];rfl
 ·have h' : ¬ i<l.length:=by rw[DK] at h;exact h
  rw[Go.ByteArray.getElem?_ge' _ _ h,List.getElem?_eq_none (by omega)]
section
variable {P : Program} {n : Nat} {w0 : World} {M : List Nat} {l : Fr} {H : List Ent} {d : Option Nat} {x y c : Operand} {ty t t' : TypeId} {pos : String} {af : Array Edge} {g : Option (Nat × Bool)} {v u : Value}
theorem Am (h:ev l x=some v):B4 P n w0 M l H { dst:=d,op:=.move x,type:=ty,pos:=pos,after:=af,guard:=g } v:=λa w ha _=>by
 simp[execOp,ha.eval h]
theorem A0 (h:ev l x=some v):B4 P n w0 M l H { dst:=d,op:=.assign x,type:=ty,pos:=pos,after:=af,guard:=g } v:=λa w ha _=>by
 simp[execOp,ha.eval h]
theorem An {b:Bool}(hc:ev l c=some (.bool b))(hb:b=true)(h:ev l x=some v):B4 P n w0 M l H { dst:=d,op:=.pick c x y,type:=ty,pos:=pos,after:=af,guard:=g } v:=λa w ha _=>by
 subst hb;simp[execOp,ha.eval h,ha.eval hc,asBool]
theorem Ay {b:Bool}(hc:ev l c=some (.bool b))(hb:b=false)(h:ev l y=some v):B4 P n w0 M l H { dst:=d,op:=.pick c x y,type:=ty,pos:=pos,after:=af,guard:=g } v:=λa w ha _=>by
 subst hb;simp[execOp,ha.eval h,ha.eval hc,asBool]
theorem A7 {vs:Array Value}{i:Nat}(h:ev l x=some (.tuple vs))(hi:vs[i]? =some v):B4 P n w0 M l H { dst:=d,op:=.extract x i,type:=ty,pos:=pos,after:=af,guard:=g } v:=λa w ha _=>by
 simp[execOp,ha.eval h,Instr.extract,hi]
theorem BO {b:Bool}(h:ev l x=some (.bool b)):B4 P n w0 M l H { dst:=d,op:=.unOp .not t x,type:=ty,pos:=pos,after:=af,guard:=g } (.bool (!b)):=λa w ha _=>by
 simp[execOp,ha.eval h,Op.unary]
theorem AbW {k:IntKind}{m z:Int}(h:ev l x=some (.int k m))(hz:k.wrap (-m)=z):B4 P n w0 M l H { dst:=d,op:=.unOp .neg t x,type:=ty,pos:=pos,after:=af,guard:=g } (.int k z):=λa w ha _=>by
 simp[execOp,ha.eval h,Op.unary,Op.intArith,hz]
theorem BB (op:BinOp)(k k':IntKind)(p q:Int)(w:World):(eqGuard op t x y (.int k p) (.int k' q)).run P w = .ok () w:=by
 unfold eqGuard;split<;>simp
theorem Ec (op:BinOp)(p q:ByteArray)(w:World):(eqGuard op t x y (.string p) (.string q)).run P w = .ok () w:=by
 unfold eqGuard;split<;>simp
theorem MU (op:BinOp)(p q:Bool)(w:World):(eqGuard op t x y (.bool p) (.bool q)).run P w = .ok () w:=by
 unfold eqGuard;split<;>simp
section
variable {k : IntKind} {p q z : Int} (hx : ev l x = some (.int k p)) (hy : ev l y = some (.int k q))
include hx hy
theorem By (hz:k.wrap (p+q)=z):B4 P n w0 M l H { dst:=d,op:=.binOp .add t x y t',type:=ty,pos:=pos,after:=af,guard:=g } (.int k z):=λa w ha _=>by
 simp[execOp,ha.eval hx,ha.eval hy,BB,binOp,Op.intArith,hz]
theorem Gi (hz:k.wrap (p-q)=z):B4 P n w0 M l H { dst:=d,op:=.binOp .sub t x y t',type:=ty,pos:=pos,after:=af,guard:=g } (.int k z):=λa w ha _=>by
 simp[execOp,ha.eval hx,ha.eval hy,BB,binOp,Op.intArith,hz]
theorem Wm (hz:k.wrap (p*q)=z):B4 P n w0 M l H { dst:=d,op:=.binOp .mul t x y t',type:=ty,pos:=pos,after:=af,guard:=g } (.int k z):=λa w ha _=>by
 simp[execOp,ha.eval hx,ha.eval hy,BB,binOp,Op.intArith,hz]
theorem Ci:B4 P n w0 M l H { dst:=d,op:=.binOp .lss t x y t',type:=ty,pos:=pos,after:=af,guard:=g } (.bool (decide (p<q))):=λa w ha _=>by
 simp[execOp,ha.eval hx,ha.eval hy,BB,binOp,Op.intCmp]
theorem Hf:B4 P n w0 M l H { dst:=d,op:=.binOp .leq t x y t',type:=ty,pos:=pos,after:=af,guard:=g } (.bool (decide (p≤q))):=λa w ha _=>by
 simp[execOp,ha.eval hx,ha.eval hy,BB,binOp,Op.intCmp]
theorem Dc:B4 P n w0 M l H { dst:=d,op:=.binOp .gtr t x y t',type:=ty,pos:=pos,after:=af,guard:=g } (.bool (decide (q<p))):=λa w ha _=>by
 simp[execOp,ha.eval hx,ha.eval hy,BB,binOp,Op.intCmp]
theorem DP:B4 P n w0 M l H { dst:=d,op:=.binOp .geq t x y t',type:=ty,pos:=pos,after:=af,guard:=g } (.bool (decide (q≤p))):=λa w ha _=>by
 simp[execOp,ha.eval hx,ha.eval hy,BB,binOp,Op.intCmp]
theorem B7:B4 P n w0 M l H { dst:=d,op:=.binOp .eql t x y t',type:=ty,pos:=pos,after:=af,guard:=g } (.bool (decide (p=q))):=λa w ha _=>by
 have e:(p ==q)=decide (p=q):=by rw[Afs];simp
 simp[execOp,ha.eval hx,ha.eval hy,BB,binOp,Op.intCmp,e]
theorem CH:B4 P n w0 M l H { dst:=d,op:=.binOp .neq t x y t',type:=ty,pos:=pos,after:=af,guard:=g } (.bool (!decide (p=q))):=λa w ha _=>by
 have e:(p !=q) = !decide (p=q):=by rw[Afs];simp
 simp[execOp,ha.eval hx,ha.eval hy,BB,binOp,Op.intCmp,e]
end
section
variable {p q : List UInt8} (hx : ev l x = some (.string (B p))) (hy : ev l y = some (.string (B q)))
include hx hy
theorem C2 (hz:p.length+q.length≤9223372036854775807):B4 P n w0 M l H { dst:=d,op:=.binOp .add t x y t',type:=ty,pos:=pos,after:=af,guard:=g } (.string (B (p++q))):=λa w ha _=>by
 have : ¬ ((((B p).size+(B q).size:Nat):Int) > IntKind.i64.max):=by rw[DK,DK];simp[IntKind.max,IntKind.signed,IntKind.bits];omega
 simp only[execOp,ha.eval hx,ha.eval hy,Sem.run_bind,Ec,binOp,Op.stringOp,this,Afh,U5];simp
theorem QQ:B4 P n w0 M l H { dst:=d,op:=.binOp .leq t x y t',type:=ty,pos:=pos,after:=af,guard:=g } (.bool (Op.bytesLess p q||decide (p=q))):=λa w ha _=>by
 have e:(p ==q)=decide (p=q):=by rw[Afs];simp
 simp[execOp,ha.eval hx,ha.eval hy,Ec,binOp,Op.stringOp,GT,e]
theorem BQ:B4 P n w0 M l H { dst:=d,op:=.binOp .eql t x y t',type:=ty,pos:=pos,after:=af,guard:=g } (.bool (decide (p=q))):=λa w ha _=>by
 have e:(p ==q)=decide (p=q):=by rw[Afs];simp
 simp[execOp,ha.eval hx,ha.eval hy,Ec,binOp,Op.stringOp,GT,e]
theorem M4:B4 P n w0 M l H { dst:=d,op:=.binOp .neq t x y t',type:=ty,pos:=pos,after:=af,guard:=g } (.bool (!decide (p=q))):=λa w ha _=>by
 have e:(p ==q)=decide (p=q):=by rw[Afs];simp
 simp[execOp,ha.eval hx,ha.eval hy,Ec,binOp,Op.stringOp,GT,e]
end
theorem Zp {p q:Bool}(ht:P.underlying t=some .bool)(hx:ev l x=some (.bool p))(hy:ev l y=some (.bool q)):B4 P n w0 M l H { dst:=d,op:=.binOp .eql t x y t',type:=ty,pos:=pos,after:=af,guard:=g } (.bool (p ==q)):=λa w ha _=>by
 have h1:∀dd:Nat,(Op.equalIn (dd+1) t (.bool p) (.bool q)).run P w = .ok (p ==q) w:=λdd=>by simp[Op.equalIn,run_underlying ht]
 have h2:(Op.equal t (.bool p) (.bool q)).run P w = .ok (p ==q) w:=h1 9999;simp only[execOp,ha.eval hx,ha.eval hy,Sem.run_bind,MU,Result.andThen_ok,binOp,h2,Sem.run_pure]
theorem P2 {k k':IntKind}{m z:Int}(hs:∃s,P.underlying t=some s)(hd:P.underlying t'=some (.int k'))(h:ev l x=some (.int k m))(hz:k'.wrap m=z) :
  B4 P n w0 M l H { dst:=d,op:=.convert t t' x,type:=ty,pos:=pos,after:=af,guard:=g } (.int k' z):=λa w ha _=>by
 obtain⟨s,hs⟩:=hs;simp[execOp,ha.eval h,convert,run_underlying hs,run_underlying hd,Conv.intToInt,hz]
theorem B0 {p:List UInt8}(ht:P.underlying t=some .string)(h:ev l x=some (.string (B p))):B4 P n w0 M l H { dst:=d,op:=.call { callee:=.builtin .len,args:=#[x],argTypes:=#[t] },type:=ty,pos:=pos,after:=af,guard:=g } (.int .i64 p.length):=λa w ha _=>by
 simp[execOp,resolve,invoke,builtin,ha.eval h,Builtin.len_,run_underlying ht,goInt,DK]
theorem T6 {A:Option Addr}{m cp:Nat}{e:TypeId}(ht:P.underlying t=some (.slice e))(h:ev l x=some (.slice A m cp)):B4 P n w0 M l H { dst:=d,op:=.call { callee:=.builtin .len,args:=#[x],argTypes:=#[t] },type:=ty,pos:=pos,after:=af,guard:=g } (.int .i64 m):=λa w ha _=>by
 simp[execOp,resolve,invoke,builtin,ha.eval h,Builtin.len_,run_underlying ht,goInt]
theorem X9 {p:List UInt8}{k:IntKind}{i:Int}{c:UInt8}(ht:P.underlying t=some .string)(h:ev l x=some (.string (B p)))(hi:ev l y=some (.int k i))(h0:0≤i)(hc:p[i.toNat]? =some c) :
  B4 P n w0 M l H { dst:=d,op:=.index t x y,type:=ty,pos:=pos,after:=af,guard:=g } (.int .u8 c.toNat):=λa w ha _=>by
 simp[execOp,ha.eval h,ha.eval hi,Instr.index,asIntOf,run_underlying ht,h0,Acf,hc]
theorem BV {k:IntKind}{i:Int}{m:Nat}(code:BoundsCode)(w:World)(h0:0≤i)(h1:i≤m):(Instr.sliceBound (.int k i) m code).run P w = .ok i.toNat w:=by
 simp[Instr.sliceBound,asIntOf,h0,h1]
theorem DG {p:List UInt8}{k:IntKind}{i:Int}(ht:P.underlying t=some .string)(h:ev l x=some (.string (B p)))(hi:ev l y=some (.int k i))(h0:0≤i)(h1:i≤p.length) :
  B4 P n w0 M l H { dst:=d,op:=.slice t x (some y) none none,type:=ty,pos:=pos,after:=af,guard:=g } (.string (B (p.drop i.toNat))):=λa w ha _=>by
 have e:List.take ((B p).size-i.toNat) (List.drop i.toNat p)=List.drop i.toNat p:=by rw[List.take_of_length_le];simp[DK]
 simp[execOp,ha.eval h,ha.eval hi,Instr.sliceAt,Instr.slice,run_underlying ht,Instr.sliceBounds,BV (m:=(B p).size) _ _ h0 (by rw[DK];exact h1),Ic,e]
theorem EL {p:List UInt8}{k:IntKind}{i:Int}(ht:P.underlying t=some .string)(h:ev l x=some (.string (B p)))(hi:ev l y=some (.int k i))(h0:0≤i)(h1:i≤p.length) :
  B4 P n w0 M l H { dst:=d,op:=.slice t x none (some y) none,type:=ty,pos:=pos,after:=af,guard:=g } (.string (B (p.take i.toNat))):=λa w ha _=>by
 simp[execOp,ha.eval h,ha.eval hi,Instr.sliceAt,Instr.slice,run_underlying ht,Instr.sliceBounds,BV (m:=(B p).size) _ _ h0 (by rw[DK];exact h1),Ic]
theorem JJ {p:List UInt8}{k k':IntKind}{i j:Int}(ht:P.underlying t=some .string)(h:ev l x=some (.string (B p)))(hi:ev l y=some (.int k i))(hj:ev l c=some (.int k' j))(h0:0≤i)(h1:i≤j)(h2:j≤p.length) :
  B4 P n w0 M l H { dst:=d,op:=.slice t x (some y) (some c) none,type:=ty,pos:=pos,after:=af,guard:=g } (.string (B ((p.drop i.toNat).take (j.toNat-i.toNat)))):=λa w ha _=>by
 have hj0:0≤j:=by omega
 simp[execOp,ha.eval h,ha.eval hi,ha.eval hj,Instr.sliceAt,Instr.slice,run_underlying ht,Instr.sliceBounds,BV (m:=(B p).size) _ _ hj0 (by rw[DK];exact h2),BV (m:=j.toNat) _ _ h0 (by omega),Ic]
end
end Go.Proofs.YtmjlemhondjfhaaGreatDoor
namespace Go.Proofs.YtmjlemhondjfhaaGreatDoor.Q
open Go Go.RowKit
set_option linter.unusedVariables false
structure Fz where
 f:Nat→Option Obj
 nm:Nat→Nat→Option Nat
instance:CoeFun Fz (λ_=>Nat→Option Obj):=⟨Fz.f⟩
structure Fz.le (Z Z':Fz):Prop where
 f:∀b o,Z b=some o→Z' b=some o
 nm:∀k i b,Z.nm k i=some b→Z'.nm k i=some b
instance {Z Z':Fz}:CoeFun (Fz.le Z Z') (λ_=>∀b o,Z b=some o→Z' b=some o):=⟨Fz.le.f⟩
theorem Fz.le.refl (Z:Fz):Fz.le Z Z:=⟨λ_ _ h=>h,λ_ _ _ h=>h⟩
theorem Fz.le.trans {Z Z' Z'':Fz}(h:Fz.le Z Z')(h':Fz.le Z' Z''):Fz.le Z Z'':=⟨λb o e=>h' b o (h b o e),λk i b e=>h'.nm k i b (h.nm k i b e)⟩
structure WT (Z:Fz) (w:World):Prop where
 f:∀b o,Z b=some o→w.heap[b]? =some o
 nm:∀k i b,Z.nm k i=some b→k<w.heap.size
instance {Z:Fz} {w:World}:CoeFun (WT Z w) (λ_=>∀b o,Z b=some o→w.heap[b]? =some o):=⟨WT.f⟩
def IS (Z:Fz)(b o:Nat):Option Value:=match Z b with
 | some (.cells cs _ _)=>cs[o]?
 | _=>none
theorem OE {Z Z':Fz}(h:Fz.le Z Z'){b o:Nat}{v:Value}(e:IS Z b o=some v):IS Z' b o=some v:=by
 unfold IS at *
 cases hz:Z b with
 | none=>simp[hz] at e
 | some ob=>rw[h b ob hz];simpa[hz] using e
theorem LD {Z:Fz}{w:World}(h:WT Z w){b o:Nat}{v:Value}(e:IS Z b o=some v):w.cell? ⟨b,o,none⟩=some v:=by
 unfold IS at e
 cases hz:Z b with
 | none=>simp[hz] at e
 | some ob=>
  rw[hz] at e
  cases ob with
  | cells cs t fz=>rw[cell_of_row w b o cs t fz (h b _ hz)];exact e
  | _=>cases e
structure Rp where
 p:Fz→Value→Prop
 mono:∀{Z Z':Fz} {v:Value},Fz.le Z Z'→p Z v→p Z' v
 one:Bool
 hone:one=true→∀Z v,p Z v→v.oneCell'=true
def rv (x:Value):Rp:=⟨λ_ y=>y=x,λ_ h=>h,x.oneCell',λh _ _ e=>by rw[e];exact h⟩
abbrev rI (k:IntKind)(n:Int):Rp:=rv (.int k n)
abbrev rB (b:Bool):Rp:=rv (.bool b)
abbrev rS (s:List UInt8):Rp:=rv (.string (B s))
def Bw (Z:Fz):List Rp→List Value→Prop
 | [],[]=>True
 | r::rs,v::vs=>r.p Z v∧Bw Z rs vs
 | _,_=>False
theorem Bw.mono {Z Z':Fz}(h:Fz.le Z Z'):∀{rs:List Rp} {vs:List Value},Bw Z rs vs→Bw Z' rs vs
 | [],[],_=>trivial
 | r::rs,v::vs,⟨h1,h2⟩=>⟨r.mono h h1,Bw.mono h h2⟩
theorem Bw.length {Z:Fz}:∀{rs:List Rp} {vs:List Value},Bw Z rs vs→vs.length=rs.length
 | [],[],_=>rfl
 | r::rs,v::vs,⟨_,h2⟩=>by simp[Bw.length h2]
theorem Bw.at {Z:Fz}:∀{rs:List Rp} {vs:List Value},Bw Z rs vs→∀{i:Nat} {r:Rp},rs[i]? =some r→∃v,vs[i]? =some v∧r.p Z v
 | [],[],_,i,r,h=>by simp at h
 | r::rs,v::vs,⟨h1,h2⟩,0,r',h=>by simp at h;subst h;exact⟨v,rfl,h1⟩
 | r::rs,v::vs,⟨h1,h2⟩,i+1,r',h=>by simpa using Bw.at h2 (by simpa using h)
theorem Bw.of {Z:Fz}:∀{rs:List Rp} {vs:List Value},vs.length=rs.length→(∀(i:Nat) r,rs[i]? =some r→∃v,vs[i]? =some v∧r.p Z v)→Bw Z rs vs
 | [],[],_,_=>trivial
 | r::rs,v::vs,hl,h=>by
  refine⟨?_,Bw.of (by simpa using hl) λi r' hi=>by simpa using h (i+1) r' (by simpa using hi)⟩;obtain⟨u,hu,hp⟩:=h 0 r rfl;simp at hu;subst hu;exact hp
 | [],_::_,hl,_=>by simp at hl
 | _::_,[],hl,_=>by simp at hl
theorem Bw.append {Z:Fz}:∀{rs:List Rp} {vs:List Value} {rs':List Rp} {vs':List Value},Bw Z rs vs→Bw Z rs' vs'→Bw Z (rs++rs') (vs++vs')
 | [],[],_,_,_,h=>h
 | r::rs,v::vs,_,_,⟨h1,h2⟩,h=>⟨h1,Bw.append h2 h⟩
theorem Bw.take {Z:Fz}:∀{rs:List Rp} {vs:List Value} (k:Nat),Bw Z rs vs→Bw Z (rs.take k) (vs.take k)
 | _,_,0,_=>by simp[Bw]
 | [],[],k+1,_=>by simp[Bw]
 | r::rs,v::vs,k+1,⟨h1,h2⟩=>⟨h1,Bw.take k h2⟩
theorem Bw.drop {Z:Fz}:∀{rs:List Rp} {vs:List Value} (k:Nat),Bw Z rs vs→Bw Z (rs.drop k) (vs.drop k)
 | _,_,0,h=>by simpa using h
 | [],[],k+1,_=>by simp[Bw]
 | r::rs,v::vs,k+1,⟨h1,h2⟩=>by simpa using Bw.drop k h2
theorem Bw.set {Z:Fz}:∀{rs:List Rp} {vs:List Value} (k:Nat) {r:Rp} {v:Value},Bw Z rs vs→r.p Z v→Bw Z (rs.set k r) (vs.set k v)
 | [],[],k,_,_,h,_=>by simp[Bw]
 | r::rs,v::vs,0,_,_,⟨h1,h2⟩,h=>⟨h,h2⟩
 | r::rs,v::vs,k+1,_,_,⟨h1,h2⟩,h=>⟨h1,Bw.set k h2 h⟩
theorem Bw.one {Z:Fz}:∀{rs:List Rp} {vs:List Value},rs.all (·.one)=true→Bw Z rs vs→∀v∈vs,v.oneCell'=true
 | [],[],_,_,_,h=>by simp at h
 | r::rs,v::vs,ho,⟨h1,h2⟩,u,h=>by
  simp only[List.all_cons,AeI] at ho;rcases List.mem_cons.1 h with rfl | h
  ·exact r.hone ho.1 Z _ h1
  ·exact Bw.one ho.2 h2 u h
theorem Bw.eq_rv {Z:Fz}:∀{us vs:List Value},Bw Z (us.map Q.rv) vs→vs=us
 | [],[],_=>rfl
 | u::us,v::vs,⟨h1,h2⟩=>by rw[show v=u from h1,Bw.eq_rv h2]
def B9 (rs:List Rp):Rp:=⟨λZ v=>∃us:List Value,v = .agg us.toArray∧Bw Z rs us,λh ⟨us,e,hu⟩=>⟨us,e,hu.mono h⟩,false,λh=>by cases h⟩
def Dy (rs:List Rp):Rp:=⟨λZ v=>∃us:List Value,v = .tuple us.toArray∧Bw Z rs us,λh ⟨us,e,hu⟩=>⟨us,e,hu.mono h⟩,false,λh=>by cases h⟩
def DE (t:TypeId)(r:Rp):Rp:=⟨λZ v=>∃u,v = .iface t u∧r.p Z u,λh ⟨u,e,hu⟩=>⟨u,e,r.mono h hu⟩,true,λ_ Z v ⟨u,e,_⟩=>by rw[e];rfl⟩
def UB (sz:Nat)(xs:List (List Rp))(Z:Fz)(v:Value):Prop:=
 ∃A cap,v = .slice A xs.length cap∧xs.length≤cap∧cap≤maxLen∧(A=none→cap=0)∧
  ∀i c,xs[i]? =some c→c.length=sz∧∃a:Addr,A=some a∧a.spot=none∧∀j r,c[j]? =some r→∃u,IS Z a.block (a.off+(i*sz+j))=some u∧r.p Z u
theorem UB.mono {sz:Nat}{xs:List (List Rp)}{Z Z':Fz}{v:Value}(h:Fz.le Z Z'):UB sz xs Z v→UB sz xs Z' v:=λ⟨A,cap,e,h1,h2,h3,h4⟩=>
 ⟨A,cap,e,h1,h2,h3,λi c hi=>by
  obtain⟨hl,a,ha,hs,hc⟩:=h4 i c hi;exact⟨hl,a,ha,hs,λj r hj=>by
   obtain⟨u,hu,hr⟩:=hc j r hj;exact⟨u,OE h hu,r.mono h hr⟩⟩⟩
def AO (sz:Nat)(xs:List (List Rp)):Rp:=⟨UB sz xs,UB.mono,true,λ_ Z v ⟨A,cap,e,_⟩=>by rw[e];rfl⟩
theorem UB.nil (sz:Nat)(Z:Fz):UB sz [] Z (.slice none 0 0):=⟨none,0,rfl,Afm _,by simp[maxLen],λ_=>rfl,λi c h=>by simp at h⟩
def HS (r r':Rp):Prop:=∀Z v,r.p Z v→r'.p Z v
theorem HS.refl (r:Rp):HS r r:=λ_ _ h=>h
theorem HS.nil (sz:Nat):HS (rv (.slice none 0 0)) (AO sz []):=λZ v h=>by rw[show v=_ from h];exact UB.nil sz Z
abbrev Fr:=List (Nat×Rp)
def look:Fr→Nat→Option Rp
 | [],_=>none
 | p::l,i=>bif Nat.beq p.1 i then some p.2 else look l i
theorem Cw (j:Nat)(v:Rp)(l:Fr)(i:Nat):look ((j,v)::l) i=if j=i then some v else look l i:=by
 by_cases h:j=i
 ·subst h;simp[look]
 ·have:Nat.beq j i=false:=by
   cases hb:Nat.beq j i
   ·rfl
   ·exact absurd (Nat.eq_of_beq_eq_true hb) h
  simp[look,this,h]
structure Dg (n:Nat) (l:Fr) (a:Act) (Z:Fz):Prop where
 size:a.tmps.size=n
 defers:a.defers=[]
 tm:∀i r,look l i=some r→∃v,a.tmps[i]? =some v∧r.p Z v
def ev:Fr→Operand→Option Rp
 | l,.tmp t=>look l t
 | _,.const v=>some (rv v)
 | _,.global g=>some (rv (.pointer (some ⟨g,0,none⟩)))
 | _,.func f=>some (rv (.func (.func f) #[] #[]))
section
variable {n : Nat} {l l' : Fr} {a : Act} {Z Z' : Fz}
theorem Dg.ev (h:Dg n l a Z){x:Operand}{r:Rp}(hx:Q.ev l x=some r):r.p Z (a.eval x):=by
 cases x with
 | tmp t=>obtain⟨v,hv,hp⟩:=h.tm t r hx;simpa[Act.eval,Array.getD_eq_getD_getElem?,hv] using hp
 | const u=>simp only[Q.ev,Option.some.injEq] at hx;subst hx;rfl
 | global g=>simp only[Q.ev,Option.some.injEq] at hx;subst hx;rfl
 | func f=>simp only[Q.ev,Option.some.injEq] at hx;subst hx;rfl
theorem Dg.eval (h:Dg n l a Z){x:Operand}{v:Value}(hx:Q.ev l x=some (rv v)):a.eval x=v:=h.ev hx
theorem Dg.put (h:Dg n l a Z){d:Nat}(hd:Nat.blt d n=true){r:Rp}{v:Value}(hv:r.p Z v):Dg n ((d,r)::l) (a.put (some d) v) Z:=by
 have hd':d<n:=by simpa using hd
 refine⟨by simp[Act.put,h.size],by simp[Act.put,h.defers],λi u hi=>?_⟩;rw[Cw] at hi;simp only[Act.put,Array.getElem?_setIfInBounds]
 split at hi
 ·rename_i e;subst e;simp at hi;subst hi;exact⟨v,by simp[h.size,hd'],hv⟩
 ·rename_i e;rw[Afz e];exact h.tm i u hi
theorem Dg.put_none (h:Dg n l a Z)(v:Value):Dg n l (a.put none v) Z:=h
theorem Dg.mono (h:Dg n l a Z)(hz:Fz.le Z Z'):Dg n l a Z':=⟨h.size,h.defers,λi r hi=>let ⟨v,hv,hp⟩:=h.tm i r hi;⟨v,hv,r.mono hz hp⟩⟩
def AH:Fr→Fr→Prop
 | [],_=>True
 | p::r,l=>(∃q,look l p.1=some q∧HS q p.2)∧AH r l
theorem AH.look:∀{l' l:Fr},AH l' l→∀i v,Q.look l' i=some v→∃q,Q.look l i=some q∧HS q v
 | [],_,_,i,v,h=>by simp[Q.look] at h
 | p::r,l,⟨h1,h2⟩,i,v,h=>by
  obtain⟨j,u⟩:=p;rw[Cw] at h
  split at h
  ·rename_i e;subst e;simp at h;subst h;exact h1
  ·exact AH.look h2 i v h
theorem AH.nil:AH [] l:=trivial
theorem AH.c {i:Nat}{r:Rp}{t:Fr}(h:Q.look l i=some r)(ht:AH t l):AH ((i,r)::t) l:=⟨⟨r,h,HS.refl r⟩,ht⟩
theorem AH.w {i:Nat}{r q:Rp}{t:Fr}(h:Q.look l i=some q)(hr:HS q r)(ht:AH t l):AH ((i,r)::t) l:=⟨⟨q,h,hr⟩,ht⟩
theorem AH.c5 {i1 i2 i3 i4 i5:Nat}{r1 r2 r3 r4 r5:Rp}{t:Fr}(h1:Q.look l i1=some r1)(h2:Q.look l i2=some r2)(h3:Q.look l i3=some r3)(h4:Q.look l i4=some r4)(h5:Q.look l i5=some r5)(ht:AH t l):AH ((i1,r1)::(i2,r2)::(i3,r3)::(i4,r4)::(i5,r5)::t) l:=
 AH.c h1 (AH.c h2 (AH.c h3 (AH.c h4 (AH.c h5 ht))))
theorem Dg.sub (h:Dg n l a Z)(hs:AH l' l):Dg n l' a Z:=⟨h.size,h.defers,λi v hi=>by
 obtain⟨q,hq,hle⟩:=hs.look i v hi;obtain⟨u,hu,hp⟩:=h.tm i q hq;exact⟨u,hu,hle Z u hp⟩⟩
end
inductive Ent where
 | obj (b:Nat) (o:Obj)
 | blk (b:Nat) (cs:List Rp) (e:TypeId)
 | row (v:Value) (e:TypeId) (sz:Nat) (xs:List (List Rp))
 | map (b:Nat) (m:List (List UInt8×Rp))
 | fact (v:Value) (r:Rp)
 | bld (T e:TypeId) (b:Nat) (v:Value) (l:List UInt8)
 | mit (b it:Nat) (m rest:List (List UInt8×Rp)) (cur:Option (List UInt8×Rp))
 | itz (it:Nat) (m rest:List (List UInt8×Rp)) (cur:Option (List UInt8×Rp))
 | imap (b:Nat) (m:List (Int×Rp))
 | pool (k:Nat) (v:Value) (e:TypeId) (xs:List (List Rp))
 | poolw (k:Nat) (v:Value) (e re:TypeId) (rz:Nat) (xs:List ((Value→List Rp)×List (List Rp))) (out:Option (Nat×(Nat×Value)))
 | poolm (k:Nat) (v:Value) (e:TypeId) (xs:List ((Nat→List Rp)×List (List UInt8×Rp))) (out:Option (Nat×(Nat×Nat)))
def V7:Value→List Nat
 | .tuple a=>a.toList.map λx=>match x with
  | .int _ n=>n.toNat
  | _=>0
 | _=>[]
def AbS:Value→Nat×Value
 | .tuple a=>match a.toList with
  | [.int _ n,r]=>(n.toNat,r)
  | _=>(0,.tuple #[])
 | _=>(0,.tuple #[])
def Qs:Value→List (Nat×Value)
 | .tuple a=>a.toList.map AbS
 | _=>[]
def AcC (ps:List (Nat×Value)):Value:=.tuple (ps.map λp=>Value.tuple #[.int .i64 (Int.ofNat p.1),p.2]).toArray
theorem AaO (ps:List (Nat×Value)):Qs (AcC ps)=ps:=by
 simp only[Qs,AcC,AfC];exact(List.map_congr_left λp _=>by simp[AbS]).trans (List.map_id _)
def ftW (ps:List (Nat×Value)):List Nat:=ps.flatMap λp=>p.1::p.2.ownBlock.toList
def Zc:List (Nat×Value)→Option (Nat×(Nat×Value))→List (Nat×Value)
 | ps,none=>ps
 | ps,some o=>ps.eraseIdx o.1
def Gk (v:Value):List (Nat×Nat):=(Qs v).map λp=>(p.1,match p.2 with
 | .int _ n=>n.toNat
 | _=>0)
def Abf (ms:List (Nat×Nat)):Value:=AcC (ms.map λp=>(p.1,Value.int .i64 (Int.ofNat p.2)))
theorem Wq (ms:List (Nat×Nat)):Gk (Abf ms)=ms:=by
 simp only[Gk,Abf,AaO,AfC];exact(List.map_congr_left λp _=>by simp).trans (List.map_id _)
def Rh (ps:List (Nat×Nat)):List Nat:=ps.flatMap λp=>[p.1,p.2]
def Vg:List (Nat×Nat)→Option (Nat×(Nat×Nat))→List (Nat×Nat)
 | ps,none=>ps
 | ps,some o=>ps.eraseIdx o.1
def Ent.gk:Ent→List Nat
 | .pool k _ _ _=>[k]
 | .poolw k _ _ _ _ _ _=>[k]
 | .poolm k _ _ _ _=>[k]
 | _=>[]
def Ent.gn:Ent→Nat
 | .pool _ v _ _=>(V7 v).length
 | .poolw _ v _ _ _ _ _=>(Qs v).length
 | .poolm _ v _ _ _=>(Gk v).length
 | _=>0
def Ent.foot:Ent→List Nat
 | .obj b _=>[b]
 | .blk b _ _=>[b]
 | .row v _ _ _=>v.ownBlock.toList
 | .map b _=>[b]
 | .fact _ _=>[]
 | .bld _ _ b v _=>b::v.ownBlock.toList
 | .mit b it _ _ _=>[b,it]
 | .itz it _ _ _=>[it]
 | .imap b _=>[b]
 | .pool _ v _ _=>V7 v
 | .poolw _ v _ _ _ _ out=>ftW (Zc (Qs v) out)
 | .poolm _ v _ _ out=>Rh (Vg (Gk v) out)
def SA (Z:Fz):List (Int×Rp)→List MapEntry→Prop
 | [],[]=>True
 | p::f,e::es=>(e.key = .int .i64 p.1∧p.2.p Z e.val)∧SA Z f es
 | _,_=>False
theorem SA.mono {Z Z':Fz}(h:Fz.le Z Z'):∀{f:List (Int×Rp)} {es:List MapEntry},SA Z f es→SA Z' f es
 | [],[],_=>trivial
 | p::f,e::es,⟨⟨h1,h2⟩,h3⟩=>⟨⟨h1,p.2.mono h h2⟩,SA.mono h h3⟩
def LU (Z:Fz):List (List UInt8×Rp)→List MapEntry→Prop
 | [],[]=>True
 | p::f,e::es=>(e.key = .string (B p.1)∧p.2.p Z e.val)∧LU Z f es
 | _,_=>False
theorem LU.mono {Z Z':Fz}(h:Fz.le Z Z'):∀{f:List (List UInt8×Rp)} {es:List MapEntry},LU Z f es→LU Z' f es
 | [],[],_=>trivial
 | p::f,e::es,⟨⟨h1,h2⟩,h3⟩=>⟨⟨h1,p.2.mono h h2⟩,LU.mono h h3⟩
def GY (Z:Fz)(m:List (List UInt8×Rp))(es:List MapEntry)(ck:Nat):Prop:=
 (m.map (·.1)).Nodup∧(es.map (·.born)).Nodup∧(∀e∈es,e.born<ck)∧∃f:List (List UInt8×Rp),f.Perm m∧LU Z f es
theorem GY.mono {Z Z':Fz}(h:Fz.le Z Z'){m:List (List UInt8×Rp)}{es:List MapEntry}{ck:Nat}:GY Z m es ck→GY Z' m es ck:=λ⟨h1,h2,h3,f,h4,h5⟩=>⟨h1,h2,h3,f,h4,h5.mono h⟩
def AdV (Z:Fz)(rest:List (List UInt8×Rp))(es:List MapEntry)(seen:Array Nat):Prop:=∃f,f.Perm rest∧LU Z f (es.filter λe=>!seen.contains e.born)
def Cur (Z:Fz)(es:List MapEntry)(ck:Nat)(seen:Array Nat)(c0:Nat):Option (List UInt8×Rp)→Prop
 | none=>True
 | some kr=>c0=ck∧∃s0 e,seen=Array.push s0 e.born∧e∈es∧e.key = .string (B kr.1)∧kr.2.p Z e.val
theorem Cur.mono {Z Z':Fz}(h:Fz.le Z Z'){es:List MapEntry}{ck:Nat}{seen:Array Nat}{c0:Nat}:∀{cur:Option (List UInt8×Rp)},Cur Z es ck seen c0 cur→Cur Z' es ck seen c0 cur
 | none,_=>trivial
 | some kr,⟨h1,s0,e,h2,h3,h4,h5⟩=>⟨h1,s0,e,h2,h3,h4,kr.2.mono h h5⟩
def Ent.holds (Z:Fz)(w:World):Ent→Prop
 | .obj b o=>w.heap[b]? =some o
 | .blk b cs e=>∃us:List Value,w.heap[b]? =some (.cells us.toArray e (0,0))∧Bw Z cs us
 | .row v e sz xs=>(∀c∈xs,c.length=sz)∧∃us:List Value,w.ownsRow 0 e sz v xs.length us∧Bw Z xs.flatten us
 | .map b m=>∃es ck,w.heap[b]? =some (.map es ck)∧GY Z m es.toList ck
 | .fact v r=>r.p Z v
 | .bld T e b v l=>∃p,(p = .pointer none∨p = .pointer (some ⟨b,0,none⟩))∧w.heap[b]? =some (.cells #[p,v] T (0,0))∧w.ownsRow 0 e 1 v l.length (l.map λc=>Value.int .u8 c.toNat)∧v.ownBlock≠some b
 | .mit b it m rest cur=>∃es ck seen since c0,w.heap[b]? =some (.map es ck)∧w.heap[it]? =some (.mapIter (some b) since seen c0)∧GY Z m es.toList ck∧(∀e∈es.toList,e.born<since)∧since≤c0∧c0≤ck∧b≠it∧AdV Z rest es.toList seen∧Cur Z es.toList ck seen c0 cur
 | .itz it m rest cur=>(w.heap[it]? =some (.mapIter none 0 #[] 0)∧m=[]∧rest=[]∧cur=none)∨∃b es ck seen since c0,Z b=some (.map es ck)∧w.heap[it]? =some (.mapIter (some b) since seen c0)∧GY Z m es.toList ck∧(∀e∈es.toList,e.born<since)∧since≤c0∧c0≤ck∧AdV Z rest es.toList seen∧Cur Z es.toList ck seen c0 cur
 | .imap b m=>∃es ck,w.heap[b]? =some (.map es ck)∧SA Z m es.toList
 | .pool k v e xs=>(V7 v).Nodup∧(V7 v).length=xs.length∧∀i b cs,(V7 v)[i]? =some b→xs[i]? =some cs→Z.nm k i=some b∧∃us:List Value,w.heap[b]? =some (.cells us.toArray e (0,0))∧Bw Z cs us
 | .poolw k v e re rz xs out=>(Qs v).length=xs.length∧(ftW (Zc (Qs v) out)).Nodup∧(∀i p,(Qs v)[i]? =some p→Z.nm k i=some p.1)∧(∀o,out=some o→(Qs v)[o.1]? =some o.2)∧
   ∀i p x,(Qs v)[i]? =some p→xs[i]? =some x→(∀o,out=some o→o.1≠i)→(∃us:List Value,w.heap[p.1]? =some (.cells us.toArray e (0,0))∧Bw Z (x.1 p.2) us)∧(∀c∈x.2,c.length=rz)∧∃us:List Value,w.ownsRow 0 re rz p.2 x.2.length us∧Bw Z x.2.flatten us
 | .poolm k v e xs out=>(Gk v).length=xs.length∧(Rh (Vg (Gk v) out)).Nodup∧(∀i p,(Gk v)[i]? =some p→Z.nm k i=some p.1)∧(∀o,out=some o→(Gk v)[o.1]? =some o.2)∧
   ∀i p x,(Gk v)[i]? =some p→xs[i]? =some x→(∀o,out=some o→o.1≠i)→(∃us:List Value,w.heap[p.1]? =some (.cells us.toArray e (0,0))∧Bw Z (x.1 p.2) us)∧∃es ck,w.heap[p.2]? =some (.map es ck)∧GY Z x.2 es.toList ck
theorem Abh {ps:List (Nat×Nat)}{out:Option (Nat×(Nat×Nat))}{k:Nat}(h:k∈Rh (Vg ps out)):∃i p,ps[i]? =some p∧(∀o,out=some o→o.1≠i)∧(k=p.1∨k=p.2):=by
 unfold Rh at h;obtain⟨p,hp,hk⟩:=List.mem_flatMap.1 h;obtain⟨j,hj⟩:=List.mem_iff_getElem?.1 hp;have hk:k=p.1∨k=p.2:=by simpa using hk
 cases out with
 | none=>exact⟨j,p,hj,(λo h=>by cases h),hk⟩
 | some o=>
  rw[Vg,List.getElem?_eraseIdx] at hj
  split at hj
  ·exact⟨j,p,hj,(λo' h=>by cases h;omega),hk⟩
  ·exact⟨j+1,p,hj,(λo' h=>by cases h;omega),hk⟩
theorem W5 {ps:List (Nat×Nat)}{out:Option (Nat×(Nat×Nat))}{i:Nat}{p:Nat×Nat}(hp:ps[i]? =some p)(ho:∀o,out=some o→o.1≠i){k:Nat}(hk:k=p.1∨k=p.2):k∈Rh (Vg ps out):=by
 unfold Rh;refine List.mem_flatMap.2 ⟨p,?_,by simpa using hk⟩
 cases out with
 | none=>exact Afc hp
 | some o=>
  have hne:=ho o rfl
  by_cases hlt:i<o.1
  ·exact Afc (show(ps.eraseIdx o.1)[i]? =some p by rw[List.getElem?_eraseIdx,Af6 hlt];exact hp)
  ·exact Afc (show(ps.eraseIdx o.1)[i-1]? =some p by rw[List.getElem?_eraseIdx,Afz (by omega),show i-1+1=i from by omega];exact hp)
theorem Abg {ps:List (Nat×Value)}{out:Option (Nat×(Nat×Value))}{k:Nat}(h:k∈ftW (Zc ps out)):∃i p,ps[i]? =some p∧(∀o,out=some o→o.1≠i)∧(k=p.1∨k∈p.2.ownBlock.toList):=by
 unfold ftW at h;obtain⟨p,hp,hk⟩:=List.mem_flatMap.1 h;obtain⟨j,hj⟩:=List.mem_iff_getElem?.1 hp
 cases out with
 | none=>exact⟨j,p,hj,(λo h=>by cases h),List.mem_cons.1 hk⟩
 | some o=>
  rw[Zc,List.getElem?_eraseIdx] at hj
  split at hj
  ·exact⟨j,p,hj,(λo' h=>by cases h;omega),List.mem_cons.1 hk⟩
  ·exact⟨j+1,p,hj,(λo' h=>by cases h;omega),List.mem_cons.1 hk⟩
theorem W4 {ps:List (Nat×Value)}{out:Option (Nat×(Nat×Value))}{i:Nat}{p:Nat×Value}(hp:ps[i]? =some p)(ho:∀o,out=some o→o.1≠i){k:Nat}(hk:k=p.1∨k∈p.2.ownBlock.toList):k∈ftW (Zc ps out):=by
 unfold ftW;refine List.mem_flatMap.2 ⟨p,?_,List.mem_cons.2 hk⟩
 cases out with
 | none=>exact Afc hp
 | some o=>
  have hne:=ho o rfl
  by_cases hlt:i<o.1
  ·exact Afc (show(ps.eraseIdx o.1)[i]? =some p by rw[List.getElem?_eraseIdx,Af6 hlt];exact hp)
  ·exact Afc (show(ps.eraseIdx o.1)[i-1]? =some p by rw[List.getElem?_eraseIdx,Afz (by omega),show i-1+1=i from by omega];exact hp)
theorem Ent.lt {Z:Fz}{w:World}{e:Ent}(h:e.holds Z w){k:Nat}(hk:k∈e.foot):k<w.heap.size:=by
 cases e with
 | obj b o=>simp[Ent.foot] at hk;subst hk;exact(Array.getElem?_eq_some_iff.1 h).1
 | blk b cs e=>simp[Ent.foot] at hk;subst hk;obtain⟨us,h,_⟩:=h;exact(Array.getElem?_eq_some_iff.1 h).1
 | row v e sz xs=>simp[Ent.foot,Option.mem_toList] at hk;obtain⟨_,us,h,_⟩:=h;exact(World.ownsRow.lt h k hk).2
 | map b m=>simp[Ent.foot] at hk;subst hk;obtain⟨es,ck,h,_⟩:=h;exact(Array.getElem?_eq_some_iff.1 h).1
 | fact v r=>simp[Ent.foot] at hk
 | bld T e b v l=>
  obtain⟨p,_,h1,h2,_⟩:=h;simp only[Ent.foot,Af4,Option.mem_toList] at hk;rcases hk with rfl | hk
  ·exact(Array.getElem?_eq_some_iff.1 h1).1
  ·exact(World.ownsRow.lt h2 k hk).2
 | mit b it m rest cur=>
  obtain⟨es,ck,seen,since,c0,h1,h2,_⟩:=h;simp only[Ent.foot,Af4,List.not_mem_nil,or_false] at hk;rcases hk with rfl | rfl
  ·exact(Array.getElem?_eq_some_iff.1 h1).1
  ·exact(Array.getElem?_eq_some_iff.1 h2).1
 | itz it m rest cur=>
  simp[Ent.foot] at hk;subst hk;rcases h with⟨h1,_⟩ | ⟨b,es,ck,seen,since,c0,_,h2,_⟩
  ·exact(Array.getElem?_eq_some_iff.1 h1).1
  ·exact(Array.getElem?_eq_some_iff.1 h2).1
 | imap b m=>simp[Ent.foot] at hk;subst hk;obtain⟨es,ck,h,_⟩:=h;exact(Array.getElem?_eq_some_iff.1 h).1
 | pool q v e xs=>
  obtain⟨_,hl,h⟩:=h;obtain⟨i,hi,rfl⟩:=List.getElem_of_mem (show k∈V7 v from hk);obtain⟨_,us,h1,_⟩:=h i (V7 v)[i] xs[i] (AeN hi) (AeN (by omega));exact(Array.getElem?_eq_some_iff.1 h1).1
 | poolw q v e re rz xs out=>
  obtain⟨hl,_,_,_,h⟩:=h;obtain⟨i,p,h1,h2,h3⟩:=Abg hk;have hi:i<xs.length:=by rw[← hl];exact(List.getElem?_eq_some_iff.1 h1).1
  obtain⟨⟨us,h4,_⟩,_,vs,h5,_⟩:=h i p xs[i] h1 (AeN hi) h2;rcases h3 with rfl | h3
  ·exact(Array.getElem?_eq_some_iff.1 h4).1
  ·exact(World.ownsRow.lt h5 k (by simpa[Option.mem_toList] using h3)).2
 | poolm q v e xs out=>
  obtain⟨hl,_,_,_,h⟩:=h;obtain⟨i,p,h1,h2,h3⟩:=Abh hk;have hi:i<xs.length:=by rw[← hl];exact(List.getElem?_eq_some_iff.1 h1).1
  obtain⟨⟨us,h4,_⟩,es,ck,h5,_⟩:=h i p xs[i] h1 (AeN hi) h2;rcases h3 with rfl | rfl
  ·exact(Array.getElem?_eq_some_iff.1 h4).1
  ·exact(Array.getElem?_eq_some_iff.1 h5).1
theorem JI {w w':World}{e:TypeId}{sz n:Nat}{v:Value}{us:List Value}(h:w.ownsRow 0 e sz v n us)(hk:∀k∈v.ownBlock.toList,w'.heap[k]? =w.heap[k]?):w'.ownsRow 0 e sz v n us:=by
 refine⟨h.1,?_⟩;rcases h.2 with hn | ⟨g,cap,cur,rfl,hb,hgg,rest⟩
 ·exact .inl hn
 ·exact .inr ⟨g,cap,cur,rfl,hb,(hk g (by simp[Value.ownBlock])).trans hgg,rest⟩
theorem Ent.keep {Z Z':Fz}{w w':World}{e:Ent}(h:e.holds Z w)(hz:Fz.le Z Z')(hk:∀k∈e.foot,w'.heap[k]? =w.heap[k]?):e.holds Z' w':=by
 cases e with
 | obj b o=>exact(hk b (by simp[Ent.foot])).trans h
 | blk b cs e=>obtain⟨us,h1,h2⟩:=h;exact⟨us,(hk b (by simp[Ent.foot])).trans h1,h2.mono hz⟩
 | row v e sz xs=>obtain⟨h0,us,h1,h2⟩:=h;exact⟨h0,us,JI h1 hk,h2.mono hz⟩
 | map b m=>obtain⟨es,ck,h1,h2⟩:=h;exact⟨es,ck,(hk b (by simp[Ent.foot])).trans h1,h2.mono hz⟩
 | fact v r=>exact r.mono hz h
 | bld T e b v l=>obtain⟨p,h0,h1,h2,h3⟩:=h;exact⟨p,h0,(hk b (by simp[Ent.foot])).trans h1,JI h2 (λk hk'=>hk k (by simp only[Ent.foot,Af4];exact .inr hk')),h3⟩
 | mit b it m rest cur=>
  obtain⟨es,ck,seen,since,c0,h1,h2,h3,h4,h5,h6,h7,⟨f,h8,h9⟩,ha⟩:=h;exact⟨es,ck,seen,since,c0,(hk b (by simp[Ent.foot])).trans h1,(hk it (by simp[Ent.foot])).trans h2,h3.mono hz,h4,h5,h6,h7,⟨f,h8,h9.mono hz⟩,ha.mono hz⟩
 | itz it m rest cur=>
  rcases h with⟨h1,h2⟩ | ⟨b,es,ck,seen,since,c0,h1,h2,h3,h4,h5,h6,⟨f,h8,h9⟩,ha⟩
  ·exact .inl ⟨(hk it (by simp[Ent.foot])).trans h1,h2⟩
  ·exact .inr ⟨b,es,ck,seen,since,c0,hz.f b _ h1,(hk it (by simp[Ent.foot])).trans h2,h3.mono hz,h4,h5,h6,⟨f,h8,h9.mono hz⟩,ha.mono hz⟩
 | imap b m=>obtain⟨es,ck,h1,h2⟩:=h;exact⟨es,ck,(hk b (by simp[Ent.foot])).trans h1,h2.mono hz⟩
 | pool q v e xs=>
  obtain⟨h0,hl,h⟩:=h;refine⟨h0,hl,λi b cs hi hx=>?_⟩;obtain⟨h1,us,h2,h3⟩:=h i b cs hi hx;exact⟨hz.nm q i b h1,us,(hk b (Afc hi)).trans h2,h3.mono hz⟩
 | poolw q v e re rz xs out=>
  obtain⟨hl,hn,hm,ho,h⟩:=h;refine⟨hl,hn,λi p hi=>hz.nm q i _ (hm i p hi),ho,λi p x hi hx hne=>?_⟩;obtain⟨⟨us,h4,h5⟩,h6,vs,h7,h8⟩:=h i p x hi hx hne;exact⟨⟨us,(hk p.1 (W4 hi hne (.inl rfl))).trans h4,h5.mono hz⟩,h6,vs,JI h7 (λk hk'=>hk k (W4 hi hne (.inr hk'))),h8.mono hz⟩
 | poolm q v e xs out=>
  obtain⟨hl,hn,hm,ho,h⟩:=h;refine⟨hl,hn,λi p hi=>hz.nm q i _ (hm i p hi),ho,λi p x hi hx hne=>?_⟩;obtain⟨⟨us,h4,h5⟩,es,ck,h6,h7⟩:=h i p x hi hx hne;exact⟨⟨us,(hk p.1 (W5 hi hne (.inl rfl))).trans h4,h5.mono hz⟩,es,ck,(hk p.2 (W5 hi hne (.inr rfl))).trans h6,h7.mono hz⟩
structure Cx where
 w0:World
 Z0:Fz
 M:List Nat
 E:Fz→Prop
 G:List Nat
structure MY (c:Cx) (H:List Ent) (Z:Fz) (w:World):Prop where
 own:∀e∈H,∀k∈e.gk,c.w0.heap.size≤k∨k∈c.G
 sz:∀e∈H,∀k∈e.gk,k<w.heap.size
 dis:H.Pairwise (λe e'=>∀k∈e.gk,k ∉ e'.gk)
 new:∀k i b,Z.nm k i=some b→c.Z0.nm k i=some b∨c.w0.heap.size≤k∨k∈c.G
 cap:∀e∈H,∀k∈e.gk,∀i,e.gn≤i→Z.nm k i=none
structure St (c:Cx) (H:List Ent) (Z:Fz) (w:World):Prop where
 os:w.os=c.w0.os
 tape:w.tape=c.w0.tape
 output:w.output=c.w0.output
 size:c.w0.heap.size≤w.heap.size
 old:∀k,k<c.w0.heap.size→k ∉ c.M→w.heap[k]? =c.w0.heap[k]?
 has:∀e∈H,e.holds Z w
 own:∀e∈H,∀k∈e.foot,c.w0.heap.size≤k∨k∈c.M
 dis:H.Pairwise (λe e'=>∀k∈e.foot,k ∉ e'.foot)
 frz:WT Z w
 le:Fz.le c.Z0 Z
 new:∀b o,Z b=some o→c.Z0 b=some o∨c.w0.heap.size≤b∨b∈c.M
 zdis:∀e∈H,∀k∈e.foot,Z k=none
 env:c.E Z
 emono:∀{Z Z':Fz},Fz.le Z Z'→c.E Z→c.E Z'
 gst:MY c H Z w
section
variable {c : Cx} {w w' : World} {Z Z' : Fz} {H H' Hr Hin Hout : List Ent}
theorem MY.sub (h:MY c H Z w)(hs:H'.Sublist H):MY c H' Z w:=⟨λe he=>h.own e (hs.subset he),λe he=>h.sz e (hs.subset he),h.dis.sublist hs,h.new,λe he=>h.cap e (hs.subset he)⟩
theorem MY.perm (h:MY c H Z w)(hp:H.Perm H'):MY c H' Z w:=⟨λe he=>h.own e (hp.mem_iff.2 he),λe he=>h.sz e (hp.mem_iff.2 he),(hp.pairwise_iff (λhxy k hk hk'=>hxy k hk' hk)).1 h.dis,h.new,λe he=>h.cap e (hp.mem_iff.2 he)⟩
theorem MY.grow (h:MY c H Z w)(hw:w.heap.size≤w'.heap.size):MY c H Z w':=⟨h.own,λe he k hk=>Nat.lt_of_lt_of_le (h.sz e he k hk) hw,h.dis,h.new,h.cap⟩
theorem MY.names {Z Z':Fz}(h:MY c H Z w)(hn:Z'.nm=Z.nm):MY c H Z' w:=⟨h.own,h.sz,h.dis,λk i b e=>h.new k i b (by rw[← hn];exact e),λe he k hk i hi=>by rw[hn];exact h.cap e he k hk i hi⟩
theorem MY.none {M G:List Nat}{E:Fz→Prop}(hg:H.flatMap Ent.gk=[]):MY ⟨w,Z,M,E,G⟩ H Z w':=by
 have h0:∀e∈H,∀k,k ∉ e.gk:=λe he k hk=>by
  have:k∈H.flatMap Ent.gk:=List.mem_flatMap.2 ⟨e,he,hk⟩;rw[hg] at this;cases this
 exact⟨λe he k hk=>absurd hk (h0 e he k),λe he k hk=>absurd hk (h0 e he k),List.Pairwise.imp_of_mem (R:=λ_ _=>True) (fun {a b} ha _ _ k hk=>absurd hk (h0 a ha k)) (List.pairwise_iff_getElem.2 λ_ _ _ _ _=>trivial),λ_ _ _ e=>.inl e,λe he k hk=>absurd hk (h0 e he k)⟩
theorem MY.enter (h:MY c (Hin++Hr) Z w){E:Fz→Prop}{M:List Nat}:MY ⟨w,Z,M,E,Hin.flatMap Ent.gk⟩ Hin Z w:=
 ⟨λe he k hk=>.inr (List.mem_flatMap.2 ⟨e,he,hk⟩),λe he=>h.sz e (List.mem_append_left _ he),(List.pairwise_append.1 h.dis).1,λ_ _ _ e=>.inl e,λe he=>h.cap e (List.mem_append_left _ he)⟩
theorem MY.call (h:MY c (Hin++Hr) Z w){E:Fz→Prop}{M:List Nat}(hsz:c.w0.heap.size≤w.heap.size)(hsz':w.heap.size≤w'.heap.size)(h':MY ⟨w,Z,M,E,Hin.flatMap Ent.gk⟩ Hout Z' w'):MY c (Hout++Hr) Z' w':=by
 have hd:=List.pairwise_append.1 h.dis;have hG:∀k∈Hin.flatMap Ent.gk,∃e∈Hin,k∈e.gk:=λk hk=>List.mem_flatMap.1 hk;have hr:∀e∈Hr,∀k∈e.gk,k<w.heap.size∧k ∉ Hin.flatMap Ent.gk:=λe he k hk=>by
  refine⟨h.sz e (List.mem_append_right _ he) k hk,λhkG=>?_⟩;obtain⟨e',he',hke'⟩:=hG k hkG;exact hd.2.2 e' he' e he k hke' hk
 refine⟨λe he k hk=>?_,λe he k hk=>?_,?_,λk i b hb=>?_,λe he k hk i hi=>?_⟩
 ·rcases List.mem_append.1 he with he | he
  ·rcases h'.own e he k hk with h1 | h1
   ·exact .inl (Nat.le_trans hsz h1)
   ·obtain⟨e',he',hke'⟩:=hG k h1;exact h.own e' (List.mem_append_left _ he') k hke'
  ·exact h.own e (List.mem_append_right _ he) k hk
 ·rcases List.mem_append.1 he with he | he
  ·exact h'.sz e he k hk
  ·exact Nat.lt_of_lt_of_le (hr e he k hk).1 hsz'
 ·refine List.pairwise_append.2 ⟨h'.dis,hd.2.1,λe he e' he' k hk hk'=>?_⟩;have h2:=hr e' he' k hk';rcases h'.own e he k hk with h1 | h1
  ·simp only at h1;omega
  ·exact h2.2 h1
 ·rcases h'.new k i b hb with h1 | h1 | h1
  ·exact h.new k i b h1
  ·exact .inr (.inl (Nat.le_trans hsz h1))
  ·obtain⟨e',he',hke'⟩:=hG k h1;exact .inr (h.own e' (List.mem_append_left _ he') k hke')
 ·rcases List.mem_append.1 he with he | he
  ·exact h'.cap e he k hk i hi
  ·have h2:=hr e he k hk
   cases hz:Z'.nm k i with
   | none=>rfl
   | some b=>
    rcases h'.new k i b hz with h1 | h1 | h1
    ·have:=h.cap e (List.mem_append_right _ he) k hk i hi;simp only at h1;rw[this] at h1;cases h1
    ·simp only at h1;omega
    ·exact absurd h1 h2.2
theorem WT.lt (h:WT Z w){b:Nat}{o:Obj}(e:Z b=some o):b<w.heap.size:=(Array.getElem?_eq_some_iff.1 (h b o e)).1
theorem St.enter (h:St c (Hin++Hr) Z w):St ⟨w,Z,Hin.flatMap Ent.foot,c.E,Hin.flatMap Ent.gk⟩ Hin Z w:=
 ⟨rfl,rfl,rfl,Afm _,λ_ _ _=>rfl,λe he=>h.has e (List.mem_append_left _ he),λe he k hk=>.inr (List.mem_flatMap.2 ⟨e,he,hk⟩),(List.pairwise_append.1 h.dis).1,
  h.frz,Fz.le.refl _,λ_ _ e=>.inl e,λe he=>h.zdis e (List.mem_append_left _ he),h.env,h.emono,h.gst.enter⟩
theorem St.sub (h:St c H Z w)(hs:H'.Sublist H):St c H' Z w:=
 { h with has:=λe he=>h.has e (hs.subset he),own:=λe he=>h.own e (hs.subset he),dis:=h.dis.sublist hs,zdis:=λe he=>h.zdis e (hs.subset he),gst:=h.gst.sub hs }
theorem St.perm (h:St c H Z w)(hp:H.Perm H'):St c H' Z w:=
 { h with has:=λe he=>h.has e (hp.mem_iff.2 he),own:=λe he=>h.own e (hp.mem_iff.2 he),dis:=(hp.pairwise_iff (λhxy k hk hk'=>hxy k hk' hk)).1 h.dis,zdis:=λe he=>h.zdis e (hp.mem_iff.2 he),gst:=h.gst.perm hp }
theorem AZ:∀{H:List Ent} {i:Nat} {e:Ent},H[i]? =some e→H.Perm (e::H.eraseIdx i)
 | x::r,0,e,h=>by simp at h;subst h;simp
 | x::r,i+1,e,h=>by
  simp at h;exact((AZ h).cons x).trans (List.Perm.swap e x _)
theorem St.front (h:St c H Z w){i:Nat}{e:Ent}(hi:H[i]? =some e):St c (e::H.eraseIdx i) Z w:=h.perm (AZ hi)
theorem St.ent (h:St c H Z w){i:Nat}{en:Ent}(hi:H[i]? =some en):en.holds Z w:=h.has en (Afc hi)
theorem St.drawn (h:St c H Z w)(k:Nat):St c H Z { w with drawn:=k }:=
 { h with has:=λe he=>Ent.keep (h.has e he) (Fz.le.refl _) λ_ _=>rfl,frz:=⟨h.frz.f,h.frz.nm⟩,gst:=h.gst.grow (Afm _) }
theorem St.mem_lt (h:St c H Z w){e:Ent}(he:e∈H){k:Nat}(hk:k∈e.foot):k<w.heap.size:=Ent.lt (h.has e he) hk
theorem St.call (h:St c (Hin++Hr) Z w){E:Fz→Prop}(h':St ⟨w,Z,Hin.flatMap Ent.foot,E,Hin.flatMap Ent.gk⟩ Hout Z' w'):St c (Hout++Hr) Z' w':=by
 have hd:=List.pairwise_append.1 h.dis;have hM:∀k∈Hin.flatMap Ent.foot,∃e∈Hin,k∈e.foot:=λk hk=>List.mem_flatMap.1 hk;have hM2:∀k,k<c.w0.heap.size→k ∉ c.M→k ∉ Hin.flatMap Ent.foot:=λk hk hkM hkM2=>by
  obtain⟨e,he,hke⟩:=hM k hkM2;rcases h.own e (List.mem_append_left _ he) k hke with h1 | h1
  ·omega
  ·exact hkM h1
 have hr:∀e∈Hr,∀k∈e.foot,k<w.heap.size∧k ∉ Hin.flatMap Ent.foot:=λe he k hk=>by
  refine⟨h.mem_lt (List.mem_append_right _ he) hk,λhkM2=>?_⟩;obtain⟨e',he',hke'⟩:=hM k hkM2;exact hd.2.2 e' he' e he k hke' hk
 refine⟨h'.os.trans h.os,h'.tape.trans h.tape,h'.output.trans h.output,Nat.le_trans h.size h'.size,λk hk hkM=>?_,λe he=>?_,λe he k hk=>?_,?_,h'.frz,h.le.trans h'.le,λb o hb=>?_,λe he k hk=>?_,h.emono h'.le h.env,h.emono,h.gst.call h.size h'.size h'.gst⟩
 ·exact(h'.old k (Nat.lt_of_lt_of_le hk h.size) (hM2 k hk hkM)).trans (h.old k hk hkM)
 ·rcases List.mem_append.1 he with he | he
  ·exact h'.has e he
  ·exact Ent.keep (h.has e (List.mem_append_right _ he)) h'.le λk hk=>h'.old k (hr e he k hk).1 (hr e he k hk).2
 ·rcases List.mem_append.1 he with he | he
  ·rcases h'.own e he k hk with h1 | h1
   ·exact .inl (Nat.le_trans h.size h1)
   ·obtain⟨e',he',hke'⟩:=hM k h1;exact h.own e' (List.mem_append_left _ he') k hke'
  ·exact h.own e (List.mem_append_right _ he) k hk
 ·refine List.pairwise_append.2 ⟨h'.dis,hd.2.1,λe he e' he' k hk hk'=>?_⟩;rcases h'.own e he k hk with h1 | h1
  ·have h2:=(hr e' he' k hk').1;simp only at h1;omega
  ·exact(hr e' he' k hk').2 h1
 ·rcases h'.new b o hb with h1 | h1 | h1
  ·exact h.new b o h1
  ·exact .inr (.inl (Nat.le_trans h.size h1))
  ·obtain⟨e',he',hke'⟩:=hM b h1;exact .inr (h.own e' (List.mem_append_left _ he') b hke')
 ·rcases List.mem_append.1 he with he | he
  ·exact h'.zdis e he k hk
  ·have h2:=hr e he k hk
   cases hz:Z' k with
   | none=>rfl
   | some o=>
    rcases h'.new k o hz with h1 | h1 | h1
    ·have:=h.zdis e (List.mem_append_right _ he) k hk;simp only at h1;rw[this] at h1;cases h1
    ·simp only at h1;omega
    ·exact absurd h1 h2.2
theorem St.call0 (h:St c H Z w){E:Fz→Prop}(h':St ⟨w,Z,[],E,[]⟩ Hout Z' w'):St c (Hout++H) Z' w':=St.call (Hin:=[]) (by simpa using h) h'
theorem St.callF {e:Ent}(h:St c H Z w){i:Nat}(hi:H[i]? =some e){E:Fz→Prop}(h':St ⟨w,Z,e.foot,E,e.gk⟩ Hout Z' w'):St c (Hout++H.eraseIdx i) Z' w':=
 St.call (Hin:=[e]) (Hr:=H.eraseIdx i) (h.front hi) (by simpa using h')
theorem St.oneG {M G:List Nat}{E:Fz→Prop}{e':Ent}(hz:WT Z w)(he0:E Z)(hm:∀{Z Z':Fz},Fz.le Z Z'→E Z→E Z')(os:w'.os=w.os)(tape:w'.tape=w.tape)(output:w'.output=w.output)(size:w.heap.size≤w'.heap.size)
  (hb:∀k,k<w.heap.size→k ∉ M→w'.heap[k]? =w.heap[k]?) (hM:∀k∈M,Z k=none) (he:e'.holds Z w') (hf:∀k∈e'.foot,k∈M∨w.heap.size≤k) (hg:MY ⟨w,Z,M,E,G⟩ [e'] Z w'):St ⟨w,Z,M,E,G⟩ [e'] Z w':=by
 refine⟨os,tape,output,size,hb,by simpa using he,by simpa using λk hk=>(hf k hk).symm,by simp,⟨λb o hbo=>?_,λk i b hb=>Nat.lt_of_lt_of_le (hz.nm k i b hb) size⟩,Fz.le.refl _,λ_ _ e=>.inl e,?_,he0,hm,hg⟩
 ·rw[hb b (hz.lt hbo) (λh=>by rw[hM b h] at hbo;cases hbo)];exact hz b o hbo
 ·simp only[Afo,forall_eq];intro k hk;rcases hf k hk with h | h
  ·exact hM k h
  ·cases hz':Z k with
   | none=>rfl
   | some o=>have:=hz.lt hz';omega
theorem St.one {M G:List Nat}{E:Fz→Prop}{e':Ent}(hz:WT Z w)(he0:E Z)(hm:∀{Z Z':Fz},Fz.le Z Z'→E Z→E Z')(os:w'.os=w.os)(tape:w'.tape=w.tape)(output:w'.output=w.output)(size:w.heap.size≤w'.heap.size)
  (hb:∀k,k<w.heap.size→k ∉ M→w'.heap[k]? =w.heap[k]?) (hM:∀k∈M,Z k=none) (he:e'.holds Z w') (hf:∀k∈e'.foot,k∈M∨w.heap.size≤k) (hg:e'.gk=[]:=by rfl):St ⟨w,Z,M,E,G⟩ [e'] Z w':=St.oneG hz he0 hm os tape output size hb hM he hf (MY.none (by simp[hg]))
theorem St.set (h:St c H Z w){i:Nat}{e e':Ent}(hi:H[i]? =some e)(os:w'.os=w.os)(tape:w'.tape=w.tape)(output:w'.output=w.output)(size:w.heap.size≤w'.heap.size)
  (hb:∀k,k<w.heap.size→k ∉ e.foot→w'.heap[k]? =w.heap[k]?) (he:e'.holds Z w') (hf:∀k∈e'.foot,k∈e.foot∨w.heap.size≤k) (hg:e'.gk=[]:=by rfl):St c (H.set i e') Z w':=by
 have hmem:=Afc hi;have h3:=h.callF hi (St.one (e':=e') h.frz h.env h.emono os tape output size hb (h.zdis e hmem) he hf hg);have hil:i<H.length:=(List.getElem?_eq_some_iff.1 hi).1;have hq:(H.set i e')[i]? =some e':=by simp[hil]
 have:=AZ hq;rw[List.eraseIdx_set_eq] at this;exact h3.perm this.symm
theorem St.add (h:St c H Z w){e':Ent}(os:w'.os=w.os)(tape:w'.tape=w.tape)(output:w'.output=w.output)(size:w.heap.size≤w'.heap.size)
  (hb:∀k,k<w.heap.size→w'.heap[k]? =w.heap[k]?) (he:e'.holds Z w') (hf:∀k∈e'.foot,w.heap.size≤k) (hg:e'.gk=[]:=by rfl):St c (e'::H) Z w':=
 h.call0 (St.one (e':=e') (M:=[]) h.frz h.env h.emono os tape output size (λk hk _=>hb k hk) (by simp) he (λk hk=>.inr (hf k hk)) hg)
theorem St.alloc (h:St c H Z w)(o:Obj){e:Ent}(he:e.holds Z (w.alloc o))(hf:e.foot=[w.heap.size])(hg:e.gk=[]:=by rfl):St c (e::H) Z (w.alloc o):=
 h.add rfl rfl rfl (by simp) (λk hk=>Below.heap_alloc w o k hk) he (by simp[hf]) hg
theorem MQ {α:Type}{sz:Nat}:∀{vs:List (List α)} (hs:∀c∈vs,c.length=sz) {i:Nat} {c:List α} (hi:vs[i]? =some c) {j:Nat} {u:α} (hj:c[j]? =some u),vs.flatten[i*sz+j]? =some u
 | [],hs,i,c,hi,j,u,hj=>by simp at hi
 | x::r,hs,0,c,hi,j,u,hj=>by
  simp at hi;subst hi;simp only[List.flatten_cons,Nat.zero_mul,Afu];rw[Af5 (by have:=(List.getElem?_eq_some_iff.1 hj).1;exact this)];exact hj
 | x::r,hs,i+1,c,hi,j,u,hj=>by
  have hx:x.length=sz:=hs x (by simp);simp only[List.flatten_cons];rw[List.getElem?_append_right (by rw[hx,Nat.succ_mul];omega)];have e:(i+1)*sz+j-x.length=i*sz+j:=by rw[hx,Nat.succ_mul];omega
  rw[e];exact MQ (vs:=r) (λc hc=>hs c (by simp[hc])) (by simpa using hi) hj
theorem Jw {α:Type}{sz:Nat}:∀{vs:List (List α)} (hs:∀c∈vs,c.length=sz),vs.flatten.length=vs.length*sz
 | [],_=>by simp
 | x::r,hs=>by
  have:=Jw (vs:=r) (λc hc=>hs c (by simp[hc]));have hx:=hs x (by simp);simp only[List.flatten_cons,Afl,AeZ] at this ⊢;rw[this,hx,Nat.succ_mul];omega
theorem St.freeze (h:St c H Z w){i:Nat}{v:Value}{e:TypeId}{sz:Nat}{xs:List (List Rp)}(hi:H[i]? =some (.row v e sz xs)):∃Z',Fz.le Z Z'∧St c (H.eraseIdx i) Z' w∧UB sz xs Z' v:=by
 obtain⟨h0,us,⟨h1,h2⟩,h3⟩:=h.ent hi;have hlen:=h3.length;rcases h2 with⟨rfl,hn⟩ | ⟨g,cap,cur,rfl,_,hg,hc,hm,hsz,htk⟩
 ·have:xs=[]:=Afp hn;subst this;exact⟨Z,Fz.le.refl _,h.sub (List.eraseIdx_sublist _ _),UB.nil _ _⟩
 ·have hmem:=Afc hi;have hgz:Z g=none:=h.zdis _ hmem g (by simp[Ent.foot,Value.ownBlock])
  let Z':Fz:=⟨λb=>if b=g then some (.cells cur e (0,0)) else Z b,Z.nm⟩
  have hle:Fz.le Z Z':=⟨λb o hb=>by
   have:b≠g:=λe=>by subst e;rw[hgz] at hb;cases hb
   simpa[Z',this] using hb,λ_ _ _ h=>h⟩
  have hfr:=h.front hi;have hd:=List.pairwise_cons.1 hfr.dis;refine⟨Z',hle,?_,?_⟩
  ·have hs:=hfr.sub (List.sublist_cons_self _ _);refine { hs with has:=λen he=>Ent.keep (hs.has en he) hle λ_ _=>rfl,frz:=⟨λb o hb=>?_,h.frz.nm⟩,gst:=hs.gst.names rfl,le:=hs.le.trans hle,new:=λb o hb=>?_,zdis:=λen he k hk=>?_,env:=hs.emono hle hs.env }
   ·by_cases hbg:b=g
    ·subst hbg;simp[Z'] at hb;rw[← hb];exact hg
    ·simp[Z',hbg] at hb;exact h.frz b o hb
   ·by_cases hbg:b=g
    ·subst hbg;exact .inr (h.own _ hmem b (by simp[Ent.foot,Value.ownBlock]))
    ·simp[Z',hbg] at hb;exact h.new b o hb
   ·have hkg:k≠g:=λe=>hd.1 en he g (by simp[Ent.foot,Value.ownBlock]) (e▸hk);simp only[Z',hkg,Afh];exact hs.zdis en he k hk
  ·refine⟨some ⟨g,0,none⟩,cap,rfl,hc,hm,(λh=>by cases h),λj cl hj=>⟨h0 cl (Afc hj),⟨g,0,none⟩,rfl,rfl,λq r hq=>?_⟩⟩;have hfl:xs.flatten[j*sz+q]? =some r:=MQ h0 hj hq;obtain⟨u,hu,hp⟩:=h3.at hfl;refine⟨u,?_,r.mono hle hp⟩;rw[← htk,Af0] at hu
   split at hu
   ·simpa[IS,Z'] using hu
   ·cases hu
end
end Go.Proofs.YtmjlemhondjfhaaGreatDoor.Q
namespace Go.Proofs.YtmjlemhondjfhaaGreatDoor
open Go Go.RowKit
set_option linter.unusedVariables false
theorem Kg (b o j:Nat):(⟨b,o,none⟩:Addr).add j=⟨b,o+j,none⟩:=by unfold Addr.add;split<;>simp_all
section
variable {P : Program} {n : Nat} {w0 : World} {M : List Nat} {ops : Array Oper} {Q : Exit → Act → World → Prop} {rest : List Oper} {l : Fr} {H H' : List Ent} {d : Nat} {x y c : Operand} {ty t t' e : TypeId} {pos : String} {af : Array Edge} {g : Option (Nat × Bool)} {v u : Value}
theorem St.ent {w:World}(h:St w0 M H w){i:Nat}{en:Ent}(hi:H[i]? =some en):en.holds w:=h.has en (Afc hi)
theorem BL {z:Value}{cs:Array Value}(hz:∀w,(zeroValue e).run P w = .ok z w)(hcs:z.cells=cs)(hn:Nat.blt d n=true)
  (h:∀b,WL P n w0 M ops Q rest ((d,.pointer (some ⟨b,0,none⟩))::l) (.blk b (.cells cs e (0,0))::H)) :
  WL P n w0 M ops Q ({ dst:=some d,op:=.alloc e,type:=ty,pos:=pos,after:=af,guard:=none }::rest) l H:=
 J2 (λa w ha hw=>⟨_,w.alloc (.cells cs e),_,by subst hcs;simp[execOp,Instr.alloc,hz,newVar,newRow,newObj,Sem.run,Sem.run_bind],hw.alloc _,h w.heap.size⟩) hn
theorem OQ {cs:Array Value}(hx:ev l x=some v)(hcs:v.cells=cs)(hn:Nat.blt d n=true)
  (h:∀b,WL P n w0 M ops Q rest ((d,.pointer (some ⟨b,0,none⟩))::l) (.blk b (.cells cs e (0,0))::H)) :
  WL P n w0 M ops Q ({ dst:=some d,op:=.box e x,type:=ty,pos:=pos,after:=af,guard:=none }::rest) l H:=
 J2 (λa w ha hw=>⟨_,w.alloc (.cells cs e),_,by subst hcs;simp[execOp,ha.eval hx,Instr.box,newVar,newRow,newObj,Sem.run],hw.alloc _,h w.heap.size⟩) hn
theorem U0 {w:World}{i b off:Nat}{cs:Array Value}{fz:Nat×Nat}(hw:St w0 M H w)(hi:H[i]? =some (.blk b (.cells cs e fz))):w.cell? ⟨b,off,none⟩=cs[off]?:=
 cell_of_row w b off cs e fz (hw.ent hi)
theorem AT {i b off:Nat}{cs:Array Value}{fz:Nat×Nat}{dd:Option Nat}(hag:∀w,(isAgg t).run P w = .ok false w)(hx:ev l x=some (.pointer (some ⟨b,off,none⟩)))
  (hi:H[i]? =some (.blk b (.cells cs e fz))) (hc:cs[off]? =some v):B4 P n w0 M l H { dst:=dd,op:=.load t x,type:=ty,pos:=pos,after:=af,guard:=g } v:=λa w ha hw=>by
 simp[execOp,ha.eval hx,Instr.loadAt,Instr.sureAddr,loadVar,hag,U0 hw hi,hc]
theorem Be {i b off sz:Nat}{cs:Array Value}{fz:Nat×Nat}{dd:Option Nat}{r:List Value}(hag:∀w,(isAgg t).run P w = .ok true w)(hsz:∀w,(sizeOf t).run P w = .ok sz w)
  (hx:ev l x=some (.pointer (some ⟨b,off,none⟩))) (hi:H[i]? =some (.blk b (.cells cs e fz))) (hr:(cs.toList.drop off).take sz=r) (hl:r.length=sz) :
  B4 P n w0 M l H { dst:=dd,op:=.load t x,type:=ty,pos:=pos,after:=af,guard:=g } (.agg r.toArray):=λa w ha hw=>by
 have h1:=run_loadCells_list (P:=P) w ⟨b,off,none⟩ r (λj u hj=>by
  rw[Kg,U0 hw hi];subst hr;rw[Af0] at hj
  split at hj
  ·simpa using hj
  ·cases hj)
 rw[hl] at h1;simp[execOp,ha.eval hx,Instr.loadAt,Instr.sureAddr,loadVar,hag,hsz,h1]
theorem St.setBlk {w:World}(h:St w0 M H w){i b:Nat}{cs cs':Array Value}(hi:H[i]? =some (.blk b (.cells cs e (0,0)))):St w0 M (H.set i (.blk b (.cells cs' e (0,0)))) (w.setRow b cs'):=by
 have hb:w.heap[b]? =some (.cells cs e (0,0)):=h.ent hi;refine h.set hi rfl rfl rfl (by simp[World.setRow]) (λk _ hk=>?_) ?_ (by simp[Ent.foot])
 ·simp only[Ent.foot,Afo] at hk;simp only[World.setRow,Array.getElem?_modify];rw[Afz (λe=>hk e.symm)]
 ·exact setRow_heap w b cs cs' e (0,0) hb
theorem R2 {i b off:Nat}{cs cs':Array Value}(hag:∀w,(sizeOf t).run P w = .ok 1 w)(hx:ev l x=some (.pointer (some ⟨b,off,none⟩)))(hy:ev l y=some v)(hv:v.oneCell'=true)
  (hi:H[i]? =some (.blk b (.cells cs e (0,0)))) (hlt:Nat.blt off cs.size=true) (hcs:cs.setIfInBounds off v=cs') (hH:H.set i (.blk b (.cells cs' e (0,0)))=H')
  (h:WL P n w0 M ops Q rest l H'):WL P n w0 M ops Q ({ dst:=none,op:=.store t x y,type:=ty,pos:=pos,after:=af,guard:=none }::rest) l H:=
 SV λa w ha hw=>by
  have hb:w.heap[b]? =some (.cells cs e (0,0)):=hw.ent hi;have hlt':off<cs.size:=by simpa using hlt
  have h1:=run_storeCells_at P b off e [v] 0 cs w hb (by simp;omega) (by simpa using hv);have hcv:v.cells = #[v]:=by cases v<;>first | rfl | simp[Value.oneCell'] at hv
  have h2:(cs.toList.take off++[v]++cs.toList.drop (off+1)).toArray=cs':=by
   subst hcs;apply Array.ext';simp[Array.toList_setIfInBounds,List.set_eq_take_append_cons_drop,hlt']
  simp only[Nat.add_zero,AeZ,Af7,Afu] at h1;rw[h2] at h1;refine⟨w.setRow b cs',H',?_,?_,h⟩
  ·simp[execOp,ha.eval hx,ha.eval hy,Instr.storeAt,Instr.sureAddr,storeVar,hag,hcv,h1]
  ·subst hH;exact hw.setBlk hi
theorem NK {i b off sz:Nat}{cs:Array Value}{r r':List Value}(hsz:∀w,(sizeOf t).run P w = .ok sz w)(hx:ev l x=some (.pointer (some ⟨b,off,none⟩)))(hy:ev l y=some (.agg r.toArray))
  (hl:r.length=sz) (hv:r.all (·.oneCell')=true) (hi:H[i]? =some (.blk b (.cells cs e (0,0)))) (hlt:off+sz≤cs.size)
  (hcs:cs.toList.take off++r++cs.toList.drop (off+sz)=r') (hH:H.set i (.blk b (.cells r'.toArray e (0,0)))=H')
  (h:WL P n w0 M ops Q rest l H'):WL P n w0 M ops Q ({ dst:=none,op:=.store t x y,type:=ty,pos:=pos,after:=af,guard:=none }::rest) l H:=
 SV λa w ha hw=>by
  have hb:w.heap[b]? =some (.cells cs e (0,0)):=hw.ent hi;have h1:=run_storeCells_at P b off e r 0 cs w hb (by omega) (by simpa[Afw] using hv);simp only[Nat.add_zero,hl,hcs] at h1;refine⟨w.setRow b r'.toArray,H',?_,?_,h⟩
  ·simp[execOp,ha.eval hx,ha.eval hy,Instr.storeAt,Instr.sureAddr,storeVar,hsz,Value.cells,hl,h1]
  ·subst hH;exact hw.setBlk hi
theorem AS {p:Addr}{dd:Option Nat}(hx:ev l x=some (.pointer (some p))):B4 P n w0 M l H { dst:=dd,op:=.nilCheck x,type:=ty,pos:=pos,after:=af,guard:=g } (.pointer (some p)):=λa w ha hw=>by
 simp[execOp,ha.eval hx]
theorem Az {b off off' i sz:Nat}{fs:Array Field}{f:Field}{dd:Option Nat}(hu:P.underlying t=some (.struct fs))(hf:fs[i]? =some f)(hsz:∀w,(sizeOf f.type).run P w = .ok (sz+1) w)
  (hx:ev l x=some (.pointer (some ⟨b,off,none⟩))) (ho:off+f.offset=off'):B4 P n w0 M l H { dst:=dd,op:=.fieldAddr t x i,type:=ty,pos:=pos,after:=af,guard:=g } (.pointer (some ⟨b,off',none⟩)):=λa w ha hw=>by
 subst ho;simp[execOp,ha.eval hx,Instr.fieldAt,run_underlying hu,hf,Instr.sureAddr,fieldPlace,hsz,Kg]
end
def Oa:Nat→List Value→Fr
 | _,[]=>[]
 | i,v::r=>(i,v)::Oa (i+1) r
theorem Iq:∀(args:List Value) (k i:Nat) (v:Value),look (Oa k args) i=some v→k≤i∧args[i-k]? =some v
 | [],k,i,v,h=>by simp[Oa,look] at h
 | u::r,k,i,v,h=>by
  rw[Oa,Cw] at h
  split at h
  ·rename_i e;subst e;simp at h;subst h;simp
  ·rename_i e
   have:=Iq r (k+1) i v h;refine⟨by omega,?_⟩;rw[show i-k=(i-(k+1))+1 from by omega];simpa using this.2
section
variable {P : Program} {n : Nat} {w0 w : World} {M : List Nat} {ops : Array Oper} {Q : Exit → Act → World → Prop} {rest : List Oper} {l l' : Fr} {H H' : List Ent} {d : Nat} {ty t : TypeId} {pos : String} {af : Array Edge} {v u : Value}
theorem AcY {f:FuncId}{fn:Func}{c:Code}{args:List Value}{R:Ending→World→Prop}(hf:P.funcs[f]? =some fn)(hb:fn.body=some c)(hn:fn.ntmps=n)(hle:Nat.ble args.length n=true)
  (hw:St w0 M H w) (h:WC P n w0 M c (bodyPost P fn R) (Oa 0 args) H):Calls P f args.toArray w R:=by
 have hle':args.length≤n:=by simpa using hle
 refine calls_of_wp hf hb (h _ w ⟨?_,rfl,λi v hi=>?_⟩ hw)
 ·simp[hn];omega
 ·have:=(Iq args 0 i v hi).2;simp only[Nat.sub_zero] at this;have hlt:i<args.length:=(List.getElem?_eq_some_iff.1 this).1;rw[Array.getElem?_append_left (by simpa using hlt)];simpa using this
theorem Ey {f:FuncId}{fn:Func}{c:Code}{args:List Value}{R:Ending→World→Prop}(hf:P.funcs[f]? =some fn)(hb:fn.body=some c)(hn:fn.ntmps=n)(hle:Nat.ble args.length n=true)
  (h:WC P n w [] c (bodyPost P fn R) (Oa 0 args) []):Calls P f args.toArray w R:=AcY hf hb hn hle (St.refl w []) h
theorem Aq {fn:Func}{R:Ending→World→Prop}(hr:∀a w,Dg n l a→St w0 M H w→(results fn a.tmps).run P w = .ok v w)(h:∀w,St w0 M H w→R (.returned v) w):WK n w0 M (bodyPost P fn R .ret) l H:=
 λa w ha hw=>⟨ha.defers,v,hr a w ha hw,h w hw⟩
theorem Ie {fn:Func}{R:Ending→World→Prop}(hr:∀a w,Dg n l a→St w0 M H w→(results fn a.tmps).run P w = .ok v w)(h:∀w,St w0 M H w→R (.returned v) w):WK n w0 M (bodyPost P fn R .normal) l H:=
 λa w ha hw=>⟨ha.defers,v,hr a w ha hw,h w hw⟩
theorem IX {a:Act}(ha:Dg n l a){i:Nat}(h:look l i=some v):a.tmps[i]?.getD undef=v:=by
 rw[ha.tm i v h];rfl
theorem Xp {fn:Func}(hr:fn.results = #[]):∀a w,Dg n l a→St w0 M H w→(results fn a.tmps).run P w = .ok (.tuple #[]) w:=λa w ha hw=>by simp[results,hr]
theorem B2 {fn:Func}{i:Nat}(hr:fn.results = #[.tmp i])(h:look l i=some v):∀a w,Dg n l a→St w0 M H w→(results fn a.tmps).run P w = .ok v w:=λa w ha hw=>by
 have e:=IX ha h;simp[results,hr,e]
theorem HW {fn:Func}{i j:Nat}(hr:fn.results = #[.tmp i,.tmp j])(h:look l i=some v)(h2:look l j=some u):∀a w,Dg n l a→St w0 M H w→(results fn a.tmps).run P w = .ok (.tuple #[v,u]) w:=λa w ha hw=>by
 have e:=IX ha h;have e2:=IX ha h2;simp[results,hr,e,e2]
theorem U7 {fn:Func}{i j k:Nat}{u':Value}(hr:fn.results = #[.tmp i,.tmp j,.tmp k])(h:look l i=some v)(h2:look l j=some u)(h3:look l k=some u'):∀a w,Dg n l a→St w0 M H w→(results fn a.tmps).run P w = .ok (.tuple #[v,u,u']) w:=λa w ha hw=>by
 have e:=IX ha h;have e2:=IX ha h2;have e3:=IX ha h3;simp[results,hr,e,e2,e3]
theorem EY (e:v=u):∀w,St w0 [] H w→I5 w0 u (.returned v) w:=λw hw=>⟨by rw[e],hw.sub (List.nil_sublist _)⟩
theorem E9 {f:FuncId}{args:Array Operand}{ats:Array TypeId}{o:Oper}{a:Act}{vs:List Value}(ho:o.op = .call { callee:=.value (.func f),args:=args,argTypes:=ats })
  (hcall:∀(as1:Array Value) (w:World),(callFunc f as1).run P w = .ok (.enter f as1) w) (hv:(args.map a.eval)=vs.toArray) (w:World):(execOp a.eval o).run P w = .ok (.enter f vs.toArray) w:=by
 simp[execOp,ho,resolve,Act.eval,Deferred.ofValue,invoke,hv,hcall]
def MT (l:Fr):List Operand→Option (List Value)
 | []=>some []
 | x::r=>match ev l x,MT l r with
  | some v,some vs=>some (v::vs)
  | _,_=>none
theorem MS {a:Act}(ha:Dg n l a):∀{xs:List Operand} {vs:List Value},MT l xs=some vs→xs.map a.eval=vs
 | [],vs,h=>by simp[MT] at h;subst h;rfl
 | x::r,vs,h=>by
  simp only[MT] at h
  split at h
  ·rename_i v vs' h1 h2
   simp at h;subst h;simp[ha.eval h1,MS ha h2]
  ·cases h
theorem Cf {f:FuncId}{args:List Operand}{ats:Array TypeId}{vs:List Value}(hcall:∀(as1:Array Value) (w:World),(callFunc f as1).run P w = .ok (.enter f as1) w)(hv:MT l args=some vs)
  (hc:∀w,St w0 M H w→Calls P f vs.toArray w (I5 w u)) (hn:Nat.blt d n=true) (h:WL P n w0 M ops Q rest ((d,u)::l) H) :
  WL P n w0 M ops Q ({ dst:=some d,op:=.call { callee:=.value (.func f),args:=args.toArray,argTypes:=ats },type:=ty,pos:=pos,after:=af,guard:=none }::rest) l H:=
 KO (λa w ha hw=>E9 rfl hcall (by simp[MS ha hv]) w) (λw hw=>(hc w hw).mono λe w' ⟨he,hs⟩=>⟨u,H,he,by simpa using hw.call0 hs,h⟩) hn
theorem VR {f:FuncId}{args:List Operand}{ats:Array TypeId}{vs:List Value}{Φ:Value→List Ent→Prop}(hcall:∀(as1:Array Value) (w:World),(callFunc f as1).run P w = .ok (.enter f as1) w)(hv:MT l args=some vs)
  (hc:∀w,St w0 M H w→Calls P f vs.toArray w (Ym w [] Φ)) (hn:Nat.blt d n=true) (h:∀u Ho,Φ u Ho→WL P n w0 M ops Q rest ((d,u)::l) (Ho++H)) :
  WL P n w0 M ops Q ({ dst:=some d,op:=.call { callee:=.value (.func f),args:=args.toArray,argTypes:=ats },type:=ty,pos:=pos,after:=af,guard:=none }::rest) l H:=
 KO (λa w ha hw=>E9 rfl hcall (by simp[MS ha hv]) w) (λw hw=>(hc w hw).mono λe w' ⟨v,Ho,he,hs,hf⟩=>⟨v,Ho++H,he,hw.call0 hs,h v Ho hf⟩) hn
end
end Go.Proofs.YtmjlemhondjfhaaGreatDoor
namespace Go.Proofs.YtmjlemhondjfhaaGreatDoor.Q
open Go Go.RowKit
set_option linter.unusedVariables false
section
variable (P : Program) (n : Nat) (c : Cx)
def WL (ops:Array Oper)(Q:Exit→Act→World→Prop)(rest:List Oper)(l:Fr)(H:List Ent):Prop:=∀a w Z,Dg n l a Z→St c H Z w→wpList P ops Q rest a w
def WC (x:Code)(Q:Exit→Act→World→Prop)(l:Fr)(H:List Ent):Prop:=∀a w Z,Dg n l a Z→St c H Z w→x.wp P Q a w
def WK (K:Act→World→Prop)(l:Fr)(H:List Ent):Prop:=∀a w Z,Dg n l a Z→St c H Z w→K a w
def Ka {S:Type}(inv:S→Prop)(fr:S→Fr)(hp:S→List Ent):Act→World→Prop:=λa w=>∃s Z,inv s∧Dg n (fr s) a Z∧St c (hp s) Z w
def B4 (l:Fr)(H:List Ent)(o:Oper)(r:Rp):Prop:=∀a w Z,Dg n l a Z→St c H Z w→∃v,r.p Z v∧(execOp a.eval o).run P w = .ok (.value v) w
end
def Ym (c:Cx)(Φ:Rp→List Ent→Prop):Ending→World→Prop:=λe w'=>∃r v H Z,e = .returned v∧Φ r H∧r.p Z v∧St c H Z w'
def Fn (P:Program)(E:Fz→Prop)(f:FuncId)(args:List Rp)(Hin:List Ent)(Φ:Rp→List Ent→Prop):Prop:=
 ∀w Z (vs:List Value),Bw Z args vs→St ⟨w,Z,Hin.flatMap Ent.foot,E,Hin.flatMap Ent.gk⟩ Hin Z w→Calls P f vs.toArray w (Ym ⟨w,Z,Hin.flatMap Ent.foot,E,Hin.flatMap Ent.gk⟩ Φ)
abbrev KL (P:Program)(E:Fz→Prop)(f:FuncId)(args:List Rp)(r:Rp):Prop:=Fn P E f args [] (λr' H=>r'=r∧H=[])
def AbL:List Rp→List Rp→Prop
 | [],[]=>True
 | a::as1,b::bs=>HS a b∧AbL as1 bs
 | _,_=>False
theorem AbL.all {Z:Fz}:∀{rs rs':List Rp} {vs:List Value},AbL rs rs'→Bw Z rs vs→Bw Z rs' vs
 | [],[],[],_,_=>trivial
 | a::as1,b::bs,v::vs,⟨h1,h2⟩,⟨h3,h4⟩=>⟨h1 Z v h3,h2.all h4⟩
theorem Fn.args {P:Program}{E:Fz→Prop}{f:FuncId}{rs rs':List Rp}{Hin:List Ent}{Φ:Rp→List Ent→Prop}(h:Fn P E f rs' Hin Φ)(hl:AbL rs rs'):Fn P E f rs Hin Φ:=λw Z vs hv hs=>h w Z vs (hl.all hv) hs
section
variable {P : Program} {n : Nat} {c : Cx} {ops : Array Oper} {Q : Exit → Act → World → Prop} {rest : List Oper} {l l' : Fr} {H H' : List Ent} {x y : Code} {K : Act → World → Prop}
theorem WC.sub (hl:AH l' l)(hH:H'.Sublist H)(h:WC P n c x Q l' H'):WC P n c x Q l H:=λa w Z ha hw=>h a w Z (ha.sub hl) (hw.sub hH)
theorem WK.sub (hl:AH l' l)(hH:H'.Sublist H)(h:WK n c K l' H'):WK n c K l H:=λa w Z ha hw=>h a w Z (ha.sub hl) (hw.sub hH)
theorem WL.sub (hl:AH l' l)(hH:H'.Sublist H)(h:WL P n c ops Q rest l' H'):WL P n c ops Q rest l H:=λa w Z ha hw=>h a w Z (ha.sub hl) (hw.sub hH)
theorem WL.front {i:Nat}{e:Ent}(hi:H[i]? =some e)(h:WL P n c ops Q rest l (e::H.eraseIdx i)):WL P n c ops Q rest l H:=λa w Z ha hw=>h a w Z ha (hw.front hi)
theorem St.freezeF {Z:Fz}{w:World}(h:St c H Z w){i:Nat}{v:Value}{e:TypeId}{sz:Nat}{xs:List (List Rp)}(hi:H[i]? =some (.row v e sz xs)):∃Z',Fz.le Z Z'∧St c (.fact v (AO sz xs)::H.eraseIdx i) Z' w:=by
 obtain⟨Z',hz,hs,hr⟩:=h.freeze hi;exact⟨Z',hz,hs.add rfl rfl rfl (Afm _) (λ_ _=>rfl) (e':=.fact v (AO sz xs)) hr (by simp[Ent.foot])⟩
theorem WK.freeze {i:Nat}{v:Value}{e:TypeId}{sz:Nat}{xs:List (List Rp)}(hi:H[i]? =some (.row v e sz xs))(h:WK n c K l (.fact v (AO sz xs)::H.eraseIdx i)):WK n c K l H:=λa w Z ha hw=>by
 obtain⟨Z',hz,hs⟩:=St.freezeF hw hi;exact h a w Z' (ha.mono hz) hs
theorem WC.freeze {i:Nat}{v:Value}{e:TypeId}{sz:Nat}{xs:List (List Rp)}(hi:H[i]? =some (.row v e sz xs))(h:WC P n c x Q l (.fact v (AO sz xs)::H.eraseIdx i)):WC P n c x Q l H:=λa w Z ha hw=>by
 obtain⟨Z',hz,hs⟩:=St.freezeF hw hi;exact h a w Z' (ha.mono hz) hs
theorem WL.freeze {i:Nat}{v:Value}{e:TypeId}{sz:Nat}{xs:List (List Rp)}(hi:H[i]? =some (.row v e sz xs))(h:WL P n c ops Q rest l (.fact v (AO sz xs)::H.eraseIdx i)):WL P n c ops Q rest l H:=λa w Z ha hw=>by
 obtain⟨Z',hz,hs⟩:=St.freezeF hw hi;exact h a w Z' (ha.mono hz) hs
def Up (H:List Ent)(q r:Rp):Prop:=∀(c:Cx) Z w v,St c H Z w→q.p Z v→r.p Z v
theorem Up.refl (r:Rp):Up H r r:=λ_ _ _ _ _ h=>h
theorem Up.le {q r:Rp}(h:HS q r):Up H q r:=λ_ Z _ v _ hp=>h Z v hp
theorem Up.fact {i:Nat}{v:Value}{r:Rp}(hi:H[i]? =some (.fact v r)):Up H (rv v) r:=λc Z w u hw hp=>by rw[show u=v from hp];exact hw.ent hi
def JZ (H:List Ent):List Rp→List Rp→Prop
 | [],[]=>True
 | q::qs,r::rs=>Up H q r∧JZ H qs rs
 | _,_=>False
theorem JZ.refl:∀rs:List Rp,JZ H rs rs
 | []=>trivial
 | r::rs=>⟨Up.refl r,JZ.refl rs⟩
theorem JZ.all {c:Cx}{Z:Fz}{w:World}(hw:St c H Z w):∀{qs rs:List Rp} {vs:List Value},JZ H qs rs→Bw Z qs vs→Bw Z rs vs
 | [],[],[],_,_=>trivial
 | q::qs,r::rs,v::vs,⟨h1,h2⟩,⟨h3,h4⟩=>⟨h1 c Z w v hw h3,h2.all hw h4⟩
theorem Up.agg {qs rs:List Rp}(h:JZ H qs rs):Up H (B9 qs) (B9 rs):=λc Z w v hw ⟨us,e,hu⟩=>⟨us,e,h.all hw hu⟩
theorem Dg.up {a:Act}{Z:Fz}{w:World}(ha:Dg n l a Z)(hw:St c H Z w){d:Nat}{q r:Rp}(hd:look l d=some q)(hr:Up H q r):Dg n ((d,r)::l) a Z:=
 ⟨ha.size,ha.defers,λi s hi=>by
  rw[Cw] at hi
  split at hi
  ·rename_i e;subst e;simp at hi;subst hi
   obtain⟨u,hu,hp⟩:=ha.tm d _ hd;exact⟨u,hu,hr c Z w u hw hp⟩
  ·exact ha.tm i s hi⟩
theorem WK.up {d:Nat}{q r:Rp}(hd:look l d=some q)(hr:Up H q r)(h:WK n c K ((d,r)::l) H):WK n c K l H:=λa w Z ha hw=>h a w Z (ha.up hw hd hr) hw
theorem WC.up {d:Nat}{q r:Rp}(hd:look l d=some q)(hr:Up H q r)(h:WC P n c x Q ((d,r)::l) H):WC P n c x Q l H:=λa w Z ha hw=>h a w Z (ha.up hw hd hr) hw
theorem WL.up {d:Nat}{q r:Rp}(hd:look l d=some q)(hr:Up H q r)(h:WL P n c ops Q rest ((d,r)::l) H):WL P n c ops Q rest l H:=λa w Z ha hw=>h a w Z (ha.up hw hd hr) hw
theorem St.upBlk {Z:Fz}{w:World}(h:St c H Z w){i b:Nat}{cs cs':List Rp}{e:TypeId}(hi:H[i]? =some (.blk b cs e))(hu:JZ H cs cs'):St c (H.set i (.blk b cs' e)) Z w:=
 h.set hi rfl rfl rfl (Afm _) (λ_ _ _=>rfl) (by obtain⟨us,h1,h2⟩:=h.ent hi;exact⟨us,h1,hu.all h h2⟩) (by simp[Ent.foot])
theorem WK.upBlk {i b:Nat}{cs cs':List Rp}{e:TypeId}(hi:H[i]? =some (.blk b cs e))(hu:JZ H cs cs')(h:WK n c K l (H.set i (.blk b cs' e))):WK n c K l H:=λa w Z ha hw=>h a w Z ha (hw.upBlk hi hu)
theorem WC.upBlk {i b:Nat}{cs cs':List Rp}{e:TypeId}(hi:H[i]? =some (.blk b cs e))(hu:JZ H cs cs')(h:WC P n c x Q l (H.set i (.blk b cs' e))):WC P n c x Q l H:=λa w Z ha hw=>h a w Z ha (hw.upBlk hi hu)
theorem WL.upBlk {i b:Nat}{cs cs':List Rp}{e:TypeId}(hi:H[i]? =some (.blk b cs e))(hu:JZ H cs cs')(h:WL P n c ops Q rest l (H.set i (.blk b cs' e))):WL P n c ops Q rest l H:=λa w Z ha hw=>h a w Z ha (hw.upBlk hi hu)
theorem Ak (h:WC P n c x (Exit.then (λa w=>y.wp P Q a w) Q) l H):WC P n c (x.seq y) Q l H:=λa w Z ha hw=>wp_seq (h a w Z ha hw)
theorem If {S:Type}(inv:S→Prop)(fr:S→Fr)(hp:S→List Ent)(h:WC P n c x (Exit.then (Ka n c inv fr hp) Q) l H)(h2:∀s,inv s→WC P n c y Q (fr s) (hp s)) :
  WC P n c (x.seq y) Q l H:=λa w Z ha hw=>wp_seq (wp_mono (h a w Z ha hw) λe a w q=>by
   cases e with
   | normal=>obtain⟨s,Z,hi,hs,ht⟩:=q;exact h2 s hi a w Z hs ht
   | _=>exact q)
theorem AC {S:Type}{inv:S→Prop}{fr:S→Fr}{hp:S→List Ent}(s:S)(hi:inv s)(hl:AH (fr s) l)(hH:(hp s).Sublist H):WK n c (Ka n c inv fr hp) l H:=
 λ_ _ Z ha hw=>⟨s,Z,hi,ha.sub hl,hw.sub hH⟩
theorem Ar (h:WK n c K l H):WK n c (Exit.then K Q .normal) l H:=h
theorem Av {id:Nat}(h:WK n c (Q (.exit id)) l H):WK n c (Exit.then K Q (.exit id)) l H:=h
theorem Ab (h:WK n c (Q .ret) l H):WK n c (Exit.then K Q .ret) l H:=h
theorem AB {id:Nat}(h:WK n c (Q .normal) l H):WK n c (Exit.inBlock id Q .normal) l H:=h
theorem A3 {id:Nat}(h:WK n c (Q .ret) l H):WK n c (Exit.inBlock id Q .ret) l H:=h
theorem AG (h:WC P n c y Q l H):WK n c (λa w=>y.wp P Q a w) l H:=h
theorem Aw (h:WK n c (Q .normal) l H):WC P n c .skip Q l H:=λa w Z ha hw=>wp_skip (h a w Z ha hw)
theorem Bn {id:Nat}(h:WK n c (Q (.exit id)) l H):WC P n c (.exit id) Q l H:=λa w Z ha hw=>wp_exit (h a w Z ha hw)
theorem Ap (h:WK n c (Q .ret) l H):WC P n c .ret Q l H:=λa w Z ha hw=>wp_ret (h a w Z ha hw)
theorem A6 {id:Nat}(h:WC P n c x (Exit.inBlock id Q) l H):WC P n c (.block id x) Q l H:=λa w Z ha hw=>wp_block (h a w Z ha hw)
theorem AW {id:Nat}(h:WK n c (Q .normal) l H):WK n c (Exit.inBlock id Q (.exit id)) l H:=λa w Z ha hw=>by
 show if id=id then _ else _
 rw[Af6 rfl];exact h a w Z ha hw
theorem OO {id id':Nat}(hne:Nat.beq id' id=false)(h:WK n c (Q (.exit id')) l H):WK n c (Exit.inBlock id Q (.exit id')) l H:=λa w Z ha hw=>by
 show if id'=id then _ else _
 rw[Afz (λe=>by subst e;simp at hne)];exact h a w Z ha hw
theorem C1 {o:Operand}{b:Bool}(ho:ev l o=some (rB b))(h1:b=true→WC P n c x Q l H)(h2:b=false→WC P n c y Q l H):WC P n c (.cond o x y) Q l H:=
 λa w Z ha hw=>wp_cond_split (ha.eval ho) (λe=>h1 e a w Z ha hw) (λe=>h2 e a w Z ha hw)
theorem D7 {o:Operand}{b:Bool}(ho:ev l o=some (rB b))(hb:b=true)(h:WC P n c x Q l H):WC P n c (.cond o x y) Q l H:=
 λa w Z ha hw=>by subst hb;exact wp_cond_true (ha.eval ho) (h a w Z ha hw)
theorem CS {o:Operand}{b:Bool}(ho:ev l o=some (rB b))(hb:b=false)(h:WC P n c y Q l H):WC P n c (.cond o x y) Q l H:=
 λa w Z ha hw=>by subst hb;exact wp_cond_false (ha.eval ho) (h a w Z ha hw)
theorem HK {S:Type}(inv:S→Prop)(fr:S→Fr)(hp:S→List Ent)(μ:S→Nat)(s0:S)(h0:inv s0)(hl:AH (fr s0) l)(hH:(hp s0).Sublist H)
  (round:∀s,inv s→WC P n c x (Exit.then (Ka n c (λs'=>inv s'∧μ s'<μ s) fr hp) Q) (fr s) (hp s)):WC P n c (.loop x) Q l H:=λa w Z ha hw=>by
 refine wp_loop_ghost (λk a w=>∃s Z,μ s=k∧inv s∧Dg n (fr s) a Z∧St c (hp s) Z w) (μ s0) ⟨s0,Z,rfl,h0,ha.sub hl,hw.sub hH⟩ ?_;rintro k a w ⟨s,Z,rfl,hi,ha,hw⟩;refine wp_mono (round s hi a w Z ha hw) λe a' w' q=>?_
 cases e with
 | normal=>
  obtain⟨s',Z',⟨hi',hlt⟩,ha',hw'⟩:=q;exact⟨μ s',hlt,s',Z',rfl,hi',ha',hw'⟩
 | _=>exact q
theorem Af {id:Nat}{ops:List Oper}(h:WL P n c ops.toArray Q ops l H):WC P n c (.region id ops.toArray false) Q l H:=λa w Z ha hw=>wp_region_lit (h a w Z ha hw)
theorem Ah (h:WK n c (Q .normal) l H):WL P n c ops Q [] l H:=λa w Z ha hw=>wpList_nil (h a w Z ha hw)
theorem sN {α:Type}:([]:List α).Sublist []:=List.Sublist.slnil
theorem sC {α:Type}{a:α}{l1 l2:List α}(h:l1.Sublist l2):(a::l1).Sublist (a::l2):=List.Sublist.cons_cons a h
theorem sS {α:Type}{a:α}{l1 l2:List α}(h:l1.Sublist l2):l1.Sublist (a::l2):=List.Sublist.cons a h
theorem AE (h:WC P n c y Q l H):WK n c (Exit.then (λa w=>y.wp P Q a w) Q .normal) l H:=Ar (AG h)
theorem Ao (h:WC P n c y Q l H):WL P n c ops (Exit.then (λa w=>y.wp P Q a w) Q) [] l H:=Ah (AE h)
theorem Ad {id:Nat}{ops:List Oper}(h:WL P n c ops.toArray (Exit.then (λa w=>y.wp P Q a w) Q) ops l H):WC P n c ((Code.region id ops.toArray false).seq y) Q l H:=Ak (Af h)
theorem Bp {id:Nat}{os:List Oper}(h:WL P n c os.toArray (Exit.then (λa w=>y.wp P Q a w) Q) os l H):WL P n c ops (Exit.then (λa w=>((Code.region id os.toArray false).seq y).wp P Q a w) Q) [] l H:=Ao (Ad h)
def rle:List (Nat×List Ent)→List (List Ent)
 | []=>[]
 | p::r=>List.replicate p.1 p.2++rle r
theorem Ed {a:Act}{Z:Fz}{j d:Nat}{b:Bool}(ha:Dg n l a Z)(hj:Ea ops j=some d)(hv:look l d=some (rB b)):yielded ops a.tmps j=some b:=by
 unfold Ea at hj;obtain⟨v,h1,h2⟩:=ha.tm d _ hv;rw[show v = .bool b from h2] at h1;simp[yielded,hj,h1]
theorem Hu {a:Act}{Z:Fz}{j d:Nat}(ha:Dg n l a Z)(hj:Ea ops j=some d)(hv:look l d=some (rv undef)):yielded ops a.tmps j=none:=by
 unfold Ea at hj;obtain⟨v,h1,h2⟩:=ha.tm d _ hv;rw[show v=undef from h2] at h1;simp[yielded,hj,h1,undef]
theorem AL {d:Option Nat}{op:Op}{ty:TypeId}{pos:String}{af:Array Edge}{j dj:Nat}{want b:Bool}(hj:Ea ops j=some dj)(hv:look l dj=some (rB b))(hb:b=want)
  (h:WL P n c ops Q ({ dst:=d,op:=op,type:=ty,pos:=pos,after:=af,guard:=none }::rest) l H) :
  WL P n c ops Q ({ dst:=d,op:=op,type:=ty,pos:=pos,after:=af,guard:=some (j,want) }::rest) l H:=λa w Z ha hw=>by
 have h1:=h a w Z ha hw;have hy:=Ed ha hj hv;subst hb;simp only[wpList,Region.wanted,hy,beq_self_eq_true,Afn] at h1 ⊢;exact h1
theorem A2 {d:Nat}{op:Op}{ty:TypeId}{pos:String}{af:Array Edge}{j dj:Nat}{want b:Bool}(hj:Ea ops j=some dj)(hv:look l dj=some (rB b))(hb:b = !want)(hn:Nat.blt d n=true)
  (h:WL P n c ops Q rest ((d,rv undef)::l) H) :
  WL P n c ops Q ({ dst:=some d,op:=op,type:=ty,pos:=pos,after:=af,guard:=some (j,want) }::rest) l H:=λa w Z ha hw=>by
 have hy:=Ed ha hj hv;subst hb;refine wpList_skip ?_ (h _ w Z (ha.put hn rfl) hw);simp[Region.wanted,hy]
theorem BY {d:Nat}{op:Op}{ty:TypeId}{pos:String}{af:Array Edge}{j dj:Nat}{want:Bool}(hj:Ea ops j=some dj)(hv:look l dj=some (rv undef))(hn:Nat.blt d n=true)
  (h:WL P n c ops Q rest ((d,rv undef)::l) H) :
  WL P n c ops Q ({ dst:=some d,op:=op,type:=ty,pos:=pos,after:=af,guard:=some (j,want) }::rest) l H:=λa w Z ha hw=>by
 have hy:=Hu ha hj hv;refine wpList_skip ?_ (h _ w Z (ha.put hn rfl) hw);simp[Region.wanted,hy]
theorem As {d:Nat}{op:Op}{ty:TypeId}{pos:String}{af:Array Edge}{r:Rp}(hr:B4 P n c l H { dst:=some d,op:=op,type:=ty,pos:=pos,after:=af,guard:=none } r)
  (hn:Nat.blt d n=true) (h:WL P n c ops Q rest ((d,r)::l) H):WL P n c ops Q ({ dst:=some d,op:=op,type:=ty,pos:=pos,after:=af,guard:=none }::rest) l H:=λa w Z ha hw=>
 wpList_plain rfl λK hK=>by
  obtain⟨v,hv,he⟩:=hr a w Z ha hw;unfold Oper.wp;rw[he];exact hK _ _ (h _ w Z (ha.put hn hv) hw)
theorem J2 {d:Nat}{op:Op}{ty:TypeId}{pos:String}{af:Array Edge}
  (hr:∀a w Z,Dg n l a Z→St c H Z w→∃v w' r H' Z',(execOp a.eval { dst:=some d,op:=op,type:=ty,pos:=pos,after:=af,guard:=none }).run P w = .ok (.value v) w'∧Fz.le Z Z'∧r.p Z' v∧St c H' Z' w'∧WL P n c ops Q rest ((d,r)::l) H')
  (hn:Nat.blt d n=true):WL P n c ops Q ({ dst:=some d,op:=op,type:=ty,pos:=pos,after:=af,guard:=none }::rest) l H:=λa w Z ha hw=>
 wpList_plain rfl λK hK=>by
  obtain⟨v,w',r,H',Z',h1,hz,hv,h2,h3⟩:=hr a w Z ha hw;unfold Oper.wp;rw[h1];exact hK _ _ (h3 _ w' Z' ((ha.mono hz).put hn hv) h2)
theorem SV {op:Op}{ty:TypeId}{pos:String}{af:Array Edge}
  (hr:∀a w Z,Dg n l a Z→St c H Z w→∃w' H',(execOp a.eval { dst:=none,op:=op,type:=ty,pos:=pos,after:=af,guard:=none }).run P w = .ok .skip w'∧St c H' Z w'∧WL P n c ops Q rest l H') :
  WL P n c ops Q ({ dst:=none,op:=op,type:=ty,pos:=pos,after:=af,guard:=none }::rest) l H:=λa w Z ha hw=>
 wpList_plain rfl λK hK=>by
  obtain⟨w',H',h1,h2,h3⟩:=hr a w Z ha hw;unfold Oper.wp;rw[h1];exact hK _ _ (h3 _ w' Z (ha.put_none _) h2)
theorem KO {d:Nat}{op:Op}{ty:TypeId}{pos:String}{af:Array Edge}{f:FuncId}{args:Act→Array Value}
  (hr:∀a w Z,Dg n l a Z→St c H Z w→(execOp a.eval { dst:=some d,op:=op,type:=ty,pos:=pos,after:=af,guard:=none }).run P w = .ok (.enter f (args a)) w∧
   Calls P f (args a) w (λe w'=>∃v r H' Z',e = .returned v∧Fz.le Z Z'∧r.p Z' v∧St c H' Z' w'∧WL P n c ops Q rest ((d,r)::l) H'))
  (hn:Nat.blt d n=true):WL P n c ops Q ({ dst:=some d,op:=op,type:=ty,pos:=pos,after:=af,guard:=none }::rest) l H:=λa w Z ha hw=>
 wpList_plain rfl λK hK=>by
  obtain⟨h0,hc⟩:=hr a w Z ha hw;unfold Oper.wp;rw[h0];refine hc.mono ?_;rintro e w' ⟨v,r,H',Z',rfl,hz,hv,h2,h3⟩;exact hK _ _ (h3 _ w' Z' ((ha.mono hz).put hn hv) h2)
def MT (l:Fr):List Operand→Option (List Rp)
 | []=>some []
 | x::r=>match ev l x,MT l r with
  | some v,some vs=>some (v::vs)
  | _,_=>none
theorem GS {a:Act}{Z:Fz}(ha:Dg n l a Z):∀{xs:List Operand} {rs:List Rp},MT l xs=some rs→Bw Z rs (xs.map a.eval)
 | [],rs,h=>by simp[MT] at h;subst h;trivial
 | x::r,rs,h=>by
  simp only[MT] at h
  split at h
  ·rename_i v vs' h1 h2
   simp at h;subst h;exact⟨ha.ev h1,GS ha h2⟩
  ·cases h
theorem E9 {f:FuncId}{args:List Operand}{ats:Array TypeId}{o:Oper}{a:Act}(ho:o.op = .call { callee:=.value (.func f),args:=args.toArray,argTypes:=ats })
  (hcall:∀(as1:Array Value) (w:World),(callFunc f as1).run P w = .ok (.enter f as1) w) (w:World):(execOp a.eval o).run P w = .ok (.enter f (args.map a.eval).toArray) w:=by
 simp[execOp,ho,resolve,Act.eval,Deferred.ofValue,invoke,hcall]
def I3:List Rp→List Rp→Prop
 | [],[]=>True
 | r::rs,q::qs=>HS r q∧I3 rs qs
 | _,_=>False
theorem I3.refl:∀rs:List Rp,I3 rs rs
 | []=>trivial
 | r::rs=>⟨HS.refl r,I3.refl rs⟩
theorem I3.all {Z:Fz}:∀{rs qs:List Rp} {vs:List Value},I3 rs qs→Bw Z rs vs→Bw Z qs vs
 | [],[],[],_,_=>trivial
 | r::rs,q::qs,v::vs,⟨h1,h2⟩,⟨h3,h4⟩=>⟨h1 Z v h3,h2.all h4⟩
theorem Fn.sub {E:Fz→Prop}{f:FuncId}{args args':List Rp}{Hin:List Ent}{Φ Φ':Rp→List Ent→Prop}(h:Fn P E f args' Hin Φ)(ha:I3 args args')(hΦ:∀r H,Φ r H→Φ' r H):Fn P E f args Hin Φ':=λw Z vs hv hs=>
 (h w Z vs (ha.all hv) hs).mono λe w' ⟨r,v,H,Z',he,hp,hr,ht⟩=>⟨r,v,H,Z',he,hΦ r H hp,hr,ht⟩
theorem Cf {d:Nat}{ty:TypeId}{pos:String}{af:Array Edge}{f:FuncId}{args:List Operand}{ats:Array TypeId}{rs:List Rp}{Hin Hr:List Ent}{Φ:Rp→List Ent→Prop}(hcall:∀(as1:Array Value) (w:World),(callFunc f as1).run P w = .ok (.enter f as1) w)(hv:MT l args=some rs)
  (hp:H.Perm (Hin++Hr)) (hc:Fn P c.E f rs Hin Φ) (hn:Nat.blt d n=true) (h:∀r Ho,Φ r Ho→WL P n c ops Q rest ((d,r)::l) (Ho++Hr)) :
  WL P n c ops Q ({ dst:=some d,op:=.call { callee:=.value (.func f),args:=args.toArray,argTypes:=ats },type:=ty,pos:=pos,after:=af,guard:=none }::rest) l H:=
 KO (args:=λa=>(args.map a.eval).toArray) (λa w Z ha hw=>⟨E9 rfl hcall w,by
  have hw2:=hw.perm hp;refine(hc w Z _ (GS ha hv) hw2.enter).mono ?_;rintro e w' ⟨r,v,Ho,Z',he,hΦ,hr,hs⟩;exact⟨v,r,Ho++Hr,Z',he,hs.le,hr,hw2.call hs,h r Ho hΦ⟩⟩) hn
theorem Ck {d:Nat}{ty:TypeId}{pos:String}{af:Array Edge}{f:FuncId}{args:List Operand}{ats:Array TypeId}{rs:List Rp}{r r':Rp}(hcall:∀(as1:Array Value) (w:World),(callFunc f as1).run P w = .ok (.enter f as1) w)(hv:MT l args=some rs)
  (hc:KL P c.E f rs r') (hr:r'=r) (hn:Nat.blt d n=true) (h:WL P n c ops Q rest ((d,r)::l) H) :
  WL P n c ops Q ({ dst:=some d,op:=.call { callee:=.value (.func f),args:=args.toArray,argTypes:=ats },type:=ty,pos:=pos,after:=af,guard:=none }::rest) l H:=
 Cf (Hin:=[]) (Hr:=H) hcall hv (Afd _) hc hn (by rintro _ _ ⟨rfl,rfl⟩;subst hr;exact h)
theorem Iq:∀{Z:Fz} (rs:List Rp) (vs:List Value) (k:Nat),Bw Z rs vs→∀i r,look ((rs.zipIdx k).map λp=>(p.2,p.1)) i=some r→k≤i∧∃v,vs[i-k]? =some v∧r.p Z v
 | _,[],[],k,_,i,r,h=>by simp[look] at h
 | Z,q::rs,v::vs,k,⟨h1,h2⟩,i,r,h=>by
  simp only[List.zipIdx_cons,AfA] at h;rw[Cw] at h
  split at h
  ·rename_i e;subst e;simp at h;subst h;exact⟨Afm _,v,by simp,h1⟩
  ·rename_i e
   obtain⟨h3,u,h4,h5⟩:=Iq rs vs (k+1) h2 i r h;refine⟨by omega,u,?_,h5⟩;rw[show i-k=(i-(k+1))+1 from by omega];simpa using h4
def Oa (rs:List Rp):Fr:=(rs.zipIdx 0).map λp=>(p.2,p.1)
theorem enter {E:Fz→Prop}{f:FuncId}{fn:Func}{x:Code}{args:List Rp}{Hin:List Ent}{Φ:Rp→List Ent→Prop}(hf:P.funcs[f]? =some fn)(hb:fn.body=some x)(hn:fn.ntmps=n)(hle:Nat.ble args.length n=true)
  (h:∀w Z,WC P n ⟨w,Z,Hin.flatMap Ent.foot,E,Hin.flatMap Ent.gk⟩ x (bodyPost P fn (Ym ⟨w,Z,Hin.flatMap Ent.foot,E,Hin.flatMap Ent.gk⟩ Φ)) (Oa args) Hin):Fn P E f args Hin Φ:=λw Z vs hv hs=>by
 have hle':args.length≤n:=by simpa using hle
 have hl:=hv.length;refine calls_of_wp hf hb (h w Z _ w Z ⟨?_,rfl,λi r hi=>?_⟩ hs)
 ·simp[hn];omega
 ·obtain⟨_,v,h1,h2⟩:=Iq args vs 0 hv i r hi;simp only[Nat.sub_zero] at h1;have hlt:i<vs.length:=(List.getElem?_eq_some_iff.1 h1).1;refine⟨v,?_,h2⟩;rw[Array.getElem?_append_left (by simpa using hlt)];simpa using h1
def Yi (P:Program)(n:Nat)(c:Cx)(l:Fr)(H:List Ent)(fn:Func)(r:Rp):Prop:=∀a w Z,Dg n l a Z→St c H Z w→∃v,r.p Z v∧(results fn a.tmps).run P w = .ok v w
theorem Aq {fn:Func}{Φ:Rp→List Ent→Prop}{r:Rp}(hr:Yi P n c l H fn r){H2:List Ent}(hp:H2.Sublist H)(h:Φ r H2):WK n c (bodyPost P fn (Ym c Φ) .ret) l H:=
 λa w Z ha hw=>by
  obtain⟨v,hv,he⟩:=hr a w Z ha hw;exact⟨ha.defers,v,he,r,v,H2,Z,rfl,h,hv,hw.sub hp⟩
theorem Ie {fn:Func}{Φ:Rp→List Ent→Prop}{r:Rp}(hr:Yi P n c l H fn r){H2:List Ent}(hp:H2.Sublist H)(h:Φ r H2):WK n c (bodyPost P fn (Ym c Φ) .normal) l H:=
 λa w Z ha hw=>by
  obtain⟨v,hv,he⟩:=hr a w Z ha hw;exact⟨ha.defers,v,he,r,v,H2,Z,rfl,h,hv,hw.sub hp⟩
theorem Aa2 {H2:List Ent}(hp:H.Perm H2)(h:WK n c K l H2):WK n c K l H:=λa w Z ha hw=>h a w Z ha (hw.perm hp)
def AaI (P:Program)(a:Act):ResultVar→Sem Value
 | .tmp t=>pure (a.tmps.getD t undef)
 | .cell b t=>do loadVar t (← asAddr (a.tmps.getD b undef))
def RV (P:Program)(n:Nat)(c:Cx)(l:Fr)(H:List Ent)(x:ResultVar)(r:Rp):Prop:=∀a w Z,Dg n l a Z→St c H Z w→∃v,r.p Z v∧(AaI P a x).run P w = .ok v w
theorem AD {i:Nat}{r:Rp}(h:look l i=some r):RV P n c l H (.tmp i) r:=λa w Z ha _=>by
 obtain⟨v,h1,h2⟩:=ha.tm i r h;exact⟨v,h2,by simp[AaI,Array.getD_eq_getD_getElem?,h1]⟩
theorem LH (fn:Func)(a:Act):results fn a.tmps=(do
  let vs ← fn.results.mapM (AaI P a)
  pure (if h:vs.size=1 then vs[0] else .tuple vs)):=by
 unfold results
 congr 1
theorem Xp {fn:Func}(hr:fn.results = #[]):Yi P n c l H fn (rv (.tuple #[])):=λa w Z ha _=>⟨_,rfl,by simp[results,hr]⟩
theorem B2 {fn:Func}{x:ResultVar}{r:Rp}(hr:fn.results = #[x])(h:RV P n c l H x r):Yi P n c l H fn r:=λa w Z ha hw=>by
 obtain⟨v,h1,h2⟩:=h a w Z ha hw;exact⟨v,h1,by simp[LH (P:=P),hr,h2]⟩
theorem HW {fn:Func}{x y:ResultVar}{r s:Rp}(hr:fn.results = #[x,y])(h:RV P n c l H x r)(h':RV P n c l H y s):Yi P n c l H fn (Dy [r,s]):=λa w Z ha hw=>by
 obtain⟨v,h1,h2⟩:=h a w Z ha hw;obtain⟨u,h3,h4⟩:=h' a w Z ha hw;exact⟨.tuple #[v,u],⟨[v,u],rfl,h1,h3,trivial⟩,by simp[LH (P:=P),hr,h2,h4]⟩
theorem U7 {fn:Func}{x y z:ResultVar}{r s t:Rp}(hr:fn.results = #[x,y,z])(h:RV P n c l H x r)(h':RV P n c l H y s)(h'':RV P n c l H z t):Yi P n c l H fn (Dy [r,s,t]):=λa w Z ha hw=>by
 obtain⟨v,h1,h2⟩:=h a w Z ha hw;obtain⟨u,h3,h4⟩:=h' a w Z ha hw;obtain⟨q,h5,h6⟩:=h'' a w Z ha hw;exact⟨.tuple #[v,u,q],⟨[v,u,q],rfl,h1,h3,h5,trivial⟩,by simp[LH (P:=P),hr,h2,h4,h6]⟩
theorem AbO {l':Fr}{H':List Ent}(hl:l=l')(hH:H=H')(h:WC P n c x Q l' H'):WC P n c x Q l H:=by subst hl;subst hH;exact h
theorem Adl {l':Fr}{H':List Ent}(hl:l=l')(hH:H=H')(h:WK n c K l' H'):WK n c K l H:=by subst hl;subst hH;exact h
theorem UI {H':List Ent}(hH:H=H')(h:WL P n c ops Q rest l H'):WL P n c ops Q rest l H:=by subst hH;exact h
theorem LF {H':List Ent}(hH:H=H')(h:WK n c K l H'):WK n c K l H:=by subst hH;exact h
theorem VQ {H2:List Ent}(hp:H.Perm H2)(h:WC P n c x Q l H2):WC P n c x Q l H:=λa w Z ha hw=>h a w Z ha (hw.perm hp)
def Mid (n:Nat)(c:Cx)(l:Fr)(H:List Ent):Act→World→Prop:=λa w=>∃Z,Dg n l a Z∧St c H Z w
theorem A5 (l1:Fr)(H1:List Ent)(h:WC P n c x (Exit.then (Mid n c l1 H1) Q) l H)(h2:WC P n c y Q l1 H1):WC P n c (x.seq y) Q l H:=λa w Z ha hw=>
 wp_seq (wp_mono (h a w Z ha hw) λe a w q=>by
  cases e with
  | normal=>obtain⟨Z,h3,h4⟩:=q;exact h2 a w Z h3 h4
  | _=>exact q)
theorem Bt {l1:Fr}{H1:List Ent}(hl:AH l1 l)(hH:H1.Sublist H):WK n c (Mid n c l1 H1) l H:=λ_ _ Z ha hw=>⟨Z,ha.sub hl,hw.sub hH⟩
def AbA (id:Nat)(K:Act→World→Prop)(Q:Exit→Act→World→Prop):Exit→Act→World→Prop
 | .exit i,a,w=>if i=id then K a w else Q (.exit i) a w
 | e,a,w=>Q e a w
theorem AY {id:Nat}(h:WK n c K l H):WK n c (AbA id K Q (.exit id)) l H:=λa w Z ha hw=>by
 show if id=id then _ else _
 rw[Af6 rfl];exact h a w Z ha hw
theorem Bg {id:Nat}(h:WK n c (Q .ret) l H):WK n c (AbA id K Q .ret) l H:=h
theorem Br {S V:Type}(id:Nat)(inv:S→Prop)(fr:S→Fr)(hp:S→List Ent)(μ:S→Nat)(s0:S)(h0:inv s0)(hl:AH (fr s0) l)(hH:(hp s0).Sublist H)(iv:V→Prop)(fv:V→Fr)(hv:V→List Ent)
  (round:∀s,inv s→WC P n c x (Exit.then (Ka n c (λs'=>inv s'∧μ s'<μ s) fr hp) (AbA id (Ka n c iv fv hv) Q)) (fr s) (hp s)) (hexit:∀v,iv v→WK n c (Q (.exit id)) (fv v) (hv v)):WC P n c (.loop x) Q l H:=λa w Z ha hw=>
 wp_mono (HK (Q:=AbA id (Ka n c iv fv hv) Q) inv fr hp μ s0 h0 hl hH round a w Z ha hw) λe a w q=>by
  cases e with
  | exit i=>
   by_cases hi:i=id
   ·subst hi;have q':if i=i then Ka n c iv fv hv a w else Q (.exit i) a w:=q
    rw[Af6 rfl] at q';obtain⟨v,Z,h1,h2,h3⟩:=q';exact hexit v h1 a w Z h2 h3
   ·have q':if i=id then Ka n c iv fv hv a w else Q (.exit i) a w:=q
    rw[Afz hi] at q';exact q'
  | _=>exact q
theorem Yz {lb:Nat}(h:WK n c (Q .normal) l H):WC P n c (.label lb) Q l H:=λa w Z ha hw=>wp_label (h a w Z ha hw)
theorem Yx (h:WC P n c x (Exit.noGoto Q) l H):WC P n c (.scope x) Q l H:=λa w Z ha hw=>wp_scope_straight (h a w Z ha hw)
theorem Ma (h:WK n c (Q .ret) l H):WK n c (Exit.noGoto Q .ret) l H:=h
end
theorem KL.of_old {P:Program}{E:Fz→Prop}{f:FuncId}{vs:List Value}{v:Value}(h:∀w Z,WT Z w→E Z→Calls P f vs.toArray w (I5 w v)):KL P E f (vs.map rv) (rv v):=λw Z us hu hs=>by
 rw[Bw.eq_rv hu];refine(h w Z hs.frz hs.env).mono λe w' ⟨he,ht⟩=>⟨rv v,v,[],Z,he,⟨rfl,rfl⟩,rfl,⟨ht.os,ht.tape,ht.output,ht.size,ht.old,by simp,by simp,by simp,⟨λb o hb=>?_,λk i b hb=>Nat.lt_of_lt_of_le (hs.frz.nm k i b hb) ht.size⟩,Fz.le.refl _,λ_ _ e=>.inl e,by simp,hs.env,hs.emono,MY.none rfl⟩⟩
 rw[ht.old b (hs.frz.lt hb) (by simp)];exact hs.frz b o hb
end Go.Proofs.YtmjlemhondjfhaaGreatDoor.Q
namespace Go.Proofs.YtmjlemhondjfhaaGreatDoor
def Cb (c:Int):Bool:=decide (97≤c)&&decide (c≤122)
def CC (c:Int):Bool:=decide (48≤c)&&decide (c≤57)
def CY (c:Int):Bool:=Cb c||CC c||(decide (65≤c)&&decide (c≤90))||decide (c=45)||decide (c=95)||decide (c=46)||decide (c=58)||decide (c=47)
def Ig (n:Int):Bool:=decide (-1000000000000≤n)&&decide (n≤1000000000000)
def BK (p:List UInt8)(i:Int):Int:=((p[i.toNat]?).getD 0).toNat
theorem JQ {p:List UInt8}{k:Nat}{u:UInt8}(h:p[k]? =some u):BK p (k:Int)=u.toNat:=by simp[BK,h]
def Bh (f:Nat→UInt8→Bool):Nat→List UInt8→Bool
 | _,[]=>true
 | i,u::r=>f i u&&Bh f (i+1) r
def DI (i:Nat)(u:UInt8):Bool:=Cb u.toNat||(!decide (i=0)&&(CC u.toNat||decide ((u.toNat:Int)=45)||decide ((u.toNat:Int)=95)))
def Jr (_:Nat)(u:UInt8):Bool:=CY u.toNat
def Cv (p:List UInt8):Bool:=Bh DI 0 p&&decide (1≤p.length)&&decide (p.length≤24)
def Jq (p:List UInt8):Bool:=Bh Jr 0 p&&decide (1≤p.length)&&decide (p.length≤64)
theorem Hp {p:List UInt8}{k:Nat}{u:UInt8}(h:p[k]? =some u):p.drop k=u::p.drop (k+1):=by
 obtain⟨h1,h2⟩:=List.getElem?_eq_some_iff.1 h;rw[List.drop_eq_getElem_cons h1,h2]
theorem UX {f:Nat→UInt8→Bool}{p:List UInt8}{k:Nat}{u:UInt8}(hi:k≤p.length∧Bh f 0 p=Bh f k (p.drop k))(h:p[k]? =some u)(ht:f k u=false):Bh f 0 p=false:=by
 rw[hi.2,Hp h];simp[Bh,ht]
theorem Pj {f:Nat→UInt8→Bool}{p:List UInt8}{k:Nat}{u:UInt8}(hi:k≤p.length∧Bh f 0 p=Bh f k (p.drop k))(h:p[k]? =some u)(ht:f k u=true) :
  (k+1≤p.length∧Bh f 0 p=Bh f (k+1) (p.drop (k+1)))∧p.length-(k+1)<p.length-k:=by
 have hk:k<p.length:=(List.getElem?_eq_some_iff.1 h).1;refine⟨⟨hk,?_⟩,by omega⟩;rw[hi.2,Hp h];simp[Bh,ht]
theorem RA {f:Nat→UInt8→Bool}{p:List UInt8}{k:Nat}(hi:k≤p.length∧Bh f 0 p=Bh f k (p.drop k))(h:p.length≤k):Bh f 0 p=true:=by
 rw[hi.2,List.drop_of_length_le h];rfl
def P7 (k c:Nat):Bool:=!(Cb c)&&(decide ((k:Int)=0)||(!(CC c)&&(!(decide ((c:Int)=45))&&!(decide ((c:Int)=95)))))
theorem QT {k:Nat}{u:UInt8}{c wd:Nat}(hl:u.toNat<128→c=u.toNat∧wd=1)(hh:128≤u.toNat→128≤c):P7 k c = !DI k u:=by
 rcases Nat.lt_or_ge u.toNat 128 with h | h
 ·rw[(hl h).1];have e:decide ((k:Int)=0)=decide (k=0):=by simp
  simp only[P7,DI,e]
  cases Cb u.toNat<;>cases decide (k=0)<;>cases CC u.toNat<;>simp
 ·have h2:=hh h;have e:∀m:Nat,128≤m→P7 k m=true:=λm hm=>by
   simp[P7,Cb,CC];omega
  have e2:DI k u=false:=by simp[DI,Cb,CC];omega
  rw[e c h2,e2];rfl
theorem XB {p:List UInt8}{k:Nat}{u:UInt8}{c wd:Nat}(hi:k≤p.length∧Bh DI 0 p=Bh DI k (p.drop k))(h:p[k]? =some u)(hl:u.toNat<128→c=u.toNat∧wd=1)(hh:128≤u.toNat→128≤c)
  (ht:P7 k c=false):(k+wd≤p.length∧Bh DI 0 p=Bh DI (k+wd) (p.drop (k+wd)))∧p.length-(k+wd)<p.length-k:=by
 rcases Nat.lt_or_ge u.toNat 128 with hu | hu
 ·rw[(hl hu).2];rw[QT hl hh] at ht;exact Pj hi h (by simpa using ht)
 ·have h2:=hh hu;simp[P7,Cb,CC] at ht;omega
theorem Abd {p:List UInt8}{k:Nat}{u:UInt8}{c wd:Nat}(hi:k≤p.length∧Bh DI 0 p=Bh DI k (p.drop k))(h:p[k]? =some u)(hl:u.toNat<128→c=u.toNat∧wd=1)(hh:128≤u.toNat→128≤c)
  (ht:P7 k c=true):Cv p=false:=by
 rw[QT hl hh] at ht;simp[Cv,UX hi h (by simpa using ht)]
theorem Zs {p:List UInt8}{k:Nat}(hi:k≤p.length∧Bh DI 0 p=Bh DI k (p.drop k))(h:p.length≤k):Cv p=((decide ((1:Int)≤p.length))&&(decide ((p.length:Int)≤24))):=by
 simp[Cv,RA hi h];grind
theorem W0 {k:Nat}{u:UInt8}{c wd:Nat}(hl:u.toNat<128→c=u.toNat∧wd=1)(hh:128≤u.toNat→128≤c):CY c=Jr k u:=by
 rcases Nat.lt_or_ge u.toNat 128 with h | h
 ·rw[(hl h).1];rfl
 ·have h2:=hh h;have e:∀m:Nat,128≤m→CY m=false:=λm hm=>by
   simp[CY,Cb,CC];omega
  rw[e c h2];exact(e _ h).symm
theorem Abz {p:List UInt8}{k:Nat}{u:UInt8}{c wd:Nat}(hi:k≤p.length∧Bh Jr 0 p=Bh Jr k (p.drop k))(h:p[k]? =some u)(hl:u.toNat<128→c=u.toNat∧wd=1)(hh:128≤u.toNat→128≤c)
  (ht:(!CY c)=false):(k+wd≤p.length∧Bh Jr 0 p=Bh Jr (k+wd) (p.drop (k+wd)))∧p.length-(k+wd)<p.length-k:=by
 have ht':CY c=true:=by simpa using ht
 rcases Nat.lt_or_ge u.toNat 128 with hu | hu
 ·rw[(hl hu).2];rw[W0 (k:=k) hl hh] at ht';exact Pj hi h ht'
 ·have h2:=hh hu;simp[CY,Cb,CC] at ht';omega
theorem AdH {p:List UInt8}{k:Nat}{u:UInt8}{c wd:Nat}(hi:k≤p.length∧Bh Jr 0 p=Bh Jr k (p.drop k))(h:p[k]? =some u)(hl:u.toNat<128→c=u.toNat∧wd=1)(hh:128≤u.toNat→128≤c)
  (ht:(!CY c)=true):Jq p=false:=by
 rw[W0 (k:=k) hl hh] at ht;simp[Jq,UX hi h (by simpa using ht)]
theorem AcO {p:List UInt8}{k:Nat}(hi:k≤p.length∧Bh Jr 0 p=Bh Jr k (p.drop k))(h:p.length≤k):Jq p=((decide ((1:Int)≤p.length))&&(decide ((p.length:Int)≤64))):=by
 simp[Jq,RA hi h];grind
open Go
set_option linter.unusedVariables false
abbrev Ai:=List UInt8
def okS (s:Ai):Bool:=decide (s.length≤9223372036854775807)
def IL (s:Ai):Bool:=decide (s.length≤1048576)
def GJ (l:List UInt8):List Int:=l.map λc=>(c.toNat:Int)
def BG (k:IntKind)(x:Int):Bool:=decide (k.min≤x)&&decide (x≤k.max)
def Ch (i n:Int):Bool:=decide (0≤i)&&decide (i<n)
def IR (i n:Int):Bool:=decide (0≤i)&&decide (i≤n)
def Eh (b n:Nat):Bool:=decide (n*b≤140737488355328)
def imp (a b:Bool):Bool:=!a||b
def AX {α:Type}(p:Bool)(x:Option α):Option α:=bif p then x else none
def Bz {α:Type}(p:Bool)(x y:Option α):Option α:=bif p then x else y
def Ln {α β:Type}(a:α)(k:α→Option β):Option β:=k a
def Bv {α β:Type}(a:Option α)(k:α→Option β):Option β:=match a with
 | some x=>k x
 | none=>none
theorem IF {x:Int}(h:BG .i64 x=true) : -9223372036854775808≤x∧x≤9223372036854775807:=by simpa[BG,IntKind.min,IntKind.max,IntKind.signed,IntKind.bits] using h
theorem GP {x:Int}(h : -9223372036854775808≤x)(h':x≤9223372036854775807):BG .i64 x=true:=by simpa[BG,IntKind.min,IntKind.max,IntKind.signed,IntKind.bits] using And.intro h h'
theorem Ce {i n:Int}(h:Ch i n=true):0≤i∧i<n:=by simpa[Ch] using h
theorem Oj {i n:Int}(h:0≤i)(h':i<n):Ch i n=true:=by simp[Ch,h,h']
theorem E2 {i n:Int}(h:IR i n=true):0≤i∧i≤n:=by simpa[IR] using h
theorem Abx {i n:Int}(h:0≤i)(h':i≤n):IR i n=true:=by simp[IR,h,h']
def ov {α:Type}[Inhabited α](a:Option α):α:=a.getD default
section
variable {α β : Type} {p q : Bool} {x y : Option α} {r : α} {s : β}
theorem Ro (h:AX p x=some r):p=true∧x=some r:=by
 cases p
 ·cases h
 ·exact⟨rfl,h⟩
theorem AdI (hp:p=true)(h:Bz p x y=some r):x=some r:=by subst hp;exact h
theorem AdJ (hp:p=false)(h:Bz p x y=some r):y=some r:=by subst hp;exact h
theorem AdK {a:β}{k:β→Option α}(h:Ln a k=some r):∃b,b=a∧k b=some r:=⟨a,rfl,h⟩
theorem Ady {a:Option β}{k:β→Option α}(h:Bv a k=some r):∃b,a=some b∧k b=some r:=by
 cases a with
 | none=>cases h
 | some b=>exact⟨b,rfl,h⟩
theorem Cr [Inhabited β]{a:Option β}(h:a.isSome=true):a=some (ov a):=by
 cases a with
 | none=>cases h
 | some b=>rfl
theorem Au {a b:α}(h:some a=some b):a=b:=by cases h;rfl
theorem BF (h:imp p q=true)(hp:p=true):q=true:=by subst hp;simpa[imp] using h
theorem C3 (h:imp (!p) q=true)(hp:p=false):q=true:=by subst hp;simpa[imp] using h
theorem Db (h:p=true):AX p x=x:=by subst h;rfl
theorem Bl (h:p=true):Bz p x y=x:=by subst h;rfl
theorem Bd (h:p=false):Bz p x y=y:=by subst h;rfl
theorem Ct {a:Option β}{k:β→Option α}{b:β}(h:a=some b):Bv a k=k b:=by subst h;rfl
theorem AK {e:Int}(h : -9223372036854775808≤e)(h':e≤9223372036854775807):AX (BG .i64 e) x=x:=Db (GP h h')
theorem Bm {i n:Int}(h:0≤i)(h':i<n):AX (Ch i n) x=x:=Db (Oj h h')
theorem DD {i n:Int}(h:0≤i)(h':i≤n):AX (IR i n) x=x:=Db (Abx h h')
end
inductive Out (R V:Type) where
 | ret (r:R)
 | go (v:V)
 deriving DecidableEq
inductive Stp (S O:Type) where
 | next (s:S)
 | out (o:O)
 deriving DecidableEq
def BX {S O:Type}(body:S→Option (Stp S O)):Nat→S→Option O
 | 0,_=>none
 | n+1,s=>match body s with
  | none=>none
  | some (.next s')=>BX body n s'
  | some (.out o)=>some o
def BT {R V:Type}(K:V→Option R):Out R V→Option R
 | .ret r=>some r
 | .go v=>K v
def WP {S O:Type}(body:S→Option (Stp S O))(m:Nat)(o:O):Stp S O→Prop
 | .next s'=>BX body m s'=some o
 | .out o'=>o'=o
section
variable {S R V : Type} {body : S → Option (Stp S (Out R V))} {n m : Nat} {s s' : S} {o : Out R V} {t : Stp S (Out R V)} {K : V → Option R} {r q : R} {v : V}
theorem Cc {O:Type}{body:S→Option (Stp S O)}{o:O}(h:BX body n s=some o):∃m,n=m+1∧∃t,body s=some t∧WP body m o t:=by
 cases n with
 | zero=>cases h
 | succ m=>
  refine⟨m,rfl,?_⟩;rw[BX] at h
  cases hb:body s with
  | none=>rw[hb] at h;cases h
  | some t=>
   rw[hb] at h;refine⟨t,rfl,?_⟩
   cases t with
   | next s'=>exact h
   | out o'=>exact Au h
theorem Bi (h:some (Stp.next s')=some t)(ht:WP body m o t):BX body m s'=some o:=by cases h;exact ht
theorem BE (h:some (Stp.out (Out.go v))=some t)(ht:WP body m o t)(hK:BT K o=some r):K v=some r:=by
 cases h
 have e:Out.go v=o:=ht;subst e;exact hK
theorem BC (h:some (Stp.out (Out.ret q))=some t)(ht:WP body m o t)(hK:BT K o=some r):some q=some r:=by
 cases h
 have e:Out.ret q=o:=ht;subst e;exact hK
theorem KZ {O:Type}{body:S→Option (Stp S O)}(I:S→Prop)(μ:S→Nat)(Qo:O→Prop)(step:∀s,I s→(∃s',body s=some (.next s')∧I s'∧μ s'<μ s)∨∃o,body s=some (.out o)∧Qo o) :
  ∀(n:Nat) (s:S),I s→μ s<n→∃o,BX body n s=some o∧Qo o
 | 0,s,_,h=>by omega
 | n+1,s,hi,h=>by
  rcases step s hi with⟨s',e,hi',hlt⟩ | ⟨o,e,ho⟩
  ·obtain⟨o,h1,h2⟩:=KZ I μ Qo step n s' hi' (by omega);exact⟨o,by rw[BX,e];exact h1,h2⟩
  ·exact⟨o,by rw[BX,e],ho⟩
theorem Zq {b:Bool}(h:b=true):(!b)=false:=by subst h;rfl
end
def Ax {α:Type}[Inhabited α](xs:List α)(i:Int):α:=(xs[i.toNat]?).getD default
theorem D6 {α:Type}{j:Int}{xs ys:List α}{k:Nat}{y:α}(h:Ch j (xs.length:Int)=true)(e:ys=xs.set k y):Ch j (ys.length:Int)=true:=by rw[e,List.length_set];exact h
abbrev DX (a b:List UInt8):Bool:=Op.bytesLess a b
end Go.Proofs.YtmjlemhondjfhaaGreatDoor
namespace Go.Proofs.YtmjlemhondjfhaaGreatDoor.Q
open Go Go.RowKit
set_option linter.unusedVariables false
set_option linter.unusedSimpArgs false
theorem KM:∀{k:IntKind} {x:Int},BG k x=true→k.wrap x=x
 | .i8,x,h=>IntWalk.i8_in x (by simpa[BG,IntKind.min,IntKind.max,IntKind.signed,IntKind.bits] using h)
 | .i16,x,h=>IntWalk.i16_in x (by simpa[BG,IntKind.min,IntKind.max,IntKind.signed,IntKind.bits] using h)
 | .i32,x,h=>IntWalk.i32_in x (by simpa[BG,IntKind.min,IntKind.max,IntKind.signed,IntKind.bits] using h)
 | .i64,x,h=>IntWalk.i64_in x (by simpa[BG,IntKind.min,IntKind.max,IntKind.signed,IntKind.bits] using h)
 | .u8,x,h=>IntWalk.u8_in x (by simpa[BG,IntKind.min,IntKind.max,IntKind.signed,IntKind.bits] using h)
 | .u16,x,h=>IntWalk.u16_in x (by simpa[BG,IntKind.min,IntKind.max,IntKind.signed,IntKind.bits] using h)
 | .u32,x,h=>IntWalk.u32_in x (by simpa[BG,IntKind.min,IntKind.max,IntKind.signed,IntKind.bits] using h)
 | .u64,x,h=>IntWalk.u64_in x (by simpa[BG,IntKind.min,IntKind.max,IntKind.signed,IntKind.bits] using h)
theorem Ds {P:Program}{Z:Fz}{v:Value}{f:Sem Next}{w:World}(h:f.run P w = .ok (.value v) w):∃u,(rv v).p Z u∧f.run P w = .ok (.value u) w:=⟨v,rfl,h⟩
section
variable {P : Program} {n : Nat} {c : Cx} {l : Fr} {H : List Ent} {d : Option Nat} {x y z3 : Operand} {ty t t' : TypeId} {pos : String} {af : Array Edge} {g : Option (Nat × Bool)} {v u : Value} {r : Rp}
theorem Am (h:ev l x=some r):B4 P n c l H { dst:=d,op:=.move x,type:=ty,pos:=pos,after:=af,guard:=g } r:=λa w Z ha _=>⟨a.eval x,ha.ev h,by simp[execOp]⟩
theorem A0 (h:ev l x=some r):B4 P n c l H { dst:=d,op:=.assign x,type:=ty,pos:=pos,after:=af,guard:=g } r:=λa w Z ha _=>⟨a.eval x,ha.ev h,by simp[execOp]⟩
theorem An {b:Bool}(hc:ev l z3=some (rB b))(hb:b=true)(h:ev l x=some r):B4 P n c l H { dst:=d,op:=.pick z3 x y,type:=ty,pos:=pos,after:=af,guard:=g } r:=λa w Z ha _=>⟨a.eval x,ha.ev h,by
 subst hb;simp[execOp,ha.eval hc,asBool]⟩
theorem Ay {b:Bool}(hc:ev l z3=some (rB b))(hb:b=false)(h:ev l y=some r):B4 P n c l H { dst:=d,op:=.pick z3 x y,type:=ty,pos:=pos,after:=af,guard:=g } r:=λa w Z ha _=>⟨a.eval y,ha.ev h,by
 subst hb;simp[execOp,ha.eval hc,asBool]⟩
theorem A7 {rs:List Rp}{i:Nat}(h:ev l x=some (Dy rs))(hi:rs[i]? =some r):B4 P n c l H { dst:=d,op:=.extract x i,type:=ty,pos:=pos,after:=af,guard:=g } r:=λa w Z ha _=>by
 obtain⟨us,hu,hus⟩:=ha.ev h;obtain⟨v,hv,hp⟩:=hus.at hi;exact⟨v,hp,by simp[execOp,hu,Instr.extract,hv]⟩
theorem BO {b:Bool}(h:ev l x=some (rB b)):B4 P n c l H { dst:=d,op:=.unOp .not t x,type:=ty,pos:=pos,after:=af,guard:=g } (rB (!b)):=λa w Z ha _=>Ds<|by
 simp[execOp,ha.eval h,Op.unary]
theorem AbW {k:IntKind}{m:Int}(h:ev l x=some (rI k m))(hz:BG k (-m)=true):B4 P n c l H { dst:=d,op:=.unOp .neg t x,type:=ty,pos:=pos,after:=af,guard:=g } (rI k (-m)):=λa w Z ha _=>Ds<|by
 simp[execOp,ha.eval h,Op.unary,Op.intArith,KM hz]
section
variable {k : IntKind} {p q : Int} (hx : ev l x = some (rI k p)) (hy : ev l y = some (rI k q))
include hx hy
theorem By (hz:BG k (p+q)=true):B4 P n c l H { dst:=d,op:=.binOp .add t x y t',type:=ty,pos:=pos,after:=af,guard:=g } (rv (.int k (p+q))):=λa w Z ha _=>Ds<|by
 simp[execOp,ha.eval hx,ha.eval hy,BB,binOp,Op.intArith,KM hz]
theorem Gi (hz:BG k (p-q)=true):B4 P n c l H { dst:=d,op:=.binOp .sub t x y t',type:=ty,pos:=pos,after:=af,guard:=g } (rv (.int k (p-q))):=λa w Z ha _=>Ds<|by
 simp[execOp,ha.eval hx,ha.eval hy,BB,binOp,Op.intArith,KM hz]
theorem Wm (hz:BG k (p*q)=true):B4 P n c l H { dst:=d,op:=.binOp .mul t x y t',type:=ty,pos:=pos,after:=af,guard:=g } (rv (.int k (p*q))):=λa w Z ha _=>Ds<|by
 simp[execOp,ha.eval hx,ha.eval hy,BB,binOp,Op.intArith,KM hz]
theorem Vj:B4 P n c l H { dst:=d,op:=.binOp .add t x y t',type:=ty,pos:=pos,after:=af,guard:=g } (rI k (k.wrap (p+q))):=λa w Z ha _=>Ds<|by
 simp[execOp,ha.eval hx,ha.eval hy,BB,binOp,Op.intArith]
theorem Zk:B4 P n c l H { dst:=d,op:=.binOp .sub t x y t',type:=ty,pos:=pos,after:=af,guard:=g } (rI k (k.wrap (p-q))):=λa w Z ha _=>Ds<|by
 simp[execOp,ha.eval hx,ha.eval hy,BB,binOp,Op.intArith]
theorem P0 (hq:q≠0)(hz:BG k (p.tdiv q)=true):B4 P n c l H { dst:=d,op:=.binOp .quo t x y t',type:=ty,pos:=pos,after:=af,guard:=g } (rI k (p.tdiv q)):=λa w Z ha _=>Ds<|by
 simp[execOp,ha.eval hx,ha.eval hy,BB,binOp,Op.intDiv,hq,KM hz]
theorem AbV (hq:q≠0):B4 P n c l H { dst:=d,op:=.binOp .rem t x y t',type:=ty,pos:=pos,after:=af,guard:=g } (rI k (p.tmod q)):=λa w Z ha _=>Ds<|by
 simp[execOp,ha.eval hx,ha.eval hy,BB,binOp,Op.intDiv,hq]
theorem Ci:B4 P n c l H { dst:=d,op:=.binOp .lss t x y t',type:=ty,pos:=pos,after:=af,guard:=g } (rv (.bool (decide (p<q)))):=λa w Z ha _=>Ds<|by
 simp[execOp,ha.eval hx,ha.eval hy,BB,binOp,Op.intCmp]
theorem Hf:B4 P n c l H { dst:=d,op:=.binOp .leq t x y t',type:=ty,pos:=pos,after:=af,guard:=g } (rv (.bool (decide (p≤q)))):=λa w Z ha _=>Ds<|by
 simp[execOp,ha.eval hx,ha.eval hy,BB,binOp,Op.intCmp]
theorem Dc:B4 P n c l H { dst:=d,op:=.binOp .gtr t x y t',type:=ty,pos:=pos,after:=af,guard:=g } (rv (.bool (decide (q<p)))):=λa w Z ha _=>Ds<|by
 simp[execOp,ha.eval hx,ha.eval hy,BB,binOp,Op.intCmp]
theorem DP:B4 P n c l H { dst:=d,op:=.binOp .geq t x y t',type:=ty,pos:=pos,after:=af,guard:=g } (rv (.bool (decide (q≤p)))):=λa w Z ha _=>Ds<|by
 simp[execOp,ha.eval hx,ha.eval hy,BB,binOp,Op.intCmp]
theorem B7:B4 P n c l H { dst:=d,op:=.binOp .eql t x y t',type:=ty,pos:=pos,after:=af,guard:=g } (rv (.bool (decide (p=q)))):=λa w Z ha _=>Ds<|by
 have e:(p ==q)=decide (p=q):=by rw[Afs];simp
 simp[execOp,ha.eval hx,ha.eval hy,BB,binOp,Op.intCmp,e]
theorem CH:B4 P n c l H { dst:=d,op:=.binOp .neq t x y t',type:=ty,pos:=pos,after:=af,guard:=g } (rv (.bool (!decide (p=q)))):=λa w Z ha _=>Ds<|by
 have e:(p !=q) = !decide (p=q):=by rw[Afs];simp
 simp[execOp,ha.eval hx,ha.eval hy,BB,binOp,Op.intCmp,e]
end
section
variable {p q : List UInt8} (hx : ev l x = some (rS p)) (hy : ev l y = some (rS q))
include hx hy
theorem C2 (hz:BG .i64 ((p.length:Int)+(q.length:Int))=true):B4 P n c l H { dst:=d,op:=.binOp .add t x y t',type:=ty,pos:=pos,after:=af,guard:=g } (rv (.string (B (p++q)))):=λa w Z ha _=>Ds<|by
 have : ¬ ((((B p).size+(B q).size:Nat):Int) > IntKind.i64.max):=by rw[DK,DK];have:=(IF hz).2;simp[IntKind.max,IntKind.signed,IntKind.bits];omega
 simp only[execOp,ha.eval hx,ha.eval hy,Sem.run_bind,Ec,binOp,Op.stringOp,this,Afh,U5];simp
theorem QQ:B4 P n c l H { dst:=d,op:=.binOp .leq t x y t',type:=ty,pos:=pos,after:=af,guard:=g } (rv (.bool (Op.bytesLess p q||decide (p=q)))):=λa w Z ha _=>Ds<|by
 have e:(p ==q)=decide (p=q):=by rw[Afs];simp
 simp[execOp,ha.eval hx,ha.eval hy,Ec,binOp,Op.stringOp,GT,e]
theorem BQ:B4 P n c l H { dst:=d,op:=.binOp .eql t x y t',type:=ty,pos:=pos,after:=af,guard:=g } (rv (.bool (decide (p=q)))):=λa w Z ha _=>Ds<|by
 have e:(p ==q)=decide (p=q):=by rw[Afs];simp
 simp[execOp,ha.eval hx,ha.eval hy,Ec,binOp,Op.stringOp,GT,e]
theorem M4:B4 P n c l H { dst:=d,op:=.binOp .neq t x y t',type:=ty,pos:=pos,after:=af,guard:=g } (rv (.bool (!decide (p=q)))):=λa w Z ha _=>Ds<|by
 have e:(p ==q)=decide (p=q):=by rw[Afs];simp
 simp[execOp,ha.eval hx,ha.eval hy,Ec,binOp,Op.stringOp,GT,e]
end
theorem Zp {p q:Bool}(ht:P.underlying t=some .bool)(hx:ev l x=some (rB p))(hy:ev l y=some (rB q)):B4 P n c l H { dst:=d,op:=.binOp .eql t x y t',type:=ty,pos:=pos,after:=af,guard:=g } (rv (.bool (p ==q))):=λa w Z ha _=>Ds<|by
 have h1:∀dd:Nat,(Op.equalIn (dd+1) t (.bool p) (.bool q)).run P w = .ok (p ==q) w:=λdd=>by simp[Op.equalIn,run_underlying ht]
 have h2:(Op.equal t (.bool p) (.bool q)).run P w = .ok (p ==q) w:=h1 9999;simp only[execOp,ha.eval hx,ha.eval hy,Sem.run_bind,MU,Result.andThen_ok,binOp,h2,Sem.run_pure]
theorem P2 {k k':IntKind}{m:Int}(hs:∃s,P.underlying t=some s)(hd:P.underlying t'=some (.int k'))(h:ev l x=some (rI k m))(hz:BG k' m=true) :
  B4 P n c l H { dst:=d,op:=.convert t t' x,type:=ty,pos:=pos,after:=af,guard:=g } (rI k' m):=λa w Z ha _=>Ds<|by
 obtain⟨s,hs⟩:=hs;simp[execOp,ha.eval h,convert,run_underlying hs,run_underlying hd,Conv.intToInt,KM hz]
theorem B0 {p:List UInt8}(ht:P.underlying t=some .string)(h:ev l x=some (rS p)):B4 P n c l H { dst:=d,op:=.call { callee:=.builtin .len,args:=#[x],argTypes:=#[t] },type:=ty,pos:=pos,after:=af,guard:=g } (rv (.int .i64 p.length)):=λa w Z ha _=>Ds<|by
 simp[execOp,resolve,invoke,builtin,ha.eval h,Builtin.len_,run_underlying ht,goInt,DK]
theorem B3 {p:List UInt8}{k:IntKind}{i:Int}(ht:P.underlying t=some .string)(h:ev l x=some (rS p))(hi:ev l y=some (rI k i))(hg:Ch i (p.length:Int)=true) :
  B4 P n c l H { dst:=d,op:=.index t x y,type:=ty,pos:=pos,after:=af,guard:=g } (rI .u8 (BK p i)):=λa w Z ha _=>Ds<|by
 have h0:=(Ce hg).1;have hl:i.toNat<p.length:=by have:=(Ce hg).2;omega
 have hc:p[i.toNat]? =some p[i.toNat]:=AeN hl;have e:BK p i=p[i.toNat].toNat:=by simp[BK,hc]
 simp[execOp,ha.eval h,ha.eval hi,Instr.index,asIntOf,run_underlying ht,h0,Acf,hc,e]
theorem DG {p:List UInt8}{k:IntKind}{i:Int}(ht:P.underlying t=some .string)(h:ev l x=some (rS p))(hi:ev l y=some (rI k i))(hg:IR i (p.length:Int)=true) :
  B4 P n c l H { dst:=d,op:=.slice t x (some y) none none,type:=ty,pos:=pos,after:=af,guard:=g } (rv (.string (B (p.drop i.toNat)))):=λa w Z ha _=>Ds<|by
 have h0:=(E2 hg).1;have h1:=(E2 hg).2;have e:List.take ((B p).size-i.toNat) (List.drop i.toNat p)=List.drop i.toNat p:=by rw[List.take_of_length_le];simp[DK]
 simp[execOp,ha.eval h,ha.eval hi,Instr.sliceAt,Instr.slice,run_underlying ht,Instr.sliceBounds,BV (m:=(B p).size) _ _ h0 (by rw[DK];exact h1),Ic,e]
theorem EL {p:List UInt8}{k:IntKind}{i:Int}(ht:P.underlying t=some .string)(h:ev l x=some (rS p))(hi:ev l y=some (rI k i))(hg:IR i (p.length:Int)=true) :
  B4 P n c l H { dst:=d,op:=.slice t x none (some y) none,type:=ty,pos:=pos,after:=af,guard:=g } (rv (.string (B (p.take i.toNat)))):=λa w Z ha _=>Ds<|by
 have h0:=(E2 hg).1;have h1:=(E2 hg).2;simp[execOp,ha.eval h,ha.eval hi,Instr.sliceAt,Instr.slice,run_underlying ht,Instr.sliceBounds,BV (m:=(B p).size) _ _ h0 (by rw[DK];exact h1),Ic]
theorem JJ {p:List UInt8}{k k':IntKind}{i j:Int}(ht:P.underlying t=some .string)(h:ev l x=some (rS p))(hi:ev l y=some (rI k i))(hj:ev l z3=some (rI k' j))(hg1:IR i j=true)(hg2:IR j (p.length:Int)=true) :
  B4 P n c l H { dst:=d,op:=.slice t x (some y) (some z3) none,type:=ty,pos:=pos,after:=af,guard:=g } (rv (.string (B ((p.drop i.toNat).take (j.toNat-i.toNat))))):=λa w Z ha _=>Ds<|by
 have h0:=(E2 hg1).1;have h1:=(E2 hg1).2;have h2:=(E2 hg2).2;have hj0:0≤j:=by omega
 simp[execOp,ha.eval h,ha.eval hi,ha.eval hj,Instr.sliceAt,Instr.slice,run_underlying ht,Instr.sliceBounds,BV (m:=(B p).size) _ _ hj0 (by rw[DK];exact h2),BV (m:=j.toNat) _ _ h0 (by omega),Ic]
theorem AaZ {sz:Nat}{xs:List (List Rp)}{e:TypeId}(ht:P.underlying t=some (.slice e))(h:ev l x=some (AO sz xs)):B4 P n c l H { dst:=d,op:=.call { callee:=.builtin .len,args:=#[x],argTypes:=#[t] },type:=ty,pos:=pos,after:=af,guard:=g } (rI .i64 xs.length):=λa w Z ha _=>by
 obtain⟨A,cap,e1,_⟩:=ha.ev h;exact Ds<|by simp[execOp,resolve,invoke,builtin,e1,Builtin.len_,run_underlying ht,goInt]
end
end Go.Proofs.YtmjlemhondjfhaaGreatDoor.Q
namespace Go.Proofs.YtmjlemhondjfhaaGreatDoor
open Go Go.RowKit
set_option linter.unusedVariables false
theorem AbZ (p:List UInt8)(i:Nat)(u:UInt8)(h:p[i]? =some u):(B p).get! i=u:=by
 have h':i<p.length:=(List.getElem?_eq_some_iff.1 h).1;have h2:p[i]=u:=(List.getElem?_eq_some_iff.1 h).2;subst h2;show(B p).data[i]! =_;simp[B,getElem!_pos,h']
theorem Rk (p:List UInt8)(i:Nat)(u:UInt8)(h:p[i]? =some u)(hu:u.toNat<128):Utf8.decode (B p) i=(u.toNat,1):=by
 have e:=AbZ p i u h;simp[Utf8.decode,e,hu]
theorem Rl (p:List UInt8)(i:Nat)(u:UInt8)(h:p[i]? =some u)(hu:128≤u.toNat):128≤(Utf8.decode (B p) i).1∧1≤(Utf8.decode (B p) i).2:=by
 have e:=AbZ p i u h;simp only[Utf8.decode,Nat.add_zero,e];rw[Afz (by omega)]
 split
 ·split
  ·exact⟨by assumption,by simp⟩
  ·exact⟨by decide,by decide⟩
 ·split
  ·split
   ·rename_i h1;simp at h1;exact⟨by have:=h1.1;simp only;omega,by simp⟩
   ·exact⟨by decide,by decide⟩
  ·split
   ·split
    ·rename_i h1;simp at h1;exact⟨by have:=h1.1;simp only;omega,by simp⟩
    ·exact⟨by decide,by decide⟩
   ·exact⟨by decide,by decide⟩
section
variable {P : Program} {n : Nat} {w0 : World} {M : List Nat} {ops : Array Oper} {Q : Exit → Act → World → Prop} {rest : List Oper} {l : Fr} {H H' : List Ent} {d : Nat} {x y c : Operand} {ty t t' e : TypeId} {pos : String} {af : Array Edge} {g : Option (Nat × Bool)} {v u : Value}
theorem QA {p:List UInt8}(hu:P.underlying t=some .string)(hx:ev l x=some (.string (B p)))(hn:Nat.blt d n=true)
  (h:∀b,WL P n w0 M ops Q rest ((d,.pointer (some ⟨b,0,none⟩))::l) (.blk b (.stringIter (B p) 0)::H)) :
  WL P n w0 M ops Q ({ dst:=some d,op:=.range t x,type:=ty,pos:=pos,after:=af,guard:=none }::rest) l H:=
 J2 (λa w ha hw=>⟨_,w.alloc (.stringIter (B p) 0),_,by simp[execOp,ha.eval hx,Instr.range,run_underlying hu],hw.alloc _,h w.heap.size⟩) hn
theorem St.setObj {w:World}(h:St w0 M H w){i b:Nat}{o o':Obj}(hi:H[i]? =some (.blk b o)):St w0 M (H.set i (.blk b o')) { w with heap:=w.heap.setIfInBounds b o' }:=by
 have hb:w.heap[b]? =some o:=h.ent hi;have hlt:b<w.heap.size:=(Array.getElem?_eq_some_iff.1 hb).1;refine h.set hi rfl rfl rfl (by simp) (λk _ hk=>?_) ?_ (by simp[Ent.foot])
 ·simp only[Ent.foot,Afo] at hk;simp only[Array.getElem?_setIfInBounds];rw[Afz (λe=>hk e.symm)]
 ·show(w.heap.setIfInBounds b o')[b]? =some o';simp[hlt]
theorem SW {p:List UInt8}{i b k:Nat}(hx:ev l x=some (.pointer (some ⟨b,0,none⟩)))(hi:H[i]? =some (.blk b (.stringIter (B p) k)))(hn:Nat.blt d n=true)
  (hend:p.length≤k→WL P n w0 M ops Q rest ((d,.tuple #[.bool false])::l) H)
  (hgo:∀(u:UInt8) (c wd:Nat),p[k]? =some u→(u.toNat<128→c=u.toNat∧wd=1)→(128≤u.toNat→128≤c)→1≤wd→
   WL P n w0 M ops Q rest ((d,.tuple #[.bool true,.int .i64 k,.int .i32 c])::l) (H.set i (.blk b (.stringIter (B p) (k+wd))))) :
  WL P n w0 M ops Q ({ dst:=some d,op:=.next x true,type:=ty,pos:=pos,after:=af,guard:=none }::rest) l H:=
 J2 (λa w ha hw=>by
  have hb:w.heap[b]? =some (.stringIter (B p) k):=hw.ent hi
  by_cases hlt:k<p.length
  ·have hu:p[k]? =some p[k]:=AeN hlt;have hs:k<(B p).size:=by rw[DK];exact hlt
   refine⟨_,{ w with heap:=w.heap.setIfInBounds b (.stringIter (B p) (k+(Utf8.decode (B p) k).2)) },_,?_,hw.setObj hi,hgo p[k] (Utf8.decode (B p) k).1 (Utf8.decode (B p) k).2 hu ?_ ?_ ?_⟩
   ·simp[execOp,ha.eval hx,Instr.next,getObj,setObj,Sem.run,hb,hs,goInt]
   ·intro h;rw[Rk p k _ hu h];exact⟨rfl,rfl⟩
   ·intro h;exact(Rl p k _ hu h).1
   ·rcases Nat.lt_or_ge (p[k]).toNat 128 with h | h
    ·rw[Rk p k _ hu h];exact Afm 1
    ·exact(Rl p k _ hu h).2
  ·have hs : ¬ k<(B p).size:=by rw[DK];exact hlt
   exact⟨_,w,H,by simp[execOp,ha.eval hx,Instr.next,getObj,Sem.run,hb,hs],hw,hend (by omega)⟩) hn
end
section
variable {P : Program} {n : Nat} {w0 : World} {M : List Nat} {ops : Array Oper} {Q : Exit → Act → World → Prop} {rest : List Oper} {l : Fr} {H H' : List Ent} {x y c : Operand} {ty t t' e : TypeId} {pos : String} {af : Array Edge} {g : Option (Nat × Bool)} {v u : Value}
theorem B3 {d:Option Nat}{p:List UInt8}{k:IntKind}{i:Int}(ht:P.underlying t=some .string)(h:ev l x=some (.string (B p)))(hi:ev l y=some (.int k i))(h0:0≤i)(h1:i<p.length) :
  B4 P n w0 M l H { dst:=d,op:=.index t x y,type:=ty,pos:=pos,after:=af,guard:=g } (.int .u8 (BK p i)):=by
 have hl:i.toNat<p.length:=by omega
 have hc:p[i.toNat]? =some p[i.toNat]:=AeN hl;have e:BK p i=p[i.toNat].toNat:=by simp[BK,hc]
 rw[e];exact X9 ht h hi h0 hc
theorem Ad4 {d:Option Nat}{f:FuncId}{args:List Operand}{ats:Array TypeId}{vs:List Value}(hv:MT l args=some vs)(hcall:∀w,(callFunc f vs.toArray).run P w = .ok (.value v) w) :
  B4 P n w0 M l H { dst:=d,op:=.call { callee:=.value (.func f),args:=args.toArray,argTypes:=ats },type:=ty,pos:=pos,after:=af,guard:=g } v:=λa w ha hw=>by
 have e:(args.toArray.map a.eval)=vs.toArray:=by simp[MS ha hv]
 simp only[execOp,resolve,Sem.run_bind,Sem.run_pure,Result.andThen_ok,e,Act.eval,Deferred.ofValue,invoke];simpa using hcall w
theorem Qv {f : FuncId} {fn : Func} (hf : P.funcs[f]? = some fn) (hname : (fn.name == "runtime.NumGoroutine") = false) (hb : fn.body.isNone = true) (hn : Extern.findNext fn = none) (he : Extern.find fn = some Extern.BytealgIndexByte.indexByte)
  (p:List UInt8) (m:Int) (w:World):(callFunc f [.string (B p),.int .u8 m].toArray).run P w = .ok (.value (.int .i64 (Lib.indexByte p m.toNat.toUInt8))) w:=by
 rw[run_callFunc_extern hf hname hb hn he,Lib.run_indexByteString];rfl
theorem Aba {d:Option Nat}{ms:Array (String×TypeId)}{ti:TypeId}{u:Value}(ht:P.underlying t=some (.interface ms))(hx:ev l x=some (.iface ti u)) :
  B4 P n w0 M l H { dst:=d,op:=.binOp .neq t x (.const .nilIface) t',type:=ty,pos:=pos,after:=af,guard:=g } (.bool true):=λa w ha hw=>by
 have h1:∀dd:Nat,(Op.equalIn (dd+1) t (.iface ti u) .nilIface).run P w = .ok false w:=λdd=>by simp[Op.equalIn,run_underlying ht]
 have h2:(Op.equal t (.iface ti u) .nilIface).run P w = .ok false w:=h1 9999;have h3:(eqGuard .neq t x (.const .nilIface) (.iface ti u) .nilIface).run P w = .ok () w:=by simp[eqGuard]
 have hy:a.eval (.const .nilIface) = .nilIface:=rfl;simp only[execOp,ha.eval hx,hy,Sem.run_bind,h3,Result.andThen_ok,binOp,h2,Sem.run_pure];rfl
theorem T7 {d:Option Nat}{ms:Array (String×TypeId)}(ht:P.underlying t=some (.interface ms))(hx:ev l x=some .nilIface) :
  B4 P n w0 M l H { dst:=d,op:=.binOp .neq t x (.const .nilIface) t',type:=ty,pos:=pos,after:=af,guard:=g } (.bool false):=λa w ha hw=>by
 have h1:∀dd:Nat,(Op.equalIn (dd+1) t .nilIface .nilIface).run P w = .ok true w:=λdd=>by simp[Op.equalIn,run_underlying ht]
 have h2:(Op.equal t .nilIface .nilIface).run P w = .ok true w:=h1 9999;have h3:(eqGuard .neq t x (.const .nilIface) .nilIface .nilIface).run P w = .ok () w:=by simp[eqGuard]
 have hy:a.eval (.const .nilIface) = .nilIface:=rfl;simp only[execOp,ha.eval hx,hy,Sem.run_bind,h3,Result.andThen_ok,binOp,h2,Sem.run_pure];rfl
variable (P n w0 M) in
def WQ (opsA:Array Oper)(K:Act→World→Prop)(rest:List Oper)(l:Fr)(H:List Ent):Prop:=∀a,Dg n l a→wpQuiet P opsA (St w0 M H) (λa'=>∀w',St w0 M H w'→K a' w') rest a
variable {K : Act → World → Prop}
end
def Yf (sz:Nat)(w:World)(v:Value)(vs:List (List Value)):Prop:=
 ∃A cap,v = .slice A vs.length cap∧vs.length≤cap∧(cap≤maxLen∧(A=none→cap=0))∧∀i c,vs[i]? =some c→c.length=sz∧∃a:Addr,A=some a∧a.spot=none∧a.block<w.heap.size∧∀j u,c[j]? =some u→w.cell? ⟨a.block,a.off+(i*sz+j),none⟩=some u
def Off (M:List Nat)(v:Value):Prop:=∀a n c,v = .slice (some a) n c→a.block ∉ M
theorem Off.nil (v:Value):Off [] v:=λ_ _ _ _=>by simp
theorem Yf.nil (sz:Nat)(w:World):Yf sz w (.slice none 0 0) []:=⟨none,0,rfl,Afm _,⟨by simp[maxLen],λ_=>rfl⟩,λi c h=>by simp at h⟩
theorem Yf.st {sz:Nat}{w0 w:World}{M:List Nat}{H:List Ent}{v:Value}{vs:List (List Value)}(h:Yf sz w0 v vs)(ho:Off M v)(hw:St w0 M H w):Yf sz w v vs:=by
 obtain⟨A,cap,rfl,hc,hm,hi⟩:=h;refine⟨A,cap,rfl,hc,hm,λi c hic=>?_⟩;obtain⟨hl,a,rfl,hs,hb,hcell⟩:=hi i c hic;refine⟨hl,a,rfl,hs,Nat.lt_of_lt_of_le hb hw.size,λj u hj=>?_⟩;have h1:w.cell? ⟨a.block,a.off+(i*sz+j),none⟩=w0.cell? ⟨a.block,a.off+(i*sz+j),none⟩:=World.cell?_of_block (hw.old a.block hb (ho a _ _ rfl));rw[h1];exact hcell j u hj
theorem Yf.st0 {sz:Nat}{w0 w:World}{H:List Ent}{v:Value}{vs:List (List Value)}(h:Yf sz w0 v vs)(hw:St w0 [] H w):Yf sz w v vs:=h.st (Off.nil _) hw
def flat (vs:List (List Value)):List Value:=vs.flatten
theorem W8 {sz:Nat}:∀{vs:List (List Value)} (hs:∀c∈vs,c.length=sz) {i:Nat} {c:List Value} (hi:vs[i]? =some c) {j:Nat} {u:Value} (hj:c[j]? =some u),(flat vs)[i*sz+j]? =some u
 | [],hs,i,c,hi,j,u,hj=>by simp at hi
 | x::r,hs,0,c,hi,j,u,hj=>by
  simp at hi;subst hi;simp only[flat,List.flatten_cons,Nat.zero_mul,Afu];rw[Af5 (by have:=(List.getElem?_eq_some_iff.1 hj).1;exact this)];exact hj
 | x::r,hs,i+1,c,hi,j,u,hj=>by
  have hx:x.length=sz:=hs x (by simp);simp only[flat,List.flatten_cons];rw[List.getElem?_append_right (by rw[hx,Nat.succ_mul];omega)];have e:(i+1)*sz+j-x.length=i*sz+j:=by rw[hx,Nat.succ_mul];omega
  rw[e];exact W8 (vs:=r) (λc hc=>hs c (by simp[hc])) (by simpa using hi) hj
theorem Yf.of_row {sz:Nat}{w:World}{v:Value}{e:TypeId}{vs:List (List Value)}(h:(Ent.row v e sz vs.length (flat vs)).holds w)(hs:∀c∈vs,c.length=sz):Yf sz w v vs:=by
 obtain⟨hl,h2⟩:=h;rcases h2 with⟨rfl,hn⟩ | ⟨g,cap,cur,rfl,_,hg,hc,hm,hsz,htake⟩
 ·have:vs=[]:=Afp hn;subst this;exact Yf.nil _ _
 ·refine⟨some ⟨g,0,none⟩,cap,rfl,hc,⟨hm,λh=>by cases h⟩,λi c hi=>⟨hs c (Afc hi),⟨g,0,none⟩,rfl,rfl,(Array.getElem?_eq_some_iff.1 hg).1,λj u hj=>?_⟩⟩;have h3:=W8 hs hi hj;rw[← htake,Af0] at h3
  split at h3
  ·show w.cell? ⟨g,0+(i*sz+j),none⟩=_;rw[cell_of_row w g _ cur e (0,0) hg,Afu];simpa using h3
  ·cases h3
def Gl (sz:Nat)(v:Value)(i:Nat)(off:Nat):Value:=match v with
 | .slice (some a) _ _=>.pointer (some ⟨a.block,a.off+(i*sz+off),none⟩)
 | _=>undef
section
variable {P : Program} {n : Nat} {w0 : World} {M : List Nat} {ops : Array Oper} {Q : Exit → Act → World → Prop} {rest : List Oper} {l : Fr} {H H' : List Ent} {d : Option Nat} {x y c : Operand} {ty t t' e : TypeId} {pos : String} {af : Array Edge} {g : Option (Nat × Bool)} {v u : Value} {sz : Nat} {vs : List (List Value)}
theorem VS {d i:Nat}{en:Ent}{f:FuncId}{args:List Operand}{ats:Array TypeId}{vs:List Value}{Φ:Value→List Ent→Prop}(hcall:∀(as1:Array Value) (w:World),(callFunc f as1).run P w = .ok (.enter f as1) w)(hv:MT l args=some vs)
  (hi:H[i]? =some en) (hc:∀w,St w0 M H w→en.holds w→Calls P f vs.toArray w (Ym w en.foot Φ)) (hn:Nat.blt d n=true) (h:∀u Ho,Φ u Ho→WL P n w0 M ops Q rest ((d,u)::l) (Ho++H.eraseIdx i)) :
  WL P n w0 M ops Q ({ dst:=some d,op:=.call { callee:=.value (.func f),args:=args.toArray,argTypes:=ats },type:=ty,pos:=pos,after:=af,guard:=none }::rest) l H:=
 KO (λa w ha hw=>E9 (vs:=vs) rfl hcall (by simp[MS ha hv]) w) (λw hw=>(hc w hw (hw.ent hi)).mono λe w' ⟨v,Ho,he,hs,hf⟩=>
  ⟨v,Ho++H.eraseIdx i,he,(St.call (Hin:=[en]) (Hr:=H.eraseIdx i) (hw.front hi) hs (λk hk=>⟨en,by simp,hk⟩)),h v Ho hf⟩) hn
theorem Bc {d len:Nat}{parts:Array (Nat×Operand)}{cs:List Value}(ht:P.underlying t=some (.slice e))(hz:∀w,(sizeOf e).run P w = .ok sz w)
  (hrun:∀a w,Dg n l a→(Instr.buildSlice t len (parts.map λ(i,x)=>(i,a.eval x))).run P w = .ok (.slice (some ⟨w.heap.size,0,none⟩) len len) (w.alloc (.cells cs.toArray e))) (hl:cs.length=len*sz) (hm:len≤maxLen) (hn:Nat.blt d n=true)
  (h:∀b,WL P n w0 M ops Q rest ((d,.slice (some ⟨b,0,none⟩) len len)::l) (.row (.slice (some ⟨b,0,none⟩) len len) e sz len cs::H)) :
  WL P n w0 M ops Q ({ dst:=some d,op:=.buildSlice t len parts,type:=ty,pos:=pos,after:=af,guard:=none }::rest) l H:=
 J2 (λa w ha hw=>by
  have hw2:=hw.alloc (.cells cs.toArray e);refine⟨_,w.alloc (.cells cs.toArray e),.row (.slice (some ⟨w.heap.size,0,none⟩) len len) e sz len cs::H,by simp[execOp,hrun a w ha],?_,h w.heap.size⟩;refine⟨hw2.os,hw2.tape,hw2.output,hw2.size,hw2.old,?_,?_,?_⟩
  ·intro en he;rcases List.mem_cons.1 he with rfl | he
   ·refine⟨hl,.inr ⟨w.heap.size,len,cs.toArray,rfl,Afv _,heap_alloc_new w _,Afm _,hm,by simpa using hl,?_⟩⟩;rw[← hl];simp
   ·exact hw2.has en (by simp[he])
  ·intro en he k hk;rcases List.mem_cons.1 he with rfl | he
   ·exact hw2.own (.blk w.heap.size (.cells cs.toArray e)) (by simp) k (by simpa[Ent.foot,Value.ownBlock] using hk)
   ·exact hw2.own en (by simp[he]) k hk
  ·have hd:=List.pairwise_cons.1 hw2.dis;refine List.pairwise_cons.2 ⟨λen he k hk=>hd.1 en he k (by simpa[Ent.foot,Value.ownBlock] using hk),hd.2⟩) hn
end
def Td (s:List UInt8):List Value:=[.string (B s)]
abbrev PX (w:World)(v:Value)(ss:List (List UInt8)):Prop:=Yf 1 w v (ss.map Td)
set_option linter.unusedSimpArgs false
section
variable {P : Program} {n : Nat} {w0 : World} {M : List Nat} {ops : Array Oper} {Q : Exit → Act → World → Prop} {rest : List Oper} {l : Fr} {H H' : List Ent} {x y : Operand} {ty t t' e : TypeId} {pos : String} {af : Array Edge} {g : Option (Nat × Bool)} {v u : Value} {i sz m : Nat} {xs : List Value}
theorem HV {w:World}(h:(Ent.row v e sz m xs).holds w):xs.length=m*sz∧((v = .slice none 0 0∧m=0)∨∃b cap cur,v = .slice (some ⟨b,0,none⟩) m cap∧w.heap[b]? =some (.cells cur e (0,0))∧m≤cap∧cap≤maxLen∧cur.size=cap*sz∧cur.toList.take (m*sz)=xs):=by
 obtain⟨h1,h2⟩:=h;refine⟨h1,?_⟩;rcases h2 with h2 | ⟨b,cap,cur,e1,_,e2,e3,e4,e5,e6⟩
 ·exact .inl h2
 ·exact .inr ⟨b,cap,cur,e1,e2,e3,e4,e5,e6⟩
theorem Th {w:World}{b c j:Nat}(h:(Ent.row (.slice (some ⟨b,0,none⟩) m c) e sz m xs).holds w)(hj:xs[j]? =some u):w.cell? ⟨b,j,none⟩=some u:=by
 obtain⟨h1,h2⟩:=HV h;rcases h2 with⟨h2,_⟩ | ⟨b',cap,cur,e1,e2,_,_,_,e6⟩
 ·cases h2
 ·simp only[Value.slice.injEq,Option.some.injEq,Addr.mk.injEq,and_true,true_and] at e1;obtain⟨rfl,rfl⟩:=e1;rw[cell_of_row w b j cur e (0,0) e2];rw[← e6,Af0] at hj
  split at hj
  ·simpa using hj
  ·cases hj
theorem Wo {d:Option Nat}(ht:P.underlying t=some (.slice e))(h:ev l x=some v)(hi:H[i]? =some (.row v e sz m xs)):B4 P n w0 M l H { dst:=d,op:=.call { callee:=.builtin .len,args:=#[x],argTypes:=#[t] },type:=ty,pos:=pos,after:=af,guard:=g } (.int .i64 m):=λa w ha hw=>by
 obtain⟨_,h2⟩:=HV (hw.ent hi);rcases h2 with⟨rfl,rfl⟩ | ⟨b,cap,cur,rfl,_⟩
 ·exact T6 (n:=n) (w0:=w0) (M:=M) (H:=H) ht h a w ha hw
 ·exact T6 (n:=n) (w0:=w0) (M:=M) (H:=H) ht h a w ha hw
theorem EM {d:Option Nat}{k:IntKind}{j:Int}(ht:P.underlying t=some (.slice e))(hz:∀w,(sizeOf e).run P w = .ok sz w)(h:ev l x=some v)(hy:ev l y=some (.int k j))(hi:H[i]? =some (.row v e sz m xs))(h0:0≤j)(h1:j<m) :
  B4 P n w0 M l H { dst:=d,op:=.indexAddr t x y,type:=ty,pos:=pos,after:=af,guard:=g } (Gl sz v j.toNat 0):=λa w ha hw=>by
 obtain⟨_,h2⟩:=HV (hw.ent hi);rcases h2 with⟨rfl,rfl⟩ | ⟨b,cap,cur,rfl,_⟩
 ·omega
 ·simp[execOp,ha.eval h,ha.eval hy,Instr.indexAt,asIntOf,run_underlying ht,h0,h1,hz,Kg,Gl]
theorem Ip {d:Option Nat}{j off:Nat}(hag:∀w,(isAgg t).run P w = .ok false w)(hx:ev l x=some (Gl sz v j off))(hi:H[i]? =some (.row v e sz m xs))(hc:xs[j*sz+off]? =some u) :
  B4 P n w0 M l H { dst:=d,op:=.load t x,type:=ty,pos:=pos,after:=af,guard:=g } u:=λa w ha hw=>by
 have hr:=hw.ent hi;obtain⟨h1,h2⟩:=HV hr;rcases h2 with⟨rfl,rfl⟩ | ⟨b,cap,cur,rfl,_⟩
 ·have:xs=[]:=Afp (by simpa using h1);subst this;simp at hc
 ·have hcell:=Th hr hc;simp[execOp,ha.eval hx,Gl,Instr.loadAt,Instr.sureAddr,loadVar,hag,hcell]
theorem Ko {j off:Nat}(hsz:∀w,(sizeOf t).run P w = .ok 1 w)(hx:ev l x=some (Gl sz v j off))(hy:ev l y=some u)(hv:u.oneCell'=true)(hi:H[i]? =some (.row v e sz m xs))(hlt:j*sz+off<xs.length)
  (hH:H.set i (.row v e sz m (xs.set (j*sz+off) u))=H') (h:WL P n w0 M ops Q rest l H'):WL P n w0 M ops Q ({ dst:=none,op:=.store t x y,type:=ty,pos:=pos,after:=af,guard:=none }::rest) l H:=
 SV λa w ha hw=>by
  have hr:=hw.ent hi;obtain⟨h1,h2⟩:=HV hr;rcases h2 with⟨rfl,rfl⟩ | ⟨b,cap,cur,rfl,hb,hc,hm,hcs,htk⟩
  ·have:xs=[]:=Afp (by simpa using h1);subst this;simp at hlt
  ·have hlc:j*sz+off<cur.size:=by
    have:xs.length≤cur.toList.length:=by rw[← htk];simp;omega
    simp at this;omega
   have h3:=run_storeCells_at P b (j*sz+off) e [u] 0 cur w hb (by simp;omega) (by simpa using hv);have hcv:u.cells = #[u]:=by cases u<;>first | rfl | simp[Value.oneCell'] at hv
   have h4:(cur.toList.take (j*sz+off)++[u]++cur.toList.drop (j*sz+off+1)).toArray=cur.setIfInBounds (j*sz+off) u:=by
    apply Array.ext';simp[Array.toList_setIfInBounds,List.set_eq_take_append_cons_drop,hlc]
   simp only[Nat.add_zero,AeZ,Af7,Afu] at h3;rw[h4] at h3;refine⟨w.setRow b (cur.setIfInBounds (j*sz+off) u),H',?_,?_,h⟩
   ·simp[execOp,ha.eval hx,ha.eval hy,Gl,Instr.storeAt,Instr.sureAddr,storeVar,hsz,hcv,h3]
   ·subst hH;refine hw.set hi rfl rfl rfl (by simp[World.setRow]) (λk _ hk=>?_) ?_ (by simp[Ent.foot,Value.ownBlock])
    ·simp only[Ent.foot,Value.ownBlock,Option.mem_toList,Option.mem_def,Option.some.injEq] at hk;simp only[World.setRow,Array.getElem?_modify];rw[Afz hk]
    ·refine⟨by simpa using h1,.inr ⟨b,cap,cur.setIfInBounds (j*sz+off) u,rfl,Afv _,setRow_heap w b cur _ e (0,0) hb,hc,hm,by simpa using hcs,?_⟩⟩;rw[← htk,Array.toList_setIfInBounds,List.take_set]
def Rds (sz:Nat)(w:World)(v:Value)(m:Nat)(ys:List Value):Prop:=
 ys.length=m*sz∧((v = .slice none 0 0∧m=0)∨∃ (a:Addr) (c:Nat),v = .slice (some a) m c∧∀j u,ys[j]? =some u→w.cell? (a.add j)=some u)
theorem Rds.of_row {w:World}(h:(Ent.row v e sz m xs).holds w):Rds sz w v m xs:=by
 obtain⟨h1,h2⟩:=HV h;refine⟨h1,?_⟩;rcases h2 with⟨rfl,rfl⟩ | ⟨b,cap,cur,rfl,_⟩
 ·exact .inl ⟨rfl,rfl⟩
 ·refine .inr ⟨_,_,rfl,λj u hj=>?_⟩;rw[Kg,Afu];exact Th h hj
theorem IJ {w:World}{z:Value}{inf:TypeInfo}{bytes:Nat}{ys:List Value}{k:Nat}(ty:TypeId)(ht:P.underlying t=some (.slice e))(hinf:P.info? e=some inf)(hz:inf.zero=some z)(hsize:inf.size=sz)(hby:inf.bytes=bytes)(hzs:z.cells.size=sz)(hsz:0<sz)
  (hown:w.ownsRow 0 e sz v m xs) (hr:Rds sz w u k ys) (h1:∀y∈ys,y.oneCell'=true) (hb:(m+k)*bytes≤140737488355328) (ha:m+k≤maxLen) :
  ∃v' w',(Builtin.append_ #[t,t] ty #[v,u]).run P w = .ok v' w'∧w'.ownsRow 0 e sz v' (m+k) (xs++ys)∧w.grownBy w' v.ownBlock∧(v'.ownBlock=v.ownBlock∨∀b,v'.ownBlock=some b→w.heap.size≤b):=by
 obtain⟨hl,hr⟩:=hr;rcases hr with⟨rfl,rfl⟩ | ⟨a,c,rfl,hnews⟩
 ·have:ys=[]:=Afp (by simpa using hl);subst this;exact⟨v,w,run_append_owned_none (w:=w) (base:=0) t ty e inf sz ht hinf v m xs hown,by simpa using hown,⟨rfl,rfl,rfl,Afm _,λ_ _ _=>rfl⟩,.inl rfl⟩
 ·rcases hown.2 with⟨rfl,rfl⟩ | ⟨b,cap,cur,rfl,_,hg,hnc,hcm,hcs,htake⟩
  ·have hx:xs=[]:=Afp (by simpa using hown.1);subst hx;obtain⟨v',w',e1,e2,e3,_⟩:=run_append_own (P:=P) w w.heap.size t ty e inf z sz bytes ht hinf hz hsize hby hzs hsz (.slice none 0 0) 0 [] (World.ownsRow_nil w _ e sz) a k c ys hl hnews h1 ha hb (Afm _);refine⟨v',w',e1,?_,e3,.inr λb hb=>(e2.lt b hb).1⟩;refine⟨e2.1,?_⟩;rcases e2.2 with h | ⟨g,cap,cur,h,_,rest⟩
   ·exact .inl h
   ·exact .inr ⟨g,cap,cur,h,Afv _,rest⟩
  ·by_cases hroom:m+k≤cap
   ·obtain⟨w',e1,e2,e3⟩:=run_append_fits (P:=P) w 0 t ty e inf sz ht hinf hsize b m cap xs hown a k c ys hl hnews h1 hroom;exact⟨_,w',e1,e2,e3,.inl rfl⟩
   ·subst hsize hby;have holds:∀j u,xs[j]? =some u→w.cell? ((⟨b,0,none⟩:Addr).add j)=some u:=hown.cells (g:=b) rfl;have hs:m+k≤9223372036854775807:=by simp only[maxLen] at ha;omega
    have e1:=run_append_grow (P:=P) w t ty e inf z ht hinf hz ⟨b,0,none⟩ m cap xs hown.1 holds a k c ys hl hnews (by omega) (by omega) (growslice_fits (by omega) hb);have hge:=grownCap_ge w (m+k) cap e;have hcm:=grownCap_le_maxLen w (m+k) cap e ha;have hlen:(xs++ys).length=(m+k)*inf.size:=by rw[Afl,hown.1,hl,Nat.add_mul]
    refine⟨_,_,e1,⟨hlen,.inr ⟨w.heap.size,_,_,rfl,Afv _,heap_alloc_new w.drew _,hge,hcm,?_,?_⟩⟩,⟨rfl,rfl,rfl,by simp,λq hq _=>Below.heap_alloc w.drew _ q hq⟩,.inr λb hb=>?_⟩
    ·simp only[Array.size_append,List.size_toArray,size_zeroCells,hzs,hown.1,hl,← Nat.add_mul]
     congr 1
     omega
    ·simp only[Array.toList_append,Af2];rw[← Af2,← hlen];exact List.take_left
    ·simp[Value.ownBlock] at hb;omega
theorem Er {d:Nat}{z:Value}{inf:TypeInfo}{bytes:Nat}{ys:List Value}{k:Nat}(ht:P.underlying t=some (.slice e))(hinf:P.info? e=some inf)(hz:inf.zero=some z)(hsize:inf.size=sz)(hby:inf.bytes=bytes)(hzs:z.cells.size=sz)(hsz:0<sz)
  (hx:ev l x=some v) (hy:ev l y=some u) (hi:H[i]? =some (.row v e sz m xs)) (hr:∀w,St w0 M H w→Rds sz w u k ys) (h1:ys.all (·.oneCell')=true) (hb:(m+k)*bytes≤140737488355328) (hd:m+k≤maxLen) (hn:Nat.blt d n=true)
  (h:∀v',WL P n w0 M ops Q rest ((d,v')::l) (.row v' e sz (m+k) (xs++ys)::H.eraseIdx i)) :
  WL P n w0 M ops Q ({ dst:=some d,op:=.call { callee:=.builtin .append,args:=#[x,y],argTypes:=#[t,t] },type:=ty,pos:=pos,after:=af,guard:=none }::rest) l H:=λa w ha hw=>by
 have hent:=hw.ent hi;have hbase:(0:Nat)≤w.heap.size:=Afv _;have hin:St w0 M ([.row v e sz m xs]++H.eraseIdx i) w:=hw.front hi;have fin:∀v' w',w'.ownsRow 0 e sz v' (m+k) (xs++ys)→(v'.ownBlock=v.ownBlock∨∀b,v'.ownBlock=some b→w.heap.size≤b)→w.grownBy w' v.ownBlock→wpList P ops Q rest (a.put (some d) v') w':=λv' w' ho hbk hg=>by
  refine h v' _ w' (ha.put hn v') ?_;refine St.call (Hin:=[.row v e sz m xs]) (Hout:=[.row v' e sz (m+k) (xs++ys)]) (M2:=(Ent.row v e sz m xs).foot) hin ⟨hg.os,hg.tape,hg.output,hg.size,λq hq hne=>hg.block q hq (λe1=>hne ?_),?_,?_,by simp⟩ (λq hq=>⟨_,by simp,hq⟩)
  ·simp[Ent.foot,← e1]
  ·intro en he;simp only[Afo] at he;subst he;exact ho
  ·intro en he q hq;simp only[Afo] at he;subst he;simp only[Ent.foot,Option.mem_toList] at hq ⊢;rcases hbk with hbk | hbk
   ·exact .inr (hbk▸hq)
   ·exact .inl (hbk q hq)
 obtain⟨v',w',e1,e2,e3,e4⟩:=IJ (P:=P) ty ht hinf hz hsize hby hzs hsz hent (hr w hw) (λy hy=>List.all_eq_true.1 h1 y hy) hb hd;refine wpList_plain rfl λK hK=>?_;unfold Oper.wp;simp[execOp,resolve,invoke,builtin,ha.eval hx,ha.eval hy,e1,Result.andThen];exact hK _ _ (fin v' w' e2 e4 e3)
end
end Go.Proofs.YtmjlemhondjfhaaGreatDoor
namespace Go.Proofs.YtmjlemhondjfhaaGreatDoor.Q
open Go Go.RowKit
set_option linter.unusedVariables false
set_option linter.unusedSimpArgs false
def AtZ (cs:List Rp)(Z:Fz)(v:Value):Prop:=∃b o,v = .pointer (some ⟨b,o,none⟩)∧∀j r,cs[j]? =some r→∃u,IS Z b (o+j)=some u∧r.p Z u
def Xz (cs:List Rp):Rp:=⟨AtZ cs,λh ⟨b,o,e,hc⟩=>⟨b,o,e,λj r hj=>let ⟨u,hu,hr⟩:=hc j r hj;⟨u,OE h hu,r.mono h hr⟩⟩,true,λ_ Z v ⟨b,o,e,_⟩=>by rw[e];rfl⟩
def Q4 (H:List Ent)(r:Rp):Prop:=∀(c:Cx) Z w v,St c H Z w→r.p Z v→v.oneCell'=true
theorem BR {H:List Ent}{r:Rp}(h:r.one=true):Q4 H r:=λ_ Z _ v _ hp=>r.hone h Z v hp
theorem GN {H:List Ent}{i:Nat}{v:Value}{e:TypeId}{sz:Nat}{xs:List (List Rp)}(hi:H[i]? =some (.row v e sz xs)):Q4 H (rv v):=λc Z w u hw hp=>by
 obtain⟨_,us,⟨_,h2⟩,_⟩:=hw.ent hi;rw[show u=v from hp];rcases h2 with⟨rfl,_⟩ | ⟨b,cap,cur,rfl,_⟩<;>rfl
def B8 (H:List Ent):List Rp→Prop
 | []=>True
 | r::rs=>Q4 H r∧B8 H rs
theorem B8.c {H:List Ent}:∀{rs:List Rp},rs.all (·.one)=true→B8 H rs
 | [],_=>trivial
 | r::rs,h=>by simp only[List.all_cons,AeI] at h;exact⟨BR h.1,B8.c h.2⟩
theorem B8.at {H:List Ent}{c:Cx}{Z:Fz}{w:World}(hw:St c H Z w):∀{rs:List Rp} {vs:List Value},B8 H rs→Bw Z rs vs→∀v∈vs,v.oneCell'=true
 | [],[],_,_,_,h=>by simp at h
 | r::rs,v::vs,⟨h1,h2⟩,⟨h3,h4⟩,u,h=>by
  rcases List.mem_cons.1 h with rfl | h
  ·exact h1 c Z w _ hw h3
  ·exact h2.at hw h4 u h
section
variable {P : Program} {n : Nat} {c : Cx} {ops : Array Oper} {Q : Exit → Act → World → Prop} {rest : List Oper} {l : Fr} {H H' : List Ent} {d : Nat} {d' : Option Nat} {x y : Operand} {ty t t' e : TypeId} {pos : String} {af : Array Edge} {g : Option (Nat × Bool)} {v u : Value} {r : Rp} {sz : Nat}
theorem Bw.rvs (Z:Fz):∀us:List Value,Bw Z (us.map rv) us
 | []=>trivial
 | u::us=>⟨rfl,Bw.rvs Z us⟩
theorem BL {z:Value}{cs:List Rp}(hz:∀w,(zeroValue e).run P w = .ok z w)(hcs:z.cells.toList.map rv=cs)(hn:Nat.blt d n=true)
  (h:∀b,WL P n c ops Q rest ((d,rv (.pointer (some ⟨b,0,none⟩)))::l) (.blk b cs e::H)) :
  WL P n c ops Q ({ dst:=some d,op:=.alloc e,type:=ty,pos:=pos,after:=af,guard:=none }::rest) l H:=
 J2 (λa w Z ha hw=>⟨_,w.alloc (.cells z.cells e),_,_,Z,by simp[execOp,Instr.alloc,hz,newVar,newRow,newObj,Sem.run,Sem.run_bind],Fz.le.refl _,rfl,
  hw.alloc _ (e:=.blk w.heap.size cs e) ⟨z.cells.toList,by simpa using heap_alloc_new w _,by subst hcs;exact Bw.rvs Z _⟩ rfl,h w.heap.size⟩) hn
theorem BM {cs:List Rp}(hx:ev l x=some (B9 cs))(hn:Nat.blt d n=true)
  (h:∀b,WL P n c ops Q rest ((d,rv (.pointer (some ⟨b,0,none⟩)))::l) (.blk b cs e::H)) :
  WL P n c ops Q ({ dst:=some d,op:=.box e x,type:=ty,pos:=pos,after:=af,guard:=none }::rest) l H:=
 J2 (λa w Z ha hw=>by
  obtain⟨us,e1,hu⟩:=ha.ev hx;exact⟨_,w.alloc (.cells us.toArray e),_,_,Z,by simp[execOp,e1,Instr.box,newVar,newRow,newObj,Sem.run,Value.cells],Fz.le.refl _,rfl,
   hw.alloc _ (e:=.blk w.heap.size cs e) ⟨us,by simpa using heap_alloc_new w _,hu⟩ rfl,h w.heap.size⟩) hn
theorem B1 {v:Value}(h:v.oneCell'=true):v.cells = #[v]:=by cases v<;>first | rfl | simp[Value.oneCell'] at h
theorem OQ {r:Rp}(hx:ev l x=some r)(ho:Q4 H r)(hn:Nat.blt d n=true)
  (h:∀b,WL P n c ops Q rest ((d,rv (.pointer (some ⟨b,0,none⟩)))::l) (.blk b [r] e::H)) :
  WL P n c ops Q ({ dst:=some d,op:=.box e x,type:=ty,pos:=pos,after:=af,guard:=none }::rest) l H:=
 J2 (λa w Z ha hw=>by
  have hr:=ha.ev hx;have hc:=B1 (ho c Z w _ hw hr);exact⟨_,w.alloc (.cells #[a.eval x] e),_,_,Z,by simp[execOp,Instr.box,newVar,newRow,newObj,Sem.run,hc],Fz.le.refl _,rfl,
   hw.alloc _ (e:=.blk w.heap.size [r] e) ⟨[a.eval x],by simpa using heap_alloc_new w _,hr,trivial⟩ rfl,h w.heap.size⟩) hn
theorem AT {i b off:Nat}{cs:List Rp}(hag:∀w,(isAgg t).run P w = .ok false w)(hx:ev l x=some (rv (.pointer (some ⟨b,off,none⟩))))(hi:H[i]? =some (.blk b cs e))(hc:cs[off]? =some r) :
  B4 P n c l H { dst:=d',op:=.load t x,type:=ty,pos:=pos,after:=af,guard:=g } r:=λa w Z ha hw=>by
 obtain⟨us,h1,h2⟩:=hw.ent hi;obtain⟨u,hu,hp⟩:=h2.at hc;have hcell:w.cell? ⟨b,off,none⟩=some u:=by rw[cell_of_row w b off _ e (0,0) h1];simpa using hu
 exact⟨u,hp,by simp[execOp,ha.eval hx,Instr.loadAt,Instr.sureAddr,loadVar,hag,hcell]⟩
theorem Be {i b off:Nat}{cs r:List Rp}(hag:∀w,(isAgg t).run P w = .ok true w)(hsz:∀w,(sizeOf t).run P w = .ok sz w)
  (hx:ev l x=some (rv (.pointer (some ⟨b,off,none⟩)))) (hi:H[i]? =some (.blk b cs e)) (hr:(cs.drop off).take sz=r) (hl:r.length=sz) :
  B4 P n c l H { dst:=d',op:=.load t x,type:=ty,pos:=pos,after:=af,guard:=g } (B9 r):=λa w Z ha hw=>by
 obtain⟨us,h1,h2⟩:=hw.ent hi;have h3:=(h2.drop off).take sz;rw[hr] at h3;have hlen:=h3.length;have h4:=run_loadCells_list (P:=P) w ⟨b,off,none⟩ ((us.drop off).take sz) (λj u hj=>by
  rw[Kg,cell_of_row w b _ _ e (0,0) h1];rw[Af0] at hj
  split at hj
  ·simpa using hj
  ·cases hj)
 rw[hlen,hl] at h4;exact⟨.agg ((us.drop off).take sz).toArray,⟨_,rfl,h3⟩,by simp[execOp,ha.eval hx,Instr.loadAt,Instr.sureAddr,loadVar,hag,hsz,h4]⟩
theorem Bb {cs:List Rp}(hag:∀w,(isAgg t).run P w = .ok false w)(hx:ev l x=some (Xz cs))(hc:cs[0]? =some r) :
  B4 P n c l H { dst:=d',op:=.load t x,type:=ty,pos:=pos,after:=af,guard:=g } r:=λa w Z ha hw=>by
 obtain⟨b,o,e1,hcs⟩:=ha.ev hx;obtain⟨u,hu,hp⟩:=hcs 0 r hc;have hcell:=LD hw.frz hu;rw[Nat.add_zero] at hcell;exact⟨u,hp,by simp[execOp,e1,Instr.loadAt,Instr.sureAddr,loadVar,hag,hcell]⟩
theorem N9 {Z:Fz}:∀{cs:List Rp} {f:Nat→Option Value},(∀j r,cs[j]? =some r→∃u,f j=some u∧r.p Z u)→∃us:List Value,Bw Z cs us∧∀(j:Nat) u,us[j]? =some u→f j=some u
 | [],f,_=>⟨[],trivial,by simp⟩
 | r::rs,f,h=>by
  obtain⟨u,hu,hp⟩:=h 0 r rfl;obtain⟨us,h1,h2⟩:=N9 (cs:=rs) (f:=λj=>f (j+1)) (λj r' hj=>h (j+1) r' (by simpa using hj));refine⟨u::us,⟨hp,h1⟩,λj u' hj=>?_⟩
  cases j with
  | zero=>simp at hj;subst hj;exact hu
  | succ j=>exact h2 j u' (by simpa using hj)
theorem Cu {cs r:List Rp}(hag:∀w,(isAgg t).run P w = .ok true w)(hsz:∀w,(sizeOf t).run P w = .ok sz w)(hx:ev l x=some (Xz cs))(hr:cs.take sz=r)(hl:r.length=sz) :
  B4 P n c l H { dst:=d',op:=.load t x,type:=ty,pos:=pos,after:=af,guard:=g } (B9 r):=λa w Z ha hw=>by
 obtain⟨b,o,e1,hcs⟩:=ha.ev hx;obtain⟨us,h1,h2⟩:=N9 (cs:=r) (f:=λj=>IS Z b (o+j)) (λj q hj=>hcs j q (by
  subst hr;rw[Af0] at hj
  split at hj
  ·exact hj
  ·cases hj))
 have h4:=run_loadCells_list (P:=P) w ⟨b,o,none⟩ us (λj u hj=>by rw[Kg];exact LD hw.frz (h2 j u hj));rw[h1.length,hl] at h4;exact⟨.agg us.toArray,⟨_,rfl,h1⟩,by simp[execOp,e1,Instr.loadAt,Instr.sureAddr,loadVar,hag,hsz,h4]⟩
theorem R2 {i b off:Nat}{cs:List Rp}(hag:∀w,(sizeOf t).run P w = .ok 1 w)(hx:ev l x=some (rv (.pointer (some ⟨b,off,none⟩))))(hy:ev l y=some r)(hv:Q4 H r)
  (hi:H[i]? =some (.blk b cs e)) (hlt:Nat.blt off cs.length=true) {cs':List Rp} (hcs:cs.set off r=cs') (hH:H.set i (.blk b cs' e)=H')
  (h:WL P n c ops Q rest l H'):WL P n c ops Q ({ dst:=none,op:=.store t x y,type:=ty,pos:=pos,after:=af,guard:=none }::rest) l H:=
 SV λa w Z ha hw=>by
  obtain⟨us,hb,h2⟩:=hw.ent hi;have hr:=ha.ev hy;have hone:=hv c Z w _ hw hr;have hlen:=h2.length;have hlt':off<us.length:=by rw[hlen];simpa using hlt
  have h1:=run_storeCells_at P b off e [a.eval y] 0 us.toArray w hb (by simp;omega) (by simpa using hone);have hcv:=B1 hone;have h3:us.take off++[a.eval y]++us.drop (off+1)=us.set off (a.eval y):=by
   simp[List.set_eq_take_append_cons_drop,hlt']
  simp only[Nat.add_zero,AeZ,Af7,Afu] at h1;rw[h3] at h1;refine⟨w.setRow b (us.set off (a.eval y)).toArray,H',?_,?_,h⟩
  ·simp[execOp,ha.eval hx,Instr.storeAt,Instr.sureAddr,storeVar,hag,hcv,h1]
  ·subst hH;subst hcs;refine hw.set hi rfl rfl rfl (by simp[World.setRow]) (λk _ hk=>?_) ⟨us.set off (a.eval y),setRow_heap w b _ _ e (0,0) hb,h2.set off hr⟩ (by simp[Ent.foot]);simp only[Ent.foot,Afo] at hk;simp only[World.setRow,Array.getElem?_modify];rw[Afz (λe=>hk e.symm)]
theorem NK {i b off:Nat}{cs rs:List Rp}(hsz:∀w,(sizeOf t).run P w = .ok sz w)(hx:ev l x=some (rv (.pointer (some ⟨b,off,none⟩))))(hy:ev l y=some (B9 rs))
  (hl:rs.length=sz) (hv:B8 H rs) (hi:H[i]? =some (.blk b cs e)) (hlt:Nat.ble (off+sz) cs.length=true) {cs':List Rp}
  (hcs:cs.take off++rs++cs.drop (off+sz)=cs') (hH:H.set i (.blk b cs' e)=H')
  (h:WL P n c ops Q rest l H'):WL P n c ops Q ({ dst:=none,op:=.store t x y,type:=ty,pos:=pos,after:=af,guard:=none }::rest) l H:=
 SV λa w Z ha hw=>by
  obtain⟨us,hb,h2⟩:=hw.ent hi;obtain⟨vs,e1,h4⟩:=ha.ev hy;have hlen:=h2.length;have hvl:=h4.length;have hlt':off+sz≤us.length:=by rw[hlen];simpa using hlt
  have h1:=run_storeCells_at P b off e vs 0 us.toArray w hb (by simp;omega) (λv hv'=>hv.at hw h4 v hv');simp only[Nat.add_zero] at h1;refine⟨w.setRow b (us.take off++vs++us.drop (off+sz)).toArray,H',?_,?_,h⟩
  ·have h5:vs.length=sz:=by omega
   rw[h5] at h1;simp only[Af2] at h1 ⊢;simp[execOp,ha.eval hx,e1,Instr.storeAt,Instr.sureAddr,storeVar,hsz,Value.cells,h5,h1]
  ·subst hH;subst hcs;refine hw.set hi rfl rfl rfl (by simp[World.setRow]) (λk _ hk=>?_) ⟨us.take off++vs++us.drop (off+sz),setRow_heap w b _ _ e (0,0) hb,((h2.take off).append h4).append (h2.drop (off+sz))⟩ (by simp[Ent.foot]);simp only[Ent.foot,Afo] at hk;simp only[World.setRow,Array.getElem?_modify];rw[Afz (λe=>hk e.symm)]
theorem AS {p:Addr}(hx:ev l x=some (rv (.pointer (some p)))):B4 P n c l H { dst:=d',op:=.nilCheck x,type:=ty,pos:=pos,after:=af,guard:=g } (rv (.pointer (some p))):=λa w Z ha hw=>Ds<|by
 simp[execOp,ha.eval hx]
theorem Az {b off off' i:Nat}{fs:Array Field}{f:Field}(hu:P.underlying t=some (.struct fs))(hf:fs[i]? =some f)(hsz:∀w,(sizeOf f.type).run P w = .ok (sz+1) w)
  (hx:ev l x=some (rv (.pointer (some ⟨b,off,none⟩)))) (ho:off+f.offset=off'):B4 P n c l H { dst:=d',op:=.fieldAddr t x i,type:=ty,pos:=pos,after:=af,guard:=g } (rv (.pointer (some ⟨b,off',none⟩))):=λa w Z ha hw=>Ds<|by
 subst ho;simp[execOp,ha.eval hx,Instr.fieldAt,run_underlying hu,hf,Instr.sureAddr,fieldPlace,hsz,Kg]
theorem Bs {i:Nat}{cs cs':List Rp}{fs:Array Field}{f:Field}(hu:P.underlying t=some (.struct fs))(hf:fs[i]? =some f)(hsz:∀w,(sizeOf f.type).run P w = .ok (sz+1) w)
  (hx:ev l x=some (Xz cs)) (ho:cs.drop f.offset=cs'):B4 P n c l H { dst:=d',op:=.fieldAddr t x i,type:=ty,pos:=pos,after:=af,guard:=g } (Xz cs'):=λa w Z ha hw=>by
 subst ho;obtain⟨b,o,e1,hcs⟩:=ha.ev hx;refine⟨.pointer (some ⟨b,o+f.offset,none⟩),⟨b,o+f.offset,rfl,λj r hj=>?_⟩,by simp[execOp,e1,Instr.fieldAt,run_underlying hu,hf,Instr.sureAddr,fieldPlace,hsz,Kg]⟩;obtain⟨u,hu,hr⟩:=hcs (f.offset+j) r (by simpa using hj);exact⟨u,by rw[Nat.add_assoc];exact hu,hr⟩
theorem Bk {α:Type}[Inhabited α]{ys:List α}{enc:α→List Rp}{k:IntKind}{i:Int}(ht:P.underlying t=some (.slice e))(hz:∀w,(sizeOf e).run P w = .ok sz w)(h:ev l x=some (AO sz (ys.map enc)))(hi:ev l y=some (rI k i))(hg:Ch i (ys.length:Int)=true) :
  B4 P n c l H { dst:=d',op:=.indexAddr t x y,type:=ty,pos:=pos,after:=af,guard:=g } (Xz (enc (Ax ys i))):=λa w Z ha hw=>by
 obtain⟨A,cap,e1,_,_,_,hc⟩:=ha.ev h;have h0:=(Ce hg).1;have h1:i.toNat<ys.length:=by have:=(Ce hg).2;omega
 have hlt:i<(ys.length:Int):=(Ce hg).2;obtain⟨hl,ad,rfl,hs,hcs⟩:=hc i.toNat (enc ys[i.toNat]) (by simp[h1]);obtain⟨b,off,spot⟩:=ad;simp only at hs;subst hs;have eat:Ax ys i=ys[i.toNat]:=by simp[Ax,h1]
 refine⟨.pointer (some ⟨b,off+i.toNat*sz,none⟩),⟨b,off+i.toNat*sz,rfl,λj r hj=>?_⟩,?_⟩
 ·obtain⟨u,hu,hr⟩:=hcs j r (by rw[← eat];exact hj);exact⟨u,by rw[Nat.add_assoc];exact hu,hr⟩
 ·simp only[Afi] at e1;simp[execOp,e1,ha.eval hi,Instr.indexAt,asIntOf,run_underlying ht,h0,hlt,hz,Kg]
theorem WL.nilrow {e:TypeId}{sz:Nat}(h:WL P n c ops Q rest l (.row (.slice none 0 0) e sz []::H)):WL P n c ops Q rest l H:=λa w Z ha hw=>
 h a w Z ha (hw.add rfl rfl rfl (Afm _) (λ_ _=>rfl) ⟨by simp,[],⟨by simp,.inl ⟨rfl,rfl⟩⟩,trivial⟩ (by simp[Ent.foot,Value.ownBlock]))
theorem WC.nilrow {xx:Code}{e:TypeId}{sz:Nat}(h:WC P n c xx Q l (.row (.slice none 0 0) e sz []::H)):WC P n c xx Q l H:=λa w Z ha hw=>
 h a w Z ha (hw.add rfl rfl rfl (Afm _) (λ_ _=>rfl) ⟨by simp,[],⟨by simp,.inl ⟨rfl,rfl⟩⟩,trivial⟩ (by simp[Ent.foot,Value.ownBlock]))
theorem WK.nilrow {K:Act→World→Prop}{e:TypeId}{sz:Nat}(h:WK n c K l (.row (.slice none 0 0) e sz []::H)):WK n c K l H:=λa w Z ha hw=>
 h a w Z ha (hw.add rfl rfl rfl (Afm _) (λ_ _=>rfl) ⟨by simp,[],⟨by simp,.inl ⟨rfl,rfl⟩⟩,trivial⟩ (by simp[Ent.foot,Value.ownBlock]))
theorem Wo {i:Nat}{xs:List (List Rp)}(ht:P.underlying t=some (.slice e))(h:ev l x=some (rv v)){e':TypeId}(hi:H[i]? =some (.row v e' sz xs)):B4 P n c l H { dst:=d',op:=.call { callee:=.builtin .len,args:=#[x],argTypes:=#[t] },type:=ty,pos:=pos,after:=af,guard:=g } (rI .i64 xs.length):=λa w Z ha hw=>Ds<|by
 obtain⟨_,us,⟨_,h2⟩,_⟩:=hw.ent hi;rcases h2 with⟨rfl,hz⟩ | ⟨b,cap,cur,rfl,_⟩
 ·simp[execOp,resolve,invoke,builtin,ha.eval h,Builtin.len_,run_underlying ht,goInt,hz]
 ·simp[execOp,resolve,invoke,builtin,ha.eval h,Builtin.len_,run_underlying ht,goInt]
theorem EM {i:Nat}{k:IntKind}{j:Int}{xs:List (List Rp)}(ht:P.underlying t=some (.slice e))(hz:∀w,(sizeOf e).run P w = .ok sz w)(h:ev l x=some (rv v))(hy:ev l y=some (rI k j)){e':TypeId}(hi:H[i]? =some (.row v e' sz xs))(hg:Ch j (xs.length:Int)=true) :
  B4 P n c l H { dst:=d',op:=.indexAddr t x y,type:=ty,pos:=pos,after:=af,guard:=g } (rv (Gl sz v j.toNat 0)):=λa w Z ha hw=>Ds<|by
 obtain⟨_,us,⟨_,h2⟩,_⟩:=hw.ent hi;have h0:=(Ce hg).1;have h1:=(Ce hg).2;rcases h2 with⟨rfl,hz⟩ | ⟨b,cap,cur,rfl,_⟩
 ·omega
 ·simp[execOp,ha.eval h,ha.eval hy,Instr.indexAt,asIntOf,run_underlying ht,h0,h1,hz,Kg,Gl]
theorem Ip {α:Type}[Inhabited α]{ys:List α}{enc:α→List Rp}{i off:Nat}{j:Int}(hag:∀w,(isAgg t).run P w = .ok false w)(hx:ev l x=some (rv (Gl sz v j.toNat off)))(hi:H[i]? =some (.row v e sz (ys.map enc)))(hg:Ch j (ys.length:Int)=true)(hc:(enc (Ax ys j))[off]? =some r) :
  B4 P n c l H { dst:=d',op:=.load t x,type:=ty,pos:=pos,after:=af,guard:=g } r:=λa w Z ha hw=>by
 obtain⟨hs,us,⟨h1,h2⟩,h3⟩:=hw.ent hi;have h0:=(Ce hg).1;have hlt:j.toNat<ys.length:=by have:=(Ce hg).2;omega
 have eat:Ax ys j=ys[j.toNat]:=by simp[Ax,hlt]
 have hfl:=MQ hs (i:=j.toNat) (c:=enc ys[j.toNat]) (by simp[hlt]) (j:=off) (u:=r) (by rw[← eat];exact hc);obtain⟨u,hu,hp⟩:=h3.at hfl;rcases h2 with⟨rfl,hz⟩ | ⟨b,cap,cur,rfl,_,hg',hcap,hm,hsz,htk⟩
 ·simp at hz;subst hz;simp at hlt
 ·have hcell:w.cell? ⟨b,j.toNat*sz+off,none⟩=some u:=by
   rw[cell_of_row w b _ cur e (0,0) hg'];rw[← htk,Af0] at hu
   split at hu
   ·simpa using hu
   ·cases hu
  exact⟨u,hp,by simp[execOp,ha.eval hx,Gl,Instr.loadAt,Instr.sureAddr,loadVar,hag,hcell]⟩
theorem BI {α:Type}{ys:List α}{enc:α→List Rp}{j:Int}(h:Ch j (ys.length:Int)=true):Ch j ((ys.map enc).length:Int)=true:=by rw[Afi];exact h
theorem Bj {α:Type}{ys:List α}{enc:α→List Rp}(ht:P.underlying t=some (.slice e))(h:ev l x=some (AO sz (ys.map enc))):B4 P n c l H { dst:=d',op:=.call { callee:=.builtin .len,args:=#[x],argTypes:=#[t] },type:=ty,pos:=pos,after:=af,guard:=g } (rI .i64 ys.length):=by
 have:=AaZ (P:=P) (n:=n) (c:=c) (H:=H) (d:=d') (ty:=ty) (pos:=pos) (af:=af) (g:=g) ht h
 rwa [Afi] at this
theorem D3 {α:Type}{ys:List α}{enc:α→List Rp}{i:Nat}(ht:P.underlying t=some (.slice e))(h:ev l x=some (rv v)){e':TypeId}(hi:H[i]? =some (.row v e' sz (ys.map enc))):B4 P n c l H { dst:=d',op:=.call { callee:=.builtin .len,args:=#[x],argTypes:=#[t] },type:=ty,pos:=pos,after:=af,guard:=g } (rI .i64 ys.length):=by
 have:=Wo (P:=P) (n:=n) (c:=c) (d':=d') (ty:=ty) (pos:=pos) (af:=af) (g:=g) ht h hi
 rwa [Afi] at this
theorem CR {k off:Nat}{xs:List (List Rp)}{e':TypeId}{jj:Int}{j:Nat}(hk:H[k]? =some (.row v e' sz xs))(hg:Ch jj (xs.length:Int)=true)(hj:jj.toNat=j)(hx:ev l x=some (rv (Gl sz v j off))):B4 P n c l H { dst:=d',op:=.nilCheck x,type:=ty,pos:=pos,after:=af,guard:=g } (rv (Gl sz v j off)):=λa w Z ha hw=>Ds<|by
 obtain⟨hs,us,⟨h1,h2⟩,h3⟩:=hw.ent hk;rcases h2 with⟨rfl,hz⟩ | ⟨b,cap,cur,rfl,_⟩
 ·have:=Ce hg;omega
 ·simp[execOp,ha.eval hx,Gl]
theorem Gj {off off' i j fsz:Nat}{fs:Array Field}{f:Field}(hu:P.underlying t=some (.struct fs))(hf:fs[i]? =some f)(hsz:∀w,(sizeOf f.type).run P w = .ok (fsz+1) w){k:Nat}{xs:List (List Rp)}{e':TypeId}{jj:Int}(hk:H[k]? =some (.row v e' sz xs))(hg:Ch jj (xs.length:Int)=true)(hj:jj.toNat=j)
  (hx:ev l x=some (rv (Gl sz v j off))) (ho:off+f.offset=off'):B4 P n c l H { dst:=d',op:=.fieldAddr t x i,type:=ty,pos:=pos,after:=af,guard:=g } (rv (Gl sz v j off')):=λa w Z ha hw=>Ds<|by
 obtain⟨hs,us,⟨h1,h2⟩,h3⟩:=hw.ent hk;subst ho hj;rcases h2 with⟨rfl,hz⟩ | ⟨b,cap,cur,rfl,_⟩
 ·have:=Ce hg;omega
 ·simp[execOp,ha.eval hx,Gl,Instr.fieldAt,run_underlying hu,hf,Instr.sureAddr,fieldPlace,hsz,Kg,Nat.add_assoc]
theorem Ko {α:Type}[Inhabited α]{ys:List α}{enc:α→List Rp}{i off:Nat}{j:Int}{y':α}(hsz:∀w,(sizeOf t).run P w = .ok 1 w)(hx:ev l x=some (rv (Gl sz v j.toNat off)))(hy:ev l y=some r)(hv:Q4 H r)(hi:H[i]? =some (.row v e sz (ys.map enc)))(hg:Ch j (ys.length:Int)=true)
  (hy':(enc (Ax ys j)).set off r=enc y') (hlt:Nat.blt off sz=true) (hH:H.set i (.row v e sz ((ys.set j.toNat y').map enc))=H') (h:WL P n c ops Q rest l H') :
  WL P n c ops Q ({ dst:=none,op:=.store t x y,type:=ty,pos:=pos,after:=af,guard:=none }::rest) l H:=
 SV λa w Z ha hw=>by
  obtain⟨hs,us,⟨h1,h2⟩,h3⟩:=hw.ent hi;have h0:=(Ce hg).1;have hlj:j.toNat<ys.length:=by have:=(Ce hg).2;omega
  have hlt':off<sz:=by simpa using hlt
  have eat:Ax ys j=ys[j.toNat]:=by simp[Ax,hlj]
  have hr:=ha.ev hy;have hone:=hv c Z w _ hw hr;rcases h2 with⟨rfl,hz⟩ | ⟨b,cap,cur,rfl,_,hg',hcap,hm,hcs,htk⟩
  ·simp at hz;subst hz;simp at hlj
  ·simp only[Afi] at h1 hcap htk;have hin:j.toNat*sz+off<ys.length*sz:=by
    have:(j.toNat+1)*sz≤ys.length*sz:=Nat.mul_le_mul_right _ hlj;rw[Nat.succ_mul] at this;omega
   have hlc:j.toNat*sz+off<cur.size:=by
    have:ys.length*sz≤cap*sz:=Nat.mul_le_mul_right _ hcap;omega
   have h4:=run_storeCells_at P b (j.toNat*sz+off) e [a.eval y] 0 cur w hg' (by simp;omega) (by simpa using hone);have hcv:=B1 hone;have h5:(cur.toList.take (j.toNat*sz+off)++[a.eval y]++cur.toList.drop (j.toNat*sz+off+1)).toArray=cur.setIfInBounds (j.toNat*sz+off) (a.eval y):=by
    apply Array.ext';simp[Array.toList_setIfInBounds,List.set_eq_take_append_cons_drop,hlc]
   simp only[Nat.add_zero,AeZ,Af7,Afu] at h4;rw[h5] at h4;have hset:((ys.set j.toNat y').map enc).flatten=(ys.map enc).flatten.set (j.toNat*sz+off) r:=by
    clear h3 h1 hcs htk hin hlc h4 h5 hi hH;have key:∀(xs:List (List Rp)) (k:Nat) (cl:List Rp),(∀c∈xs,c.length=sz)→xs[k]? =some cl→(xs.set k (cl.set off r)).flatten=xs.flatten.set (k*sz+off) r:=by
     intro xs
     induction xs with
     | nil=>intro k cl _ hk;simp at hk
     | cons z zs ih=>
      intro k cl hsz hk;have hzl:z.length=sz:=hsz z (by simp)
      cases k with
      | zero=>
       simp at hk;subst hk;simp only[List.set_cons_zero,List.flatten_cons,Nat.zero_mul,Afu];rw[List.set_append_left _ _ (by omega)]
      | succ k=>
       simp only[List.set_cons_succ,List.flatten_cons];rw[ih k cl (λc hc=>hsz c (by simp[hc])) (by simpa using hk)];rw[List.set_append_right _ _ (by rw[hzl,Nat.succ_mul];omega)]
       congr 2
       rw[hzl,Nat.succ_mul];omega
    have:=key (ys.map enc) j.toNat (enc ys[j.toNat]) hs (by simp[hlj]);rw[← this,List.map_set,← hy',eat]
   refine⟨w.setRow b (cur.setIfInBounds (j.toNat*sz+off) (a.eval y)),H',?_,?_,h⟩
   ·simp[execOp,ha.eval hx,Gl,Instr.storeAt,Instr.sureAddr,storeVar,hsz,hcv,h4]
   ·subst hH;refine hw.set hi rfl rfl rfl (by simp[World.setRow]) (λk _ hk=>?_) ⟨?_,us.set (j.toNat*sz+off) (a.eval y),⟨by simpa using h1,.inr ⟨b,cap,_,by simp,Afv _,setRow_heap w b cur _ e (0,0) hg',by simpa using hcap,hm,by simpa using hcs,?_⟩⟩,?_⟩ (by simp[Ent.foot,Value.ownBlock])
    ·simp only[Ent.foot,Value.ownBlock,Option.mem_toList,Option.mem_def,Option.some.injEq] at hk;simp only[World.setRow,Array.getElem?_modify];rw[Afz hk]
    ·intro cl hcl;rw[List.map_set] at hcl;rcases List.mem_or_eq_of_mem_set hcl with h' | rfl
     ·exact hs cl h'
     ·rw[← hy',List.length_set,eat];exact hs _ (List.mem_map_of_mem (List.getElem_mem hlj))
    ·simp only[Afi,List.length_set];rw[Array.toList_setIfInBounds,List.take_set,htk]
    ·rw[hset];exact h3.set _ hr
end
theorem YN {P:Program}{t e:TypeId}{sz len:Nat}{z:Value}{parts:Array (Nat×Value)}{cs:List Value}(ht:P.underlying t=some (.slice e))(hz:∀w,(sizeOf e).run P w = .ok sz w)(hzv:∀w,(zeroValue e).run P w = .ok z w)
  (hle:Nat.ble (len*sz) 16777216=true) (w:World) (hf:Instr.fill (λi=>some (i*sz,sz)) ((Array.range (len*sz)).map ((if len*sz=0 then #[] else z.cells)[· % (if len*sz=0 then #[] else z.cells).size]!)) parts.toList=some cs.toArray) :
  (Instr.buildSlice t len parts).run P w = .ok (.slice (some ⟨w.heap.size,0,none⟩) len len) (w.alloc (.cells cs.toArray e)):=by
 have hle' : ¬ 16777216<len*sz:=by simpa using hle
 unfold Instr.buildSlice
 by_cases h0:len*sz=0
 ·have er:Array.range 0 = #[]:=rfl;simp only[h0,Afn,er] at hf;have hf:Instr.fill (λi=>some (i*sz,sz)) #[] parts.toList=some cs.toArray:=by simpa using hf
  simp[run_underlying ht,hz,hle',h0,er,hf,newRow,newObj,Sem.run,Sem.run_bind]
 ·simp only[h0,Afh] at hf;simp[run_underlying ht,hz,hzv,hle',h0,hf,newRow,newObj,Sem.run,Sem.run_bind]
section
variable {P : Program} {n : Nat} {c : Cx} {ops : Array Oper} {Q : Exit → Act → World → Prop} {rest : List Oper} {l : Fr} {H H' : List Ent} {d : Nat} {d' : Option Nat} {x y z3 : Operand} {ty t t' e : TypeId} {pos : String} {af : Array Edge} {g : Option (Nat × Bool)} {v u : Value} {r : Rp} {sz : Nat}
theorem Dv {i b k:Nat}{cs:List Rp}(hag:∀w,(isAgg t).run P w = .ok true w)(hsz:∀w,(sizeOf t).run P w = .ok sz w)(hx:look l k=some (rv (.pointer (some ⟨b,0,none⟩))))(hi:H[i]? =some (.blk b cs e))(hl:cs.length=sz):RV P n c l H (.cell k t) (B9 cs):=λa w Z ha hw=>by
 obtain⟨us,h1,h2⟩:=hw.ent hi;obtain⟨p,hp1,hp2⟩:=ha.tm k _ hx;rw[show p=_ from hp2] at hp1;have h4:=run_loadCells_list (P:=P) w ⟨b,0,none⟩ us (λj u hj=>by
  rw[Kg,cell_of_row w b _ _ e (0,0) h1,Afu];simpa using hj)
 rw[h2.length,hl] at h4;exact⟨.agg us.toArray,⟨us,rfl,h2⟩,by simp[AaI,Array.getD_eq_getD_getElem?,hp1,asAddr,loadVar,hag,hsz,h4]⟩
def Ez (H:List Ent)(r:Rp)(cs:List Rp):Prop:=∀(c:Cx) Z w v,St c H Z w→r.p Z v→Bw Z cs v.cells.toList
theorem Ez.one {q:Rp}(h:r.one=true)(hu:Up H r q):Ez H r [q]:=λc Z w v hw hp=>by
 rw[B1 (r.hone h Z v hp)];exact⟨hu c Z w v hw hp,trivial⟩
theorem Ez.agg {cs cs':List Rp}(h:JZ H cs cs'):Ez H (B9 cs) cs':=λc Z w v hw ⟨us,e,hu⟩=>by subst e;exact h.all hw hu
def Qb (H:List Ent):List Rp→List (List Rp)→Prop
 | [],[]=>True
 | r::rs,cs::css=>Ez H r cs∧Qb H rs css
 | _,_=>False
theorem Qb.all {c:Cx}{Z:Fz}{w:World}(hw:St c H Z w):∀{rs:List Rp} {css:List (List Rp)} {vs:List Value},Qb H rs css→Bw Z rs vs→Bw Z css.flatten (vs.flatMap λv=>v.cells.toList)∧css.length=vs.length∧∀(i:Nat) cs v,css[i]? =some cs→vs[i]? =some v→v.cells.size=cs.length
 | [],[],[],_,_=>⟨trivial,rfl,by simp⟩
 | r::rs,cs::css,v::vs,⟨h1,h2⟩,⟨h3,h4⟩=>by
  obtain⟨a1,a2,a3⟩:=h2.all hw h4;have h5:=h1 c Z w v hw h3;refine⟨by simpa using h5.append a1,by simp[a2],λi cs' v' hi hv=>?_⟩
  cases i with
  | zero=>simp at hi hv;subst hi hv;have:=h5.length;simpa using this
  | succ i=>exact a3 i cs' v' (by simpa using hi) (by simpa using hv)
theorem Bc {α:Type}{ys:List α}{enc:α→List Rp}{len:Nat}{parts:Array (Nat×Operand)}{xs:List Operand}{rs:List Rp}{css:List (List Rp)}{zz:Value}(ht:P.underlying t=some (.slice e))(hz:∀w,(sizeOf e).run P w = .ok sz w)(hzv:∀w,(zeroValue e).run P w = .ok zz w)
  (hparts:parts.toList=(xs.zipIdx 0).map λp=>(p.2,p.1)) (hlen:ys.length=len) (hv:MT l xs=some rs) (hc:Qb H rs css) (hcs:css=ys.map enc) (henc:∀z,(enc z).length=sz) (hsz:Nat.blt 0 sz=true) (hle:Nat.ble (len*sz) 16777216=true) (hn:Nat.blt d n=true)
  (h:∀b,WL P n c ops Q rest ((d,rv (.slice (some ⟨b,0,none⟩) len len))::l) (.row (.slice (some ⟨b,0,none⟩) len len) e sz (ys.map enc)::H)) :
  WL P n c ops Q ({ dst:=some d,op:=.buildSlice t len parts,type:=ty,pos:=pos,after:=af,guard:=none }::rest) l H:=
 J2 (λa w Z ha hw=>by
  have hall:=GS ha hv;obtain⟨h1,h2,h3⟩:=hc.all hw hall;have hsz':0<sz:=by simpa using hsz
  have hle' : ¬ 16777216<len*sz:=by simpa using hle
  have hxl:(xs.map a.eval).length=len:=by rw[← h2,hcs,Afi,hlen]
  have hcell:∀v∈xs.map a.eval,v.cells.size=sz:=λv hv'=>by
   obtain⟨i,hi⟩:=List.getElem?_of_mem hv';have hil:=(List.getElem?_eq_some_iff.1 hi).1;have hil2:i<css.length:=by omega
   rw[h3 i css[i] v (AeN hil2) hi];have:css[i]∈ys.map enc:=by rw[← hcs];exact List.getElem_mem hil2
   obtain⟨z,_,hz'⟩:=List.mem_map.1 this;rw[← hz'];exact henc z
  have hflen:((xs.map a.eval).flatMap λv=>v.cells.toList).length=len*sz:=by
   rw[h1.length,Jw (sz:=sz) (λc hc'=>by rw[hcs] at hc';obtain⟨z,_,hz'⟩:=List.mem_map.1 hc';rw[← hz'];exact henc z),hcs,Afi,hlen]
  have hpe:(parts.map λ(i,x)=>(i,a.eval x)).toList=((xs.map a.eval).zipIdx 0).map λp=>(p.2,p.1):=by
   rw[Array.toList_map,hparts,List.zipIdx_map,AfC,AfC];rfl
  have hrun:(Instr.buildSlice t len (parts.map λ(i,x)=>(i,a.eval x))).run P w = .ok (.slice (some ⟨w.heap.size,0,none⟩) len len) (w.alloc (.cells ((xs.map a.eval).flatMap λv=>v.cells.toList).toArray e)):=by
   refine YN ht hz hzv hle w ?_;rw[hpe]
   by_cases h0:len*sz=0
   ·have:len=0:=by
     rcases Nat.mul_eq_zero.1 h0 with h | h
     ·exact h
     ·omega
    subst this;have hx0:xs=[]:=by simpa using Afp (by simpa using hxl)
    subst hx0;simp[Instr.fill]
   ·simp only[h0,Afh];exact Great.fill_whole hsz' (xs.map a.eval) _ hcell (by rw[hxl];simp)
  refine⟨_,w.alloc (.cells ((xs.map a.eval).flatMap λv=>v.cells.toList).toArray e),_,_,Z,by simp[execOp,hrun],Fz.le.refl _,rfl,
   hw.alloc _ (e:=.row (.slice (some ⟨w.heap.size,0,none⟩) len len) e sz (ys.map enc)) ⟨?_,(xs.map a.eval).flatMap (λv=>v.cells.toList),⟨?_,.inr ⟨w.heap.size,len,_,?_,Afv _,heap_alloc_new w _,?_,?_,?_,?_⟩⟩,?_⟩ (by simp[Ent.foot,Value.ownBlock]),h w.heap.size⟩
  ·intro cl hcl;obtain⟨z,_,hz'⟩:=List.mem_map.1 hcl;rw[← hz'];exact henc z
  ·rw[hflen,Afi,hlen]
  ·rw[Afi,hlen]
  ·rw[Afi,hlen];exact Afm _
  ·have:len≤len*sz:=Nat.le_mul_of_pos_right _ hsz';simp only[maxLen];omega
  ·simpa using hflen
  ·rw[Afi,hlen,← hflen];exact List.take_length
  ·rw[← hcs];exact h1) hn
theorem UB.rds {α:Type}{ys:List α}{enc:α→List Rp}{Z:Fz}{w:World}(hf:WT Z w)(h:UB sz (ys.map enc) Z v)(hsz:0<sz):∃us:List Value,Bw Z (ys.map enc).flatten us∧Rds sz w v ys.length us:=by
 obtain⟨A,cap,rfl,_,_,hA,hc⟩:=h;have hl:∀c∈ys.map enc,c.length=sz:=λc hm=>by
  obtain⟨i,hi⟩:=List.getElem?_of_mem hm;exact(hc i c hi).1
 cases A with
 | none=>
  have:ys=[]:=by
   cases ys with
   | nil=>rfl
   | cons y r=>obtain⟨_,a,h,_⟩:=hc 0 (enc y) (by simp);cases h
  subst this;rw[hA rfl];exact⟨[],trivial,by simp,.inl ⟨rfl,rfl⟩⟩
 | some a=>
  obtain⟨us,h1,h2⟩:=N9 (Z:=Z) (cs:=(ys.map enc).flatten) (f:=λj=>IS Z a.block (a.off+j)) (λj r hj=>by
   have hjl:j<ys.length*sz:=by
    have:=Jw hl;rw[Afi] at this;rw[← this];exact(List.getElem?_eq_some_iff.1 hj).1
   have hq:j/sz<(ys.map enc).length:=by rw[Afi,Nat.div_lt_iff_lt_mul hsz];exact hjl
   have hr:j % sz<sz:=Nat.mod_lt _ hsz;obtain⟨hcl,a',e1,hsp,hcell⟩:=hc (j/sz) (ys.map enc)[j/sz] (AeN hq);simp only[Option.some.injEq] at e1;subst e1;have hdm:j/sz*sz+j % sz=j:=by rw[Nat.mul_comm];exact Nat.div_add_mod j sz
   have hlt:j % sz<((ys.map enc)[j/sz]).length:=by omega
   have h3:=MQ hl (AeN hq) (AeN hlt);rw[hdm,hj] at h3;simp only[Option.some.injEq] at h3;obtain⟨u,hu,hp⟩:=hcell (j % sz) _ (AeN hlt);rw[hdm] at hu;exact⟨u,hu,by rw[h3];exact hp⟩)
  refine⟨us,h1,?_,.inr ⟨a,cap,by simp,λj u hj=>?_⟩⟩
  ·rw[h1.length,Jw hl,Afi]
  ·have hjl:j<us.length:=(List.getElem?_eq_some_iff.1 hj).1;have h3:=LD hf (h2 j u hj);have hsp:a.spot=none:=by
    cases ys with
    | nil=>have:=h1.length;simp at this;subst this;simp at hjl
    | cons y r=>obtain⟨_,a',e1,hs,_⟩:=hc 0 (enc y) (by simp);simp at e1;subst e1;exact hs
   obtain⟨b,off,spot⟩:=a;simp only at hsp;subst hsp;rw[Kg];exact h3
def Q3 (P:Program)(n:Nat)(c:Cx)(l:Fr)(H:List Ent)(y:Operand)(sz:Nat)(k:Nat)(cs:List Rp):Prop:=∀a w Z,Dg n l a Z→St c H Z w→∃us,Bw Z cs us∧Rds sz w (a.eval y) k us
theorem Q3.z {α:Type}{ys:List α}{enc:α→List Rp}(h:ev l y=some (AO sz (ys.map enc)))(hsz:Nat.blt 0 sz=true):Q3 P n c l H y sz ys.length (ys.map enc).flatten:=λa w Z ha hw=>UB.rds hw.frz (ha.ev h) (by simpa using hsz)
theorem Q3.nil (h:ev l y=some (rv (.slice none 0 0))):Q3 P n c l H y sz 0 []:=λa w Z ha hw=>⟨[],trivial,by simp,.inl ⟨ha.eval h,rfl⟩⟩
theorem Q3.w {α:Type}{ys:List α}{enc:α→List Rp}{i:Nat}(h:ev l y=some (rv v))(hi:H[i]? =some (.row v e sz (ys.map enc))):Q3 P n c l H y sz ys.length (ys.map enc).flatten:=λa w Z ha hw=>by
 obtain⟨h0,us,h1,h2⟩:=hw.ent hi;refine⟨us,h2,?_⟩;rw[ha.eval h];have:=Rds.of_row (w:=w) (v:=v) (e:=e) (sz:=sz) (m:=(ys.map enc).length) (xs:=us) h1;simpa using this
theorem Er {α:Type}{xs ys:List α}{enc:α→List Rp}{i:Nat}{inf:TypeInfo}{z:Value}{bytes:Nat}(ht:P.underlying t=some (.slice e))(hinf:P.info? e=some inf)(hz:inf.zero=some z)(hsize:inf.size=sz)(hby:inf.bytes=bytes)(hzs:z.cells.size=sz)(hsz:Nat.blt 0 sz=true)(hbp:Nat.blt 0 bytes=true)
  (hx:ev l x=some (rv v)) (hi:H[i]? =some (.row v e sz (xs.map enc))) (hy:Q3 P n c l H y sz ys.length (ys.map enc).flatten) (henc:∀z,(enc z).length=sz) (hone:∀z,(enc z).all (·.one)=true) (hg:Eh bytes (xs.length+ys.length)=true) (hn:Nat.blt d n=true)
  (h:∀v',WL P n c ops Q rest ((d,rv v')::l) (.row v' e sz ((xs++ys).map enc)::H.eraseIdx i)) :
  WL P n c ops Q ({ dst:=some d,op:=.call { callee:=.builtin .append,args:=#[x,y],argTypes:=#[t,t] },type:=ty,pos:=pos,after:=af,guard:=none }::rest) l H:=
 J2 (λa w Z ha hw=>by
  obtain⟨h0,us,h1,h2⟩:=hw.ent hi;obtain⟨ws,h3,h4⟩:=hy a w Z ha hw;have hsz':0<sz:=by simpa using hsz
  have hbp':0<bytes:=by simpa using hbp
  have hb:(xs.length+ys.length)*bytes≤140737488355328:=by simpa[Eh] using hg
  have hle:xs.length+ys.length≤(xs.length+ys.length)*bytes:=Nat.le_mul_of_pos_right _ hbp';have hws:∀y∈ws,y.oneCell'=true:=Bw.one (rs:=(ys.map enc).flatten) (by
   rw[Afw];intro r hr;obtain⟨cl,hcl,hrc⟩:=List.mem_flatten.1 hr;obtain⟨z',_,rfl⟩:=List.mem_map.1 hcl;exact List.all_eq_true.1 (hone z') r hrc) h3
  have hxl:(xs.map enc).length=xs.length:=Afi ..;rw[hxl] at h1;obtain⟨v',w',e1,e2,e3,e4⟩:=IJ (P:=P) ty ht hinf hz hsize hby hzs hsz' h1 h4 hws hb (by simp only[maxLen];omega);have hent:(Ent.row v' e sz ((xs++ys).map enc)).holds Z w':=⟨λcl hcl=>by obtain⟨z',_,rfl⟩:=List.mem_map.1 hcl;exact henc z',us++ws,by simpa using e2,by rw[List.map_append,List.flatten_append];exact h2.append h3⟩
  have hst:=hw.callF hi (St.one (e':=.row v' e sz ((xs++ys).map enc)) (M:=(Ent.row v e sz (xs.map enc)).foot) hw.frz hw.env hw.emono e3.os e3.tape e3.output e3.size (λk hk hne=>e3.block k hk (λe1=>hne (by simp[Ent.foot,← e1])))
   (hw.zdis _ (Afc hi)) hent (λk hk=>by
    simp only[Ent.foot,Option.mem_toList] at hk ⊢;rcases e4 with e4 | e4
    ·exact .inl (e4▸hk)
    ·exact .inr (e4 k hk)))
  exact⟨v',w',rv v',_,Z,by simp[execOp,resolve,invoke,builtin,ha.eval hx,e1],Fz.le.refl _,rfl,hst,h v'⟩) hn
theorem Pz {α:Type}{ys:List α}{enc:α→List Rp}{k:IntKind}{i:Int}(ht:P.underlying t=some (.slice e))(hz:∀w,(sizeOf e).run P w = .ok sz w)(h:ev l x=some (AO sz (ys.map enc)))(hi:ev l y=some (rI k i))(hg:IR i (ys.length:Int)=true) :
  B4 P n c l H { dst:=d',op:=.slice t x (some y) none none,type:=ty,pos:=pos,after:=af,guard:=g } (AO sz ((ys.drop i.toNat).map enc)):=λa w Z ha hw=>by
 obtain⟨A,cap,e1,hc1,hc2,hA,hc⟩:=ha.ev h;have h0:=(E2 hg).1;have h1:=(E2 hg).2;simp only[Afi] at e1 hc1;refine⟨.slice (if cap=i.toNat then A else A.map (·.add (i.toNat*sz))) (ys.length-i.toNat) (cap-i.toNat),⟨if cap=i.toNat then A else A.map (·.add (i.toNat*sz)),cap-i.toNat,?_,?_,by omega,?_,λq cl hq=>?_⟩,by simp[execOp,e1,ha.eval hi,Instr.sliceAt,Instr.slice,run_underlying ht,Instr.sliceBounds,BV (m:=ys.length) _ _ h0 h1,hz]⟩
 ·congr 1
  simp
 ·simp;omega
 ·intro hn
  split at hn
  ·have:=hA hn;omega
  ·have:=hA (by simpa using hn);omega
 ·rw[Afr,List.getElem?_drop] at hq
  cases hq':ys[i.toNat+q]? with
  | none=>rw[hq'] at hq;cases hq
  | some yy=>
   rw[hq'] at hq;simp only[Option.map_some,Option.some.injEq] at hq;subst hq;have hlt:=(List.getElem?_eq_some_iff.1 hq').1;obtain⟨hl,ad,rfl,hs,hcs⟩:=hc (i.toNat+q) (enc yy) (by simp[hq']);obtain⟨b,off,spot⟩:=ad;simp only at hs;subst hs;have hne : ¬ cap=i.toNat:=by omega
   refine⟨hl,⟨b,off+i.toNat*sz,none⟩,by simp[hne,Kg],rfl,λq' r' hr'=>?_⟩;obtain⟨u,hu,hp⟩:=hcs q' r' hr';refine⟨u,?_,hp⟩;have:off+i.toNat*sz+(q*sz+q')=off+((i.toNat+q)*sz+q'):=by rw[Nat.add_mul];omega
   simp only;rw[this];exact hu
theorem AbP {α:Type}{ys:List α}{enc:α→List Rp}{i:Nat}{k:IntKind}{j:Int}(ht:P.underlying t=some (.slice e))(hz:∀w,(sizeOf e).run P w = .ok sz w)(hx:ev l x=some (rv v))(hy:ev l y=some (rI k j))(hi:H[i]? =some (.row v e sz (ys.map enc)))(hg:IR j (ys.length:Int)=true)(hn:Nat.blt d n=true)
  (h:∀v',WL P n c ops Q rest ((d,rv v')::l) (H.set i (.row v' e sz ((ys.take j.toNat).map enc)))) :
  WL P n c ops Q ({ dst:=some d,op:=.slice t x none (some y) none,type:=ty,pos:=pos,after:=af,guard:=none }::rest) l H:=
 J2 (λa w Z ha hw=>by
  obtain⟨h0,us,⟨h1,h2⟩,h3⟩:=hw.ent hi;have g0:=(E2 hg).1;have g1:=(E2 hg).2;rcases h2 with⟨rfl,hz0⟩ | ⟨b,cap,cur,rfl,_,hb,hcap,hm,hcs,htk⟩
  ·simp at hz0;subst hz0;obtain rfl:j=0:=by simp at g1;omega
   refine⟨.slice none 0 0,w,_,_,Z,by simp[execOp,ha.eval hx,ha.eval hy,Instr.sliceAt,Instr.slice,run_underlying ht,Instr.sliceBounds,BV (m:=0) _ _ (Afx 0) (Afx 0),hz],Fz.le.refl _,rfl,?_,h _⟩;exact hw.set hi rfl rfl rfl (Afm _) (λ_ _ _=>rfl) ⟨by simp,[],⟨by simp,.inl ⟨rfl,by simp⟩⟩,trivial⟩ (by simp[Ent.foot,Value.ownBlock])
  ·simp only[Afi] at h1 hcap htk;have hjc:j≤(cap:Int):=by omega
   have hjl:j.toNat≤ys.length:=by omega
   refine⟨.slice (some ⟨b,0,none⟩) j.toNat cap,w,_,_,Z,by simp[execOp,ha.eval hx,ha.eval hy,Instr.sliceAt,Instr.slice,run_underlying ht,Instr.sliceBounds,BV (m:=cap) _ _ g0 hjc,hz];intro _;rfl,Fz.le.refl _,rfl,?_,h _⟩;refine hw.set hi rfl rfl rfl (Afm _) (λ_ _ _=>rfl) ⟨λcl hcl=>?_,us.take (j.toNat*sz),⟨?_,.inr ⟨b,cap,cur,?_,Afv _,hb,?_,hm,hcs,?_⟩⟩,?_⟩ (by simp[Ent.foot,Value.ownBlock])
   ·rw[List.map_take] at hcl;exact h0 cl (List.mem_of_mem_take hcl)
   ·rw[Af8,h1,Afi,Af8,Nat.min_eq_left hjl];exact Nat.min_eq_left (Nat.mul_le_mul_right _ hjl)
   ·simp[Nat.min_eq_left hjl]
   ·simp;omega
   ·rw[Afi,Af8,Nat.min_eq_left hjl,← htk,List.take_take,Nat.min_eq_left (Nat.mul_le_mul_right _ hjl)]
   ·have:((ys.take j.toNat).map enc).flatten=(ys.map enc).flatten.take (j.toNat*sz):=by
     rw[List.map_take];clear h3 h1 htk hcs hcap g1 hjc;generalize ys.map enc=zs at h0;have key:∀(zs:List (List Rp)) (k:Nat),(∀c∈zs,c.length=sz)→(zs.take k).flatten=zs.flatten.take (k*sz):=by
      intro zs
      induction zs with
      | nil=>intro k _;simp
      | cons z zs ih=>
       intro k hk
       cases k with
       | zero=>simp
       | succ k=>
        have hzl:=hk z (by simp);simp only[List.take_succ_cons,List.flatten_cons];rw[ih k (λc hc=>hk c (by simp[hc]))];have e1:(k+1)*sz=z.length+k*sz:=by rw[hzl,Nat.succ_mul];omega
        rw[e1,List.take_length_add_append]
     exact key zs _ h0
    rw[this];exact h3.take _) hn
theorem Py {α:Type}{z4:Operand}{ys:List α}{enc:α→List Rp}{k k' k'':IntKind}{i j:Int}(ht:P.underlying t=some (.slice e))(hz:∀w,(sizeOf e).run P w = .ok sz w)(h:ev l x=some (AO sz (ys.map enc)))(hi:ev l y=some (rI k i))(hj:ev l z3=some (rI k' j))(hm:ev l z4=some (rI k'' j))(hg1:IR i j=true)(hg2:IR j (ys.length:Int)=true) :
  B4 P n c l H { dst:=d',op:=.slice t x (some y) (some z3) (some z4),type:=ty,pos:=pos,after:=af,guard:=g } (AO sz (((ys.drop i.toNat).take (j.toNat-i.toNat)).map enc)):=λa w Z ha hw=>by
 obtain⟨A,cap,e1,hc1,hc2,hA,hc⟩:=ha.ev h;have h0:=(E2 hg1).1;have h1:=(E2 hg1).2;have h2:=(E2 hg2).2;have hj0:0≤j:=by omega
 simp only[Afi] at e1 hc1;have h3:j≤(cap:Int):=by omega
 refine⟨.slice (if j.toNat=i.toNat then A else A.map (·.add (i.toNat*sz))) (j.toNat-i.toNat) (j.toNat-i.toNat),⟨if j.toNat=i.toNat then A else A.map (·.add (i.toNat*sz)),j.toNat-i.toNat,?_,?_,by omega,?_,λq cl hq=>?_⟩,by simp[execOp,e1,ha.eval hi,ha.eval hj,ha.eval hm,Instr.sliceAt,Instr.slice,run_underlying ht,Instr.sliceBounds,BV (m:=cap) _ _ hj0 h3,BV (m:=j.toNat) _ _ hj0 (by omega),BV (m:=j.toNat) _ _ h0 (by omega),hz]⟩
 ·congr 1
  simp;omega
 ·simp;omega
 ·intro hn
  split at hn
  ·omega
  ·have:=hA (by simpa using hn);omega
 ·rw[Afr] at hq
  cases hq':(List.take (j.toNat-i.toNat) (List.drop i.toNat ys))[q]? with
  | none=>rw[hq'] at hq;cases hq
  | some yy=>
   rw[hq'] at hq;simp only[Option.map_some,Option.some.injEq] at hq;subst hq;rw[Af0] at hq'
   split at hq'
   ·rename_i hlt
    rw[List.getElem?_drop] at hq';obtain⟨hl,ad,rfl,hs,hcs⟩:=hc (i.toNat+q) (enc yy) (by simp[hq']);obtain⟨b,off,spot⟩:=ad;simp only at hs;subst hs;have hne : ¬ j.toNat=i.toNat:=by omega
    refine⟨hl,⟨b,off+i.toNat*sz,none⟩,by simp[hne,Kg],rfl,λq' r' hr'=>?_⟩;obtain⟨u,hu,hp⟩:=hcs q' r' hr';refine⟨u,?_,hp⟩;have:off+i.toNat*sz+(q*sz+q')=off+((i.toNat+q)*sz+q'):=by rw[Nat.add_mul];omega
    simp only;rw[this];exact hu
   ·cases hq'
theorem Zo {k:IntKind}{p q:Int}(ht:P.underlying t=some (.int k))(hx:ev l x=some (rI k p))(hy:ev l y=some (rI k q)):B4 P n c l H { dst:=d',op:=.call { callee:=.builtin .max,args:=#[x,y],argTypes:=#[t,t] },type:=ty,pos:=pos,after:=af,guard:=g } (rI k (max p q)):=λa w Z ha _=>Ds<|by
 have e:(if p<q then q else p)=max p q:=by split<;>omega
 simp[execOp,resolve,invoke,builtin,ha.eval hx,ha.eval hy,Builtin.max_,Builtin.max2,run_underlying ht,e]
theorem Ad2 {k:IntKind}{p q:Int}(ht:P.underlying t=some (.int k))(hx:ev l x=some (rI k p))(hy:ev l y=some (rI k q)):B4 P n c l H { dst:=d',op:=.call { callee:=.builtin .min,args:=#[x,y],argTypes:=#[t,t] },type:=ty,pos:=pos,after:=af,guard:=g } (rI k (min p q)):=λa w Z ha _=>Ds<|by
 have e:(if q<p then q else p)=min p q:=by split<;>omega
 simp[execOp,resolve,invoke,builtin,ha.eval hx,ha.eval hy,Builtin.min_,Builtin.min2,run_underlying ht,e]
theorem Io {f:FuncId}{parts:Array Operand}{caps:List Value}(h:MT l parts.toList=some (caps.map rv)):B4 P n c l H { dst:=d',op:=.makeFunc (.func f) #[] parts,type:=ty,pos:=pos,after:=af,guard:=g } (rv (.func (.func f) #[] caps.toArray)):=λa w Z ha _=>Ds<|by
 have h1:=Bw.eq_rv (GS ha h);have h2:parts.map a.eval=caps.toArray:=by apply Array.ext';simpa using h1
 simp[execOp,Instr.makeFunc,h2]
theorem Nq {p:Addr}(hu:∃e',P.underlying t=some (.pointer e'))(hx:ev l x=some (rv (.pointer (some p)))):B4 P n c l H { dst:=d',op:=.binOp .eql t x (.const (.pointer none)) t',type:=ty,pos:=pos,after:=af,guard:=g } (rB false):=λa w Z ha _=>Ds<|by
 obtain⟨e',hu⟩:=hu;have h1:∀dd:Nat,(Op.equalIn (dd+1) t (.pointer (some p)) (.pointer none)).run P w = .ok false w:=λdd=>by simp[Op.equalIn,run_underlying hu]
 have h2:(Op.equal t (.pointer (some p)) (.pointer none)).run P w = .ok false w:=h1 9999;have h3:(eqGuard .eql t x (.const (.pointer none)) (.pointer (some p)) (.pointer none)).run P w = .ok () w:=by unfold eqGuard;split<;>simp
 have hy:a.eval (.const (.pointer none)) = .pointer none:=rfl;simp only[execOp,ha.eval hx,hy,Sem.run_bind,h3,Result.andThen_ok,binOp,h2,Sem.run_pure]
@[reducible] def ZY (x:Int):List Rp:=[rI .i64 x]
@[reducible] def Cn (x:Int):List Rp:=[rI .u8 x]
theorem Ll (x:Int):(Cn x).length=1:=rfl
theorem Rj (x:Int):(Cn x).all (·.one)=true:=rfl
@[reducible] def eS (x:Ai):List Rp:=[rS x]
theorem DS (x:Ai):(eS x).length=1:=rfl
theorem PO (x:Ai):(eS x).all (·.one)=true:=rfl
@[reducible] def eB (x:Bool):List Rp:=[rB x]
end
section
variable (P : Program) (n : Nat) (c : Cx) (ops : Array Oper) (Q : Exit → Act → World → Prop)
def DJ (l:Fr)(H:List Ent)(o:Oper)(r:Rp)(H':List Ent):Prop:=
 ∀a w Z (K:Act→World→Prop),Dg n l a Z→St c H Z w→(∀v w' Z',Fz.le Z Z'→r.p Z' v→St c H' Z' w'→K (a.put o.dst v) w')→
  (Region.wanted o (yielded ops a.tmps)=true→o.wp P a w K Q)∧(Region.wanted o (yielded ops a.tmps)=false→K (a.put o.dst undef) w)
end
def U4 (l' l:Fr):Prop:=∀i v,look l' i=some v→∃q,look l i=some q∧HS q v
theorem Dg.subL {n:Nat}{a:Act}{Z:Fz}{l l':Fr}(h:Dg n l a Z)(hs:U4 l' l):Dg n l' a Z:=⟨h.size,h.defers,λi v hi=>by
 obtain⟨q,hq,hle⟩:=hs i v hi;obtain⟨u,hu,hp⟩:=h.tm i q hq;exact⟨u,hu,hle Z u hp⟩⟩
structure Kp (ks:List Nat) (l l':Fr):Prop where
 one:U4 l' l
 two:∀i v,look l' i=some v→ks.contains i=true
theorem Oi {ks:List Nat}:Kp ks [] []:=⟨λi v h=>by simp[look] at h,λi v h=>by simp[look] at h⟩
theorem LL {ks:List Nat}{i:Nat}{r:Rp}{l l':Fr}(h:ks.contains i=true)(t:Kp ks l l'):Kp ks ((i,r)::l) ((i,r)::l'):=by
 refine⟨λj v hj=>?_,λj v hj=>?_⟩
 ·rw[Cw] at hj ⊢
  split at hj
  ·rename_i e;rw[Af6 e];simp at hj;subst hj;exact⟨r,rfl,HS.refl r⟩
  ·rename_i e;rw[Afz e];exact t.one j v hj
 ·rw[Cw] at hj
  split at hj
  ·rename_i e;subst e;exact h
  ·exact t.two j v hj
theorem M9 {ks:List Nat}{i:Nat}{r:Rp}{l l':Fr}(h:ks.contains i=false)(t:Kp ks l l'):Kp ks ((i,r)::l) l':=by
 refine⟨λj v hj=>?_,t.two⟩;rw[Cw]
 by_cases e:i=j
 ·subst e;rw[t.two i v hj] at h;cases h
 ·rw[Afz e];exact t.one j v hj
structure Sp where
 deps:List Nat
 r:Rp
 kd:Nat
def Es (sp:List Sp)(i:Nat):Sp:=sp.getD i ⟨[],rv undef,0⟩
def Co (ops:List Oper)(i:Nat):Option Nat:=(ops[i]?).bind (·.dst)
def BZ (ops:List Oper)(sp:List Sp):List Nat→Fr→Fr
 | [],l=>l
 | j::r,l=>match Co ops j with
  | some d=>(d,(Es sp j).r)::BZ ops sp r l
  | none=>BZ ops sp r l
def De (o:Oper):List Nat:=(o.after.toList.filter (Region.binds .any)).map (·.on)
def LQ:List Oper→List Nat→List Nat
 | [],acc=>acc
 | o::rest,acc=>LQ rest (acc++[(De o).foldl (λs e=>s||| 2 ^ e||| acc.getD e 0) 0])
def EQ (l:Fr):List Nat:=l.map (·.1)
def okB (n:Nat)(ops:List Oper)(N:Nat)(keys:List Nat)(deps:List (List Nat))(kds:List Nat):Bool:=
 let cl:=LQ ops []
 (List.range ops.length).all (λi=>(De (ops.getD i default)).all (·<i))&&
 (List.range N).all (λi=>match Co ops i with
  | some d=>decide (d<n)&&!keys.contains d&&(List.range N).all (λj=>j ==i||Co ops j !=some d)
  | none=>true)&&
 (List.range N).all (λi=>(deps.getD i []).all (λj=>(De (ops.getD i default)).contains j))&&
 (List.range N).all (λi=>kds.getD i 0 ==0||kds.getD i 0 ==3||(List.range N).all (λj=>kds.getD j 0 !=2||j ==i||(if j<i then(cl.getD i 0).testBit j else(cl.getD j 0).testBit i)))&&
 (List.range ops.length).all (λi=>i<N||(List.range N).all (λj=>(cl.getD i 0).testBit j))&&ops.length≤N+1&&kds.all (·≤3)
section
variable {P : Program} {n : Nat} {c : Cx} {opsA : Array Oper} {Q : Exit → Act → World → Prop}
theorem Ht (ops:List Oper)(F:Nat→Prop):∀(rest:List Oper) (acc:List Nat),(∀(t:Nat) o,rest[t]? =some o→∀e∈De o,F (acc.length+t)→F e)→
  (∀(j i:Nat),(acc.getD j 0).testBit i=true→F j→F i)→∀(j i:Nat),((LQ rest acc).getD j 0).testBit i=true→F j→F i
 | [],acc,_,h=>h
 | o::rest,acc,hr,h=>by
  unfold LQ;refine Ht ops F rest _ (λt o' ht e he hF=>hr (t+1) o' (by simpa using ht) e he (by simpa[Nat.add_assoc,Nat.add_comm 1 t] using hF)) (λj i hb hF=>?_)
  by_cases hj:j<acc.length
  ·refine h j i ?_ hF;simpa[Af5 hj] using hb
  ·by_cases hj2:j=acc.length
   ·subst hj2;simp only[AeO,List.getElem?_append_right (Afm _),Nat.sub_self,List.getElem?_cons_zero,Afq] at hb;have key:∀(es:List Nat) (s0:Nat),(es.foldl (λs e=>s||| 2 ^ e||| acc.getD e 0) s0).testBit i=true→s0.testBit i=true∨∃e∈es,e=i∨(acc.getD e 0).testBit i=true:=by
     intro es
     induction es with
     | nil=>intro s0 h0;exact .inl h0
     | cons e es ih=>
      intro s0 h0;rcases ih _ h0 with h1 | ⟨e',he',h1⟩
      ·simp only[Nat.testBit_or,Afj,Nat.testBit_two_pow,AeH] at h1;rcases h1 with(h1 | h1) | h1
       ·exact .inl h1
       ·exact .inr ⟨e,by simp,.inl h1⟩
       ·exact .inr ⟨e,by simp,.inr h1⟩
      ·exact .inr ⟨e',by simp[he'],h1⟩
    rcases key (De o) 0 hb with h0 | ⟨e,he,h1 | h1⟩
    ·simp at h0
    ·subst h1;exact hr 0 o rfl e he (by simpa using hF)
    ·exact h e i h1 (hr 0 o rfl e he (by simpa using hF))
   ·have:(acc++[(De o).foldl (λs e=>s||| 2 ^ e||| acc.getD e 0) 0]).getD j 0=0:=by
     rw[AeO,List.getElem?_eq_none (by simp;omega)];rfl
    rw[this] at hb;simp at hb
def PZ (P:Program)(n:Nat)(c:Cx)(opsA:Array Oper)(Q:Exit→Act→World→Prop)(ops:List Oper)(sp:List Sp)(l0:Fr)(All:List (List Ent)):Nat→List Oper→List (List Ent)→Prop
 | i,o::rest,H::H'::Hs=>
  (match (Es sp i).kd with
   | 0=>H'=H∧∀H,DJ P n c opsA Q (BZ ops sp (Es sp i).deps l0) H o (Es sp i).r H
   | 1=>H'=H∧DJ P n c opsA Q (BZ ops sp (Es sp i).deps l0) H o (Es sp i).r H
   | 3=>H'=H∧∀H∈All,DJ P n c opsA Q (BZ ops sp (Es sp i).deps l0) H o (Es sp i).r H
   | _=>DJ P n c opsA Q (BZ ops sp (Es sp i).deps l0) H o (Es sp i).r H')∧PZ P n c opsA Q ops sp l0 All (i+1) rest (H'::Hs)
 | _,[],[_]=>True
 | _,_,_=>False
theorem PZ.at {ops:List Oper}{sp:List Sp}{l0:Fr}{All:List (List Ent)}:∀{k:Nat} {rest:List Oper} {Hs:List (List Ent)},PZ P n c opsA Q ops sp l0 All k rest Hs→Hs.length=rest.length+1∧∀(t:Nat) o,rest[t]? =some o→
  (match (Es sp (k+t)).kd with
   | 0=>Hs.getD (t+1) []=Hs.getD t []∧∀H,DJ P n c opsA Q (BZ ops sp (Es sp (k+t)).deps l0) H o (Es sp (k+t)).r H
   | 1=>Hs.getD (t+1) []=Hs.getD t []∧DJ P n c opsA Q (BZ ops sp (Es sp (k+t)).deps l0) (Hs.getD t []) o (Es sp (k+t)).r (Hs.getD t [])
   | 3=>Hs.getD (t+1) []=Hs.getD t []∧∀H∈All,DJ P n c opsA Q (BZ ops sp (Es sp (k+t)).deps l0) H o (Es sp (k+t)).r H
   | _=>DJ P n c opsA Q (BZ ops sp (Es sp (k+t)).deps l0) (Hs.getD t []) o (Es sp (k+t)).r (Hs.getD (t+1) []))
 | k,o::rest,H::H'::Hs,⟨h1,h2⟩=>by
  obtain⟨hl,ih⟩:=PZ.at h2;refine⟨by simp at hl ⊢;omega,λt o' ht=>?_⟩
  cases t with
  | zero=>simp at ht;subst ht;simpa using h1
  | succ t=>
   have:=ih t o' (by simpa using ht);rw[show k+(t+1)=k+1+t from by omega];simpa using this
 | _,[],[_],_=>⟨rfl,λt o h=>by simp at h⟩
theorem K5:∀{l:Fr} {i:Nat} {r:Rp},look l i=some r→i∈EQ l
 | [],i,r,h=>by simp[look] at h
 | p::l,i,r,h=>by
  obtain⟨j,u⟩:=p;rw[Cw] at h
  split at h
  ·rename_i e;subst e;simp[EQ]
  ·simp only[EQ,AfA,Af4];exact .inr (K5 h)
theorem Lo {ops:List Oper}{sp:List Sp}{l0:Fr}{a:Act}{Z:Fz}(h0:Dg n l0 a Z):∀{ds:List Nat},(∀j∈ds,∀d,Co ops j=some d→∃v,a.tmps[d]? =some v∧(Es sp j).r.p Z v)→Dg n (BZ ops sp ds l0) a Z
 | [],_=>h0
 | j::ds,h=>by
  have ih:=Lo h0 (ds:=ds) (λj' hj'=>h j' (by simp[hj']));unfold BZ
  cases hd:Co ops j with
  | none=>exact ih
  | some d=>
   refine⟨ih.size,ih.defers,λi r hi=>?_⟩;rw[Cw] at hi
   split at hi
   ·rename_i e;subst e;simp at hi;subst hi;exact h j (by simp) d hd
   ·exact ih.tm i r hi
theorem NI {id:Nat}{pre last:List Oper}(sp:List Sp)(Hs:List (List Ent)){l0 l:Fr}{H:List Ent}(hm:P.follows .mixedOrders=true)
  (hB:okB n (pre++last) pre.length (EQ l0) (sp.map (·.deps)) (sp.map (·.kd))=true) (hl0:U4 l0 l) (hsp:sp.length=pre.length) (hH:Hs.getD 0 []=H)
  (hob:PZ P n c (pre++last).toArray Q (pre++last) sp l0 Hs 0 pre Hs)
  (h:WL P n c (pre++last).toArray Q last (BZ (pre++last) sp (List.range pre.length) l0) (Hs.getD pre.length [])):WC P n c (.region id (pre++last).toArray true) Q l H:=by
 intro a w Z ha hw;generalize hops:pre++last=ops at *;obtain⟨hHl,hat⟩:=hob.at;simp only[okB,AeI,Afw,List.mem_range,AeH] at hB;obtain⟨⟨⟨⟨⟨⟨b1,b2⟩,b3⟩,b4⟩,b5⟩,b6⟩,b7⟩:=hB;have hN:pre.length≤ops.length:=by rw[← hops];simp
 have hget:∀i,i<pre.length→ops[i]? =pre[i]?:=λi hi=>by rw[← hops,Af5 hi]
 have hkd:∀i,i<pre.length→(sp.map (·.kd)).getD i 0=(Es sp i).kd:=λi hi=>by
  simp[Es,AeO,Afr,AeN (show i<sp.length by omega)]
 have hdp:∀i,i<pre.length→(sp.map (·.deps)).getD i []=(Es sp i).deps:=λi hi=>by
  simp[Es,AeO,Afr,AeN (show i<sp.length by omega)]
 have hconst:∀(k b:Nat),b+k≤pre.length→(∀j,b≤j→j<b+k→(Es sp j).kd≠2)→Hs.getD (b+k) []=Hs.getD b []:=by
  intro k
  induction k with
  | zero=>intro b _ _;rfl
  | succ k ih=>
   intro b hb hj;have hlt:b+k<pre.length:=by omega
   have h1:=hat (b+k) pre[b+k] (AeN hlt);rw[Afu] at h1;have hk2:(Es sp (b+k)).kd≤3:=by
    have:=b7 ((sp.map (·.kd)).getD (b+k) 0) (by
     rw[AeO,AeN (by simp;omega)];exact List.getElem_mem _)
    rw[hkd _ hlt] at this;exact this
   have hne:=hj (b+k) (by omega) (by omega);have e1:Hs.getD (b+k+1) []=Hs.getD (b+k) []:=by
    match hq:(Es sp (b+k)).kd,h1 with
    | 0,h1=>exact h1.1
    | 1,h1=>exact h1.1
    | 2,_=>exact absurd hq hne
    | 3,h1=>exact h1.1
    | q+4,_=>omega
   rw[show b+(k+1)=b+k+1 from by omega,e1];exact ih b (by omega) (λj h1 h2=>hj j h1 (by omega))
 refine wp_region_any hm ?_;have main:∀(fuel:Nat) (listed:Array Bool) (a:Act) (w:World) (Z:Fz) (m:Nat),listed.size=ops.length→listed.toList.count false=fuel→m≤pre.length→
   St c (Hs.getD m []) Z w→Dg n l0 a Z→(∀j,j<pre.length→listed.getD j true=true→∀d,Co ops j=some d→∃v,a.tmps[d]? =some v∧(Es sp j).r.p Z v)→
   (∀j,j<pre.length→(Es sp j).kd=2→(listed.getD j true=true↔j<m))→(∀j o,ops[j]? =some o→listed.getD j true=true→∀e∈De o,listed.getD e true=true)→
   (∀j,pre.length≤j→j<ops.length→listed.getD j true=false)→wpAny P .any ops.toArray Q fuel listed a w:=by
  have rdy:∀(listed:Array Bool),listed.size=ops.length→Region.ready .any ops.toArray listed=[]→∀j,j<ops.length→listed.getD j true=true:=by
   intro listed hsz hr j
   induction j using Nat.strongRecOn with
   | ind j ih=>
    intro hj
    cases hb:listed.getD j true with
    | true=>rfl
    | false=>
     have:j∈Region.ready .any ops.toArray listed:=mem_ready.2 ⟨hb,ops[j],by simp[hj],λe he hbn=>by
      have h1:=b1 j hj;rw[AeO,AeN hj] at h1;have hlt:e.on<j:=h1 e.on (by
       simp only[De,Afq,List.mem_map,List.mem_filter];exact⟨e,⟨by simpa using he,hbn⟩,rfl⟩)
      have:=ih e.on hlt (by omega);rw[Array.getD_eq_getD_getElem?] at this ⊢;rw[Array.getElem?_eq_getElem (by omega)] at this ⊢;simpa using this⟩
     rw[hr] at this;cases this
  have fin:∀(listed:Array Bool) (a:Act) (w:World) (Z:Fz) (m:Nat),listed.size=ops.length→m≤pre.length→St c (Hs.getD m []) Z w→Dg n l0 a Z→(∀j,j<pre.length→listed.getD j true=true)→
    (∀j,j<pre.length→listed.getD j true=true→∀d,Co ops j=some d→∃v,a.tmps[d]? =some v∧(Es sp j).r.p Z v)→
    (∀j,j<pre.length→(Es sp j).kd=2→(listed.getD j true=true↔j<m))→wpList P ops.toArray Q last a w:=by
   intro listed a w Z m hsz hmN hst hag hall hv hloud;refine h a w Z (Lo hag (λj hj d hd=>hv j (by simpa using hj) (hall j (by simpa using hj)) d hd)) ?_;have:=hconst (pre.length-m) m (by omega) (λj h1 h2 h3=>by
    have:=(hloud j (by omega) h3).1 (hall j (by omega));omega)
   rw[show m+(pre.length-m)=pre.length from by omega] at this;rw[this];exact hst
  intro fuel
  induction fuel with
  | zero=>
   intro listed a w Z m hsz hcnt hmN hst hag hv hloud hcl hlast;have hall:∀j,j<ops.length→listed.getD j true=true:=λj hj=>by
    cases hb:listed.getD j true with
    | true=>rfl
    | false=>
     have:false∈listed.toList:=by
      rw[Array.getD_eq_getD_getElem?,Array.getElem?_eq_getElem (by omega)] at hb;simp at hb;rw[← hb];simp
     have:=List.count_pos_iff.2 this;omega
   have hl0':last=[]:=by
    cases last with
    | nil=>rfl
    | cons o r=>
     have hlt:pre.length<ops.length:=by rw[← hops];simp
     have:=hall pre.length hlt;rw[hlast pre.length (Afm _) hlt] at this;cases this
   subst hl0';refine⟨?_,fin listed a w Z m hsz hmN hst hag (λj hj=>hall j (by omega)) hv hloud⟩
   cases hr:Region.ready .any ops.toArray listed with
   | nil=>rfl
   | cons i r=>
    have hi:i∈Region.ready .any ops.toArray listed:=by rw[hr];simp
    obtain⟨h1,o,ho,_⟩:=mem_ready.1 hi;rw[hall i (by have:=(Array.getElem?_eq_some_iff.1 ho).1;simpa using this)] at h1;cases h1
  | succ fuel ih=>
   intro listed a w Z m hsz hcnt hmN hst hag hv hloud hcl hlast;have clo:∀(j i:Nat),((LQ ops []).getD j 0).testBit i=true→listed.getD j true=true→listed.getD i true=true:=
    Ht ops (λi=>listed.getD i true=true) ops [] (λt o ht e he hF=>hcl t o ht (by simpa using hF) e he) (λj i hb=>by simp at hb)
   refine⟨λhr=>?_,λi hi=>?_⟩
   ·have hall:=rdy listed hsz hr;have:listed.toList.count false=0:=by
     rw[List.count_eq_zero];intro hmem;obtain⟨k,hk⟩:=List.getElem?_of_mem hmem;have hkl:=(List.getElem?_eq_some_iff.1 hk).1;have:=hall k (by simpa[hsz] using hkl);rw[Array.getD_eq_getD_getElem?] at this;simp at hk this;rw[hk] at this;simp at this
    omega
   ·obtain⟨hun,o,ho,haft⟩:=mem_ready.1 hi;have ho':ops[i]? =some o:=by simpa using ho
    have hil:i<ops.length:=(List.getElem?_eq_some_iff.1 ho').1;have hbl:∀e∈De o,listed.getD e true=true:=λe he=>by
     simp only[De,List.mem_map,List.mem_filter] at he;obtain⟨x,⟨hx1,hx2⟩,rfl⟩:=he;have h3:=haft x (by simpa using hx1) hx2;rw[Array.getD_eq_getD_getElem?] at h3 ⊢
     cases hq:listed[x.on]? with
     | none=>rw[hq] at h3;cases h3
     | some b=>rw[hq] at h3;simpa using h3
    have hset:∀j,(listed.setIfInBounds i true).getD j true=true↔(j=i∨listed.getD j true=true):=λj=>by
     by_cases hj:i=j
     ·subst hj;have:i<listed.size:=by omega
      simp[this]
     ·rw[getD_set_ne true hj];constructor
      ·exact .inr
      ·rintro(h1 | h1)
       ·exact absurd h1.symm hj
       ·exact h1
    have hsz':(listed.setIfInBounds i true).size=ops.length:=by simpa using hsz
    have hcnt':(listed.setIfInBounds i true).toList.count false=fuel:=by
     have hlt:i<listed.size:=by omega
     have hfi:listed.toList[i]? =some false:=by
      rw[Array.getD_eq_getD_getElem?,Array.getElem?_eq_getElem hlt] at hun;simp at hun;simp[hlt,hun]
     rw[Array.toList_setIfInBounds];have h1:=List.count_set (a:=true) (b:=false) (l:=listed.toList) (i:=i) (by simpa using hlt);have h2:listed.toList[i]'(by simpa using hlt)=false:=by
      have:=List.getElem?_eq_some_iff.1 hfi;exact this.2
     rw[h1,h2,hcnt];rfl
    have hcl':∀j o,ops[j]? =some o→(listed.setIfInBounds i true).getD j true=true→∀e∈De o,(listed.setIfInBounds i true).getD e true=true:=λj o' hj hl e he=>by
     rw[hset] at hl ⊢;rcases hl with rfl | hl
     ·rw[ho'] at hj;simp at hj;subst hj;exact .inr (hbl e he)
     ·exact .inr (hcl j o' hj hl e he)
    unfold wpOp;have hoA:ops.toArray[i]? =some o:=ho;simp only[hoA]
    by_cases hiN:i<pre.length
    · -- one of those at the front
     have hpre:pre[i]? =some o:=by rw[← hget i hiN];exact ho'
     have h1:=hat i o hpre;rw[Afu] at h1;have hag':Dg n (BZ ops sp (Es sp i).deps l0) a Z:=Lo hag (λj hj d hd=>by
      have h3:=b3 i hiN;rw[hdp i hiN] at h3;have h4:=h3 j hj;rw[AeO,ho',Afq,List.contains_iff_mem] at h4;have hlj:=hbl j h4;have hji:j<i:=by
       have:=b1 i hil;rw[AeO,ho',Afq] at this;exact this j h4
      exact hv j (by omega) hlj d hd)
     have hdst:∀d,o.dst=some d→(d<n∧d ∉ EQ l0)∧∀j,j<pre.length→j≠i→Co ops j≠some d:=λd hd=>by
      have h3:=b2 i hiN;have:Co ops i=some d:=by simp[Co,ho',hd]
      rw[this] at h3;simp only[AeI,Afe,Afw,List.mem_range,AeH] at h3;refine⟨⟨h3.1.1,λhmem=>by rw[← List.contains_iff_mem] at hmem;rw[hmem] at h3;cases h3.1.2⟩,λj hj hne he=>?_⟩;have:=h3.2 j hj;simp[hne,he] at this
     have after:∀(v:Value) (w':World) (Z':Fz) (m':Nat),m'≤pre.length→Fz.le Z Z'→(o.dst≠none→(Es sp i).r.p Z' v)→St c (Hs.getD m' []) Z' w'→
       (∀j,j<pre.length→(Es sp j).kd=2→((listed.setIfInBounds i true).getD j true=true↔j<m'))→wpAny P .any ops.toArray Q fuel (listed.setIfInBounds i true) (a.put o.dst v) w':=by
      intro v w' Z' m' hm' hz hp hst' hloud';have hput:∀k u,a.tmps[k]? =some u→o.dst≠some k→(a.put o.dst v).tmps[k]? =some u:=λk u hk hne=>by
       cases hd:o.dst with
       | none=>simpa[Act.put] using hk
       | some d=>
        simp only[Act.put,Array.getElem?_setIfInBounds];rw[Afz (λe=>hne (by rw[hd,e]))];exact hk
      refine ih _ _ _ Z' m' hsz' hcnt' hm' hst' ⟨?_,?_,λk r hk=>?_⟩ (λj hj hl d hd=>?_) hloud' hcl' (λj h1 h2=>?_)
      ·cases o.dst<;>simp[Act.put,hag.size]
      ·cases o.dst<;>simp[Act.put,hag.defers]
      ·obtain⟨u,hu,hpu⟩:=hag.tm k r hk;exact⟨u,hput k u hu (λe=>(hdst k e).1.2 (K5 hk)),r.mono hz hpu⟩
      ·by_cases hji:j=i
       ·subst hji;have hod:o.dst=some d:=by simpa[Co,ho'] using hd
        refine⟨v,?_,hp (by simp[hod])⟩;have hdn:d<a.tmps.size:=by rw[hag.size];exact(hdst d hod).1.1
        simp[Act.put,hod,hdn]
       ·rw[hset] at hl;rcases hl with hl | hl
        ·exact absurd hl hji
        ·obtain⟨u,hu,hpu⟩:=hv j hj hl d hd;exact⟨u,hput d u hu (λe=>(hdst d e).2 j hj hji hd),(Es sp j).r.mono hz hpu⟩
      ·rw[getD_set_ne true (by omega)];exact hlast j h1 h2
     have loudSame:(Es sp i).kd≠2→∀j,j<pre.length→(Es sp j).kd=2→((listed.setIfInBounds i true).getD j true=true↔j<m):=λhne j hj hk=>by
      rw[hset,← hloud j hj hk];constructor
      ·rintro(h1 | h1)
       ·subst h1;exact absurd hk hne
       ·exact h1
      ·exact .inr
     have level:(Es sp i).kd≠0∧(Es sp i).kd≠3→Hs.getD i []=Hs.getD m []∧∀j,j<pre.length→(Es sp j).kd=2→j≠i→(listed.getD j true=true↔j<i):=λhne=>by
      have ord:∀j,j<pre.length→(Es sp j).kd=2→j≠i→(listed.getD j true=true↔j<i):=λj hj hk hji=>by
       have h3:=b4 i hiN;rw[hkd i hiN,Afj,Afj,beq_iff_eq,beq_iff_eq] at h3;rcases h3 with(h3 | h3) | h3
       ·exact absurd h3 hne.1
       ·exact absurd h3 hne.2
       ·rw[Afw] at h3;have h4:=h3 j (by simpa using hj);rw[hkd j hj,hk] at h4;simp only[bne_self_eq_false,AeS,Afj,beq_iff_eq,hji,false_or] at h4
        by_cases hlt:j<i
        ·rw[Af6 hlt] at h4;have:listed.getD j true=true:=by
          have hcl2:∀(k q:Nat),((LQ ops []).getD k 0).testBit q=true→(k=i∨listed.getD k true=true)→(q=i∨listed.getD q true=true):=
           Ht ops (λk=>k=i∨listed.getD k true=true) ops [] (λt o' ht e he hF=>by
            rcases hF with hF | hF
            ·simp at hF;subst hF;rw[ho'] at ht;simp at ht;subst ht;exact .inr (hbl e he)
            ·exact .inr (hcl t o' ht (by simpa using hF) e he)) (λj i hb=>by simp at hb)
          rcases hcl2 i j h4 (.inl rfl) with h5 | h5
          ·exact absurd h5 hji
          ·exact h5
         exact⟨λ_=>hlt,λ_=>this⟩
        ·rw[Afz hlt] at h4;refine⟨λh5=>?_,λh5=>absurd h5 hlt⟩;have:=clo j i h4 h5;rw[this] at hun;cases hun
      refine⟨?_,ord⟩;rcases Nat.le_total m i with hmi | hmi
      ·have:=hconst (i-m) m (by omega) (λj h1 h2 h3=>by
        have h4:=(ord j (by omega) h3 (by omega)).2 (by omega);have:=(hloud j (by omega) h3).1 h4;omega)
       rw[show m+(i-m)=i from by omega] at this;exact this
      ·have:=hconst (m-i) i (by omega) (λj h1 h2 h3=>by
        have h4:=(hloud j (by omega) h3).2 (by omega)
        by_cases hji:j=i
        ·subst hji;rw[h4] at hun;cases hun
        ·have:=(ord j (by omega) h3 hji).1 h4;omega)
       rw[show i+(m-i)=m from by omega] at this;exact this.symm
     have step:∀H',DJ P n c ops.toArray Q (BZ ops sp (Es sp i).deps l0) (Hs.getD m []) o (Es sp i).r H'→(∃m',m'≤pre.length∧H'=Hs.getD m' []∧∀j,j<pre.length→(Es sp j).kd=2→((listed.setIfInBounds i true).getD j true=true↔j<m'))→
       (if Region.wanted o (yielded ops.toArray a.tmps) then o.wp P a w (wpAny P .any ops.toArray Q fuel (listed.setIfInBounds i true)) Q∨(o.asks P a w∧LetsOut Q) else wpAny P .any ops.toArray Q fuel (listed.setIfInBounds i true) (a.put o.dst undef) w):=λH' hok ⟨m',hm',hHm,hl'⟩=>by
      obtain⟨k1,k2⟩:=hok a w Z (wpAny P .any ops.toArray Q fuel (listed.setIfInBounds i true)) hag' hst (λv w' Z' hz hp hs=>after v w' Z' m' hm' hz (λ_=>hp) (by rw[← hHm];exact hs) hl')
      split
      ·rename_i hw';exact .inl (k1 hw')
      ·rename_i hw';exact k2 (by simpa using hw')
     have hk2:(Es sp i).kd≤3:=by
      have:=b7 ((sp.map (·.kd)).getD i 0) (by
       rw[AeO,AeN (by simp;omega)];exact List.getElem_mem _)
      rw[hkd _ hiN] at this;exact this
     match hq:(Es sp i).kd,h1 with
     | 0,h1=>exact step _ (h1.2 _) ⟨m,hmN,rfl,loudSame (by omega)⟩
     | 1,h1=>
      obtain⟨e1,e2⟩:=level ⟨by omega,by omega⟩;refine step _ (by rw[← e1];exact h1.2) ⟨m,hmN,e1,loudSame (by omega)⟩
     | 2,h1=>
      obtain⟨e1,e2⟩:=level ⟨by omega,by omega⟩;refine step _ (by rw[← e1];exact h1) ⟨i+1,by omega,rfl,λj hj hk=>?_⟩;rw[hset]
      by_cases hji:j=i
      ·subst hji;simp
      ·rw[e2 j hj hk hji];simp[hji];omega
     | 3,h1=>exact step _ (h1.2 _ (by
      rw[AeO,AeN (by omega)];exact List.getElem_mem _)) ⟨m,hmN,rfl,loudSame (by omega)⟩
     | q+4,_=>omega
    · -- the last one
     have hNi:i=pre.length:=by omega
     have hlast1:∃r,last=o::r:=by
      cases last with
      | nil=>rw[← hops] at hil;simp at hil;omega
      | cons o' r=>
       rw[← hops,hNi] at ho';simp at ho';exact⟨r,by rw[ho']⟩
     obtain⟨r,rfl⟩:=hlast1;have hr:r=[]:=by
      have:=b6;rw[← hops] at this;simp at this
      cases r with
      | nil=>rfl
      | cons _ _=>simp at this
     subst hr;have hall:∀j,j<pre.length→listed.getD j true=true:=λj hj=>by
      have hcl2:∀(k q:Nat),((LQ ops []).getD k 0).testBit q=true→(k=i∨listed.getD k true=true)→(q=i∨listed.getD q true=true):=
       Ht ops (λk=>k=i∨listed.getD k true=true) ops [] (λt o' ht e he hF=>by
        rcases hF with hF | hF
        ·simp at hF;subst hF;rw[ho'] at ht;simp at ht;subst ht;exact .inr (hbl e he)
        ·exact .inr (hcl t o' ht (by simpa using hF) e he)) (λj i hb=>by simp at hb)
      have h5:=b5 i hil;simp only[Afj,AeH,Afw,List.mem_range] at h5;rcases h5 with h5 | h5
      ·omega
      ·rcases hcl2 i j (h5 j hj) (.inl rfl) with h6 | h6
       ·omega
       ·exact h6
     have hf:=fin listed a w Z m hsz hmN hst hag hall hv hloud;have kk:∀a' w',Q .normal a' w'→wpAny P .any ops.toArray Q fuel (listed.setIfInBounds i true) a' w':=λa' w' hq=>by
      have hall':∀j,j<ops.length→(listed.setIfInBounds i true).getD j true=true:=λj hj=>by
       rw[hset]
       by_cases hji:j=i
       ·exact .inl hji
       ·refine .inr (hall j ?_);have:ops.length=pre.length+1:=by rw[← hops];simp
        omega
      have hnr:Region.ready .any ops.toArray (listed.setIfInBounds i true)=[]:=by
       cases hr:Region.ready .any ops.toArray (listed.setIfInBounds i true) with
       | nil=>rfl
       | cons k r=>
        have hk:k∈Region.ready .any ops.toArray (listed.setIfInBounds i true):=by rw[hr];simp
        obtain⟨h1,o2,ho2,_⟩:=mem_ready.1 hk;rw[hall' k (by have:=(Array.getElem?_eq_some_iff.1 ho2).1;simpa using this)] at h1;cases h1
      cases fuel with
      | zero=>exact⟨hnr,hq⟩
      | succ f=>exact⟨λ_=>hq,λk hk=>by rw[hnr] at hk;cases hk⟩
     simp only[wpList] at hf
     split
     ·rename_i hw'
      rw[Af6 hw'] at hf;exact hf.imp (λh=>Oper.wp_mono kk h) (λh=>h)
     ·rename_i hw'
      rw[Afz hw'] at hf;exact kk _ _ hf
 have e0:∀j,j<ops.length→(Array.replicate ops.length false).getD j true=false:=λj hj=>by simp[hj]
 have hsz0:ops.toArray.size=ops.length:=by simp
 rw[hsz0];refine main ops.length (Array.replicate ops.length false) a _ Z 0 (by simp) (by simp) (Afv _) (by rw[hH];exact hw.drawn _) (ha.subL hl0) (λj hj hl=>?_) (λj hj _=>?_) (λj o hj hl=>?_) (λj _ h2=>e0 j h2)
 ·rw[e0 j (by omega)] at hl;cases hl
 ·rw[e0 j (by omega)];simp
 ·rw[e0 j (List.getElem?_eq_some_iff.1 hj).1] at hl;cases hl
section
variable {ops : List Oper} {sp : List Sp} {l0 l : Fr} {H H' : List Ent} {Hs All : List (List Ent)} {i : Nat} {o : Oper} {rest all : List Oper}
theorem Jk (hk:(Es sp i).kd=0)(h:∀H,DJ P n c opsA Q (BZ all sp (Es sp i).deps l0) H o (Es sp i).r H)(hr:PZ P n c opsA Q all sp l0 All (i+1) rest (H::Hs)):PZ P n c opsA Q all sp l0 All i (o::rest) (H::H::Hs):=by
 refine⟨?_,hr⟩;rw[hk];exact⟨rfl,h⟩
theorem Adz (hk:(Es sp i).kd=1)(h:DJ P n c opsA Q (BZ all sp (Es sp i).deps l0) H o (Es sp i).r H)(hr:PZ P n c opsA Q all sp l0 All (i+1) rest (H::Hs)):PZ P n c opsA Q all sp l0 All i (o::rest) (H::H::Hs):=by
 refine⟨?_,hr⟩;rw[hk];exact⟨rfl,h⟩
theorem DZ (hk:(Es sp i).kd=2)(h:DJ P n c opsA Q (BZ all sp (Es sp i).deps l0) H o (Es sp i).r H')(hr:PZ P n c opsA Q all sp l0 All (i+1) rest (H'::Hs)):PZ P n c opsA Q all sp l0 All i (o::rest) (H::H'::Hs):=by
 refine⟨?_,hr⟩;rw[hk];exact h
theorem EK:PZ P n c opsA Q all sp l0 All i [] [H]:=trivial
theorem all_nil {p:List Ent→Prop}:∀H∈rle [],p H:=λ_ h=>by cases h
theorem all_cons {p:List Ent→Prop}{k:Nat}{A:List Ent}{l:List (Nat×List Ent)}(h:p A)(hr:∀H∈rle l,p H):∀H∈rle ((k,A)::l),p H:=λH hH=>by
 rcases List.mem_append.1 hH with h' | h'
 ·rw[List.eq_of_mem_replicate h'];exact h
 ·exact hr H h'
theorem T3 (hk:(Es sp i).kd=3)(h:∀H∈All,DJ P n c opsA Q (BZ all sp (Es sp i).deps l0) H o (Es sp i).r H)(hr:PZ P n c opsA Q all sp l0 All (i+1) rest (H::Hs)):PZ P n c opsA Q all sp l0 All i (o::rest) (H::H::Hs):=by
 refine⟨?_,hr⟩;rw[hk];exact⟨rfl,h⟩
def NB:List Oper→List Sp→Fr→Fr
 | o::os,s::sp,l=>match o.dst with
  | some d=>(d,s.r)::NB os sp l
  | none=>NB os sp l
 | _,_,l=>l
theorem SE {all:List Oper}{sp:List Sp}{l0:Fr}:∀(os:List Oper) (ss:List Sp) (k:Nat),os=all.drop k→ss=sp.drop k→ss.length=os.length→BZ all sp (List.range' k os.length) l0=NB os ss l0
 | [],_,_,_,_,_=>by cases ‹List Sp›<;>rfl
 | o::os,[],_,_,_,h=>by simp at h
 | o::os,s::ss,k,ho,hs,h=>by
  have e1:all[k]? =some o:=by
   have:=congrArg (·[0]?) ho;simp at this;exact this.symm
  have e2:sp[k]? =some s:=by
   have:=congrArg (·[0]?) hs;simp at this;exact this.symm
  have ih:=SE (l0:=l0) os ss (k+1) (by have:=congrArg List.tail ho;simpa using this) (by have:=congrArg List.tail hs;simpa using this) (by simpa using h);simp only[AeZ,List.range'_succ];unfold BZ NB;rw[ih];simp only[Co,Es,e1,e2,Option.bind_some,AeO,Afq]
  cases o.dst<;>rfl
structure Kz (ks:List Nat) (os:List Oper) (sp:List Sp) (l0 l1:Fr):Prop where
 go:Kp ks (NB os sp l0) l1
theorem AcH {ks:List Nat}{d:Nat}{r:Rp}{ty:TypeId}{pos:String}{af:Array Edge}{op:Op}{g:Option (Nat×Bool)}{os:List Oper}{ds:List Nat}{kd:Nat}{sp:List Sp}{l0 l1:Fr}(h:ks.contains d=true)(t:Kz ks os sp l0 l1) :
  Kz ks ({ dst:=some d,op:=op,type:=ty,pos:=pos,after:=af,guard:=g }::os) (⟨ds,r,kd⟩::sp) l0 ((d,r)::l1):=⟨LL h t.go⟩
theorem AcJ {ks:List Nat}{d:Nat}{r:Rp}{ty:TypeId}{pos:String}{af:Array Edge}{op:Op}{g:Option (Nat×Bool)}{os:List Oper}{ds:List Nat}{kd:Nat}{sp:List Sp}{l0 l1:Fr}(h:ks.contains d=false)(t:Kz ks os sp l0 l1) :
  Kz ks ({ dst:=some d,op:=op,type:=ty,pos:=pos,after:=af,guard:=g }::os) (⟨ds,r,kd⟩::sp) l0 l1:=⟨M9 h t.go⟩
theorem AcI {ks:List Nat}{ty:TypeId}{pos:String}{af:Array Edge}{op:Op}{g:Option (Nat×Bool)}{os:List Oper}{s:Sp}{sp:List Sp}{l0 l1:Fr}(t:Kz ks os sp l0 l1) :
  Kz ks ({ dst:=none,op:=op,type:=ty,pos:=pos,after:=af,guard:=g }::os) (s::sp) l0 l1:=⟨t.go⟩
theorem AcK {ks:List Nat}{l0 l1:Fr}(t:Kp ks l0 l1):Kz ks [] [] l0 l1:=⟨t⟩
theorem Ex {id:Nat}{os:List Oper}{l0 l1:Fr}(ks0:List Nat)(sp:List Sp)(Hs:List (List Ent))(ks:List Nat){H1:List Ent}
  (hob:PZ P n c os.toArray Q os sp l0 Hs 0 os Hs) (h:WK n c (Q .normal) l1 H1)
  (h0:Kp ks0 l l0:=by repeat (first | exact Oi | (apply LL;rfl) | (apply M9;rfl)))
  (hz:Kz ks os sp l0 l1:=by repeat (first | (apply AcH;rfl) | (apply AcJ;rfl) | apply AcI | apply AcK | exact Oi | (apply LL;rfl) | (apply M9;rfl)))
  (hm:P.follows .mixedOrders=true:=by kernel_rfl) (hB:okB n os os.length (EQ l0) (sp.map (·.deps)) (sp.map (·.kd))=true:=by kernel_rfl)
  (hsp:sp.length=os.length:=by rfl) (hH:Hs.getD 0 []=H:=by rfl) (hH1:Hs.getD os.length []=H1:=by rfl):WC P n c (.region id os.toArray true) Q l H:=by
 have hk:WK n c (Q .normal) (BZ os sp (List.range os.length) l0) (Hs.getD os.length []):=λa w Z ha hw=>h a w Z (ha.subL (by
   have e:=SE (all:=os) (sp:=sp) (l0:=l0) os sp 0 (by simp) (by simp) hsp;rw[List.range_eq_range',e];exact hz.go.one)) (by rw[← hH1];exact hw)
 have:=NI (Q:=Q) (id:=id) (pre:=os) (last:=[]) sp Hs (l0:=l0) (l:=l) (H:=H) hm (by simpa using hB) h0.one hsp hH (by simpa using hob) (Ah (by simpa using hk));simpa using this
theorem KP {id:Nat}{os:List Oper}{l0 l1:Fr}(N:Nat)(ks0:List Nat)(sp:List Sp)(Hs:List (List Ent))(ks:List Nat){H1:List Ent}
  (hob:PZ P n c os.toArray Q os sp l0 Hs 0 (os.take N) Hs) (h:WL P n c os.toArray Q (os.drop N) l1 H1)
  (h0:Kp ks0 l l0:=by repeat (first | exact Oi | (apply LL;rfl) | (apply M9;rfl)))
  (hz:Kz ks (os.take N) sp l0 l1:=by repeat (first | (apply AcH;rfl) | (apply AcJ;rfl) | apply AcI | apply AcK | exact Oi | (apply LL;rfl) | (apply M9;rfl)))
  (hm:P.follows .mixedOrders=true:=by kernel_rfl) (hN:Nat.ble N os.length=true:=by rfl) (hB:okB n os N (EQ l0) (sp.map (·.deps)) (sp.map (·.kd))=true:=by kernel_rfl)
  (hsp:sp.length=N:=by rfl) (hH:Hs.getD 0 []=H:=by rfl) (hH1:Hs.getD N []=H1:=by rfl):WC P n c (.region id os.toArray true) Q l H:=by
 have hN':N≤os.length:=by simpa using hN
 have hl:(os.take N).length=N:=by simp[hN']
 have hk:WL P n c os.toArray Q (os.drop N) (BZ os sp (List.range N) l0) (Hs.getD N []):=λa w Z ha hw=>h a w Z (ha.subL (by
  have key:∀M,M≤N→BZ os sp (List.range' (N-M) M) l0=NB ((os.take N).drop (N-M)) (sp.drop (N-M)) l0:=by
   intro M
   induction M with
   | zero=>intro _;simp[hsp,BZ,NB,List.drop_of_length_le,hl]
   | succ M ih=>
    intro hM;have ih:=ih (by omega);have e1:(os.take N).drop (N-(M+1))=(os[N-(M+1)]'(by omega))::(os.take N).drop (N-M):=by
     rw[List.drop_eq_getElem_cons (by omega)];simp[show N-(M+1)+1=N-M from by omega]
    have e2:sp.drop (N-(M+1))=(sp[N-(M+1)]'(by omega))::sp.drop (N-M):=by
     rw[List.drop_eq_getElem_cons (by omega)];simp[show N-(M+1)+1=N-M from by omega]
    rw[List.range'_succ,show N-(M+1)+1=N-M from by omega,e1,e2];unfold BZ NB;rw[ih];simp only[Co,Es,AeO,AeN (show N-(M+1)<os.length from by omega),AeN (show N-(M+1)<sp.length from by omega),Option.bind_some,Afq]
    cases(os[N-(M+1)]'(by omega)).dst<;>rfl
  have:=key N (Afm _);simp only[Nat.sub_self,List.drop_zero] at this;rw[List.range_eq_range',this];exact hz.go.one)) (by rw[← hH1];exact hw)
 have:=NI (P:=P) (n:=n) (c:=c) (Q:=Q) (id:=id) (pre:=os.take N) (last:=os.drop N) sp Hs (l0:=l0) (l:=l) (H:=H) hm (by rw[AfB,hl];exact hB) h0.one (by rw[hl];exact hsp) hH (by rw[AfB];exact hob) (by rw[AfB,hl];exact hk)
 rwa [AfB] at this
end
section
variable {l : Fr} {H H' : List Ent} {d : Nat} {op : Op} {ty : TypeId} {pos : String} {af : Array Edge} {r : Rp}
theorem Ef (hr:B4 P n c l H { dst:=some d,op:=op,type:=ty,pos:=pos,after:=af,guard:=none } r):DJ P n c opsA Q l H { dst:=some d,op:=op,type:=ty,pos:=pos,after:=af,guard:=none } r H:=λa w Z K ha hw hK=>
 ⟨λ_=>by
  obtain⟨v,hv,he⟩:=hr a w Z ha hw;unfold Oper.wp;rw[he];exact hK v w Z (Fz.le.refl _) hv hw,λh=>by simp[Region.wanted] at h⟩
theorem QP {d:Option Nat}{j dj:Nat}{want b:Bool}(hj:Ea opsA j=some dj)(hv:look l dj=some (rB b))(hb:b=want)
  (h:DJ P n c opsA Q l H { dst:=d,op:=op,type:=ty,pos:=pos,after:=af,guard:=none } r H'):DJ P n c opsA Q l H { dst:=d,op:=op,type:=ty,pos:=pos,after:=af,guard:=some (j,want) } r H':=λa w Z K ha hw hK=>by
 obtain⟨h1,_⟩:=h a w Z K ha hw hK;have hy:=Ed ha hj hv;subst hb;refine⟨λ_=>h1 (by simp[Region.wanted]),λh2=>?_⟩;simp[Region.wanted,hy] at h2
theorem Ac3 {d:Option Nat}{j dj:Nat}{want b:Bool}(hj:Ea opsA j=some dj)(hv:look l dj=some (rB b))(hb:b = !want):DJ P n c opsA Q l H { dst:=d,op:=op,type:=ty,pos:=pos,after:=af,guard:=some (j,want) } (rv undef) H:=λa w Z K ha hw hK=>by
 have hy:=Ed ha hj hv;subst hb;refine⟨λh2=>?_,λ_=>hK undef w Z (Fz.le.refl _) rfl hw⟩;simp[Region.wanted,hy] at h2
theorem Zf {d:Option Nat}{j dj:Nat}{want:Bool}(hj:Ea opsA j=some dj)(hv:look l dj=some (rv undef)):DJ P n c opsA Q l H { dst:=d,op:=op,type:=ty,pos:=pos,after:=af,guard:=some (j,want) } (rv undef) H:=λa w Z K ha hw hK=>by
 have hy:=Hu ha hj hv;refine⟨λh2=>?_,λ_=>hK undef w Z (Fz.le.refl _) rfl hw⟩;simp[Region.wanted,hy] at h2
theorem oq {all:List Oper}{sp:List Sp}{l0:Fr}{i:Nat}{rest:List Oper}{Hs All:List (List Ent)}{c:Cx}
  (hr:∀{H},B4 P n c (BZ all sp (Es sp i).deps l0) H { dst:=some d,op:=op,type:=ty,pos:=pos,after:=af,guard:=none } (Es sp i).r)
  (h:PZ P n c opsA Q all sp l0 All (i+1) rest (H::Hs)) (hk:(Es sp i).kd=0:=by rfl):PZ P n c opsA Q all sp l0 All i ({ dst:=some d,op:=op,type:=ty,pos:=pos,after:=af,guard:=none }::rest) (H::H::Hs):=Jk hk (λ_=>Ef hr) h
theorem of {all:List Oper}{sp:List Sp}{l0:Fr}{i:Nat}{rest:List Oper}{Hs All:List (List Ent)}{c:Cx}
  (hr:B4 P n c (BZ all sp (Es sp i).deps l0) H { dst:=some d,op:=op,type:=ty,pos:=pos,after:=af,guard:=none } (Es sp i).r)
  (h:PZ P n c opsA Q all sp l0 All (i+1) rest (H::Hs)) (hk:(Es sp i).kd=1:=by rfl):PZ P n c opsA Q all sp l0 All i ({ dst:=some d,op:=op,type:=ty,pos:=pos,after:=af,guard:=none }::rest) (H::H::Hs):=Adz hk (Ef hr) h
theorem on {d:Option Nat}{all:List Oper}{sp:List Sp}{l0:Fr}{i:Nat}{rest:List Oper}{Hs All:List (List Ent)}{c:Cx}{j dj:Nat}{want b:Bool}(hb:b=want)
  (h:PZ P n c opsA Q all sp l0 All i ({ dst:=d,op:=op,type:=ty,pos:=pos,after:=af,guard:=none }::rest) (H::H'::Hs))
  (hj:Ea opsA j=some dj:=by rfl) (hv:look (BZ all sp (Es sp i).deps l0) dj=some (rB b):=by rfl):PZ P n c opsA Q all sp l0 All i ({ dst:=d,op:=op,type:=ty,pos:=pos,after:=af,guard:=some (j,want) }::rest) (H::H'::Hs):=by
 obtain⟨h1,h2⟩:=h;refine⟨?_,h2⟩;revert h1
 split
 ·exact λh1=>⟨h1.1,λH=>QP hj hv hb (h1.2 H)⟩
 ·exact λh1=>⟨h1.1,QP hj hv hb h1.2⟩
 ·exact λh1=>⟨h1.1,λH hH=>QP hj hv hb (h1.2 H hH)⟩
 ·exact λh1=>QP hj hv hb h1
theorem Gp {α:Type}{t e sz:Nat}{ys:List α}{enc:α→List Rp}{len:Nat}{parts:Array (Nat×Operand)}{xs:List Operand}{rs:List Rp}{css:List (List Rp)}{zz:Value}(ht:P.underlying t=some (.slice e))(hz:∀w,(sizeOf e).run P w = .ok sz w)(hzv:∀w,(zeroValue e).run P w = .ok zz w)
  (hparts:parts.toList=(xs.zipIdx 0).map λp=>(p.2,p.1)) (hlen:ys.length=len) (hv:MT l xs=some rs) (hc:Qb H rs css) (hcs:css=ys.map enc) (henc:∀z,(enc z).length=sz) (hsz:Nat.blt 0 sz=true) (hle:Nat.ble (len*sz) 16777216=true):DJ P n c opsA Q l H { dst:=some d,op:=.buildSlice t len parts,type:=ty,pos:=pos,after:=af,guard:=none } (AO sz (ys.map enc)) H:=λa w Z K ha hw hK=>
 ⟨λ_=>by
  have hall:=GS ha hv;obtain⟨h1,h2,h3⟩:=hc.all hw hall;have hsz':0<sz:=by simpa using hsz
  have hle' : ¬ 16777216<len*sz:=by simpa using hle
  have hxl:(xs.map a.eval).length=len:=by rw[← h2,hcs,Afi,hlen]
  have hcell:∀v∈xs.map a.eval,v.cells.size=sz:=λv hv'=>by
   obtain⟨i,hi⟩:=List.getElem?_of_mem hv';have hil:=(List.getElem?_eq_some_iff.1 hi).1;have hil2:i<css.length:=by omega
   rw[h3 i css[i] v (AeN hil2) hi];have:css[i]∈ys.map enc:=by rw[← hcs];exact List.getElem_mem hil2
   obtain⟨z,_,hz'⟩:=List.mem_map.1 this;rw[← hz'];exact henc z
  have hflen:((xs.map a.eval).flatMap λv=>v.cells.toList).length=len*sz:=by
   rw[h1.length,Jw (sz:=sz) (λc hc'=>by rw[hcs] at hc';obtain⟨z,_,hz'⟩:=List.mem_map.1 hc';rw[← hz'];exact henc z),hcs,Afi,hlen]
  have hpe:(parts.map λ(i,x)=>(i,a.eval x)).toList=((xs.map a.eval).zipIdx 0).map λp=>(p.2,p.1):=by
   rw[Array.toList_map,hparts,List.zipIdx_map,AfC,AfC];rfl
  have hrun:(Instr.buildSlice t len (parts.map λ(i,x)=>(i,a.eval x))).run P w = .ok (.slice (some ⟨w.heap.size,0,none⟩) len len) (w.alloc (.cells ((xs.map a.eval).flatMap λv=>v.cells.toList).toArray e)):=by
   refine YN ht hz hzv hle w ?_;rw[hpe]
   by_cases h0:len*sz=0
   ·have:len=0:=by
     rcases Nat.mul_eq_zero.1 h0 with h | h
     ·exact h
     ·omega
    subst this;have hx0:xs=[]:=by simpa using Afp (by simpa using hxl)
    subst hx0;simp[Instr.fill]
   ·simp only[h0,Afh];exact Great.fill_whole hsz' (xs.map a.eval) _ hcell (by rw[hxl];simp)
  have hal:St c (.row (.slice (some ⟨w.heap.size,0,none⟩) len len) e sz (ys.map enc)::H) Z (w.alloc (.cells ((xs.map a.eval).flatMap λv=>v.cells.toList).toArray e)):=by
   refine hw.alloc _ (e:=.row (.slice (some ⟨w.heap.size,0,none⟩) len len) e sz (ys.map enc)) ⟨?_,(xs.map a.eval).flatMap (λv=>v.cells.toList),⟨?_,.inr ⟨w.heap.size,len,_,?_,Afv _,heap_alloc_new w _,?_,?_,?_,?_⟩⟩,?_⟩ (by simp[Ent.foot,Value.ownBlock])
   ·intro cl hcl;obtain⟨z,_,hz'⟩:=List.mem_map.1 hcl;rw[← hz'];exact henc z
   ·rw[hflen,Afi,hlen]
   ·rw[Afi,hlen]
   ·rw[Afi,hlen];exact Afm _
   ·have:len≤len*sz:=Nat.le_mul_of_pos_right _ hsz';simp only[maxLen];omega
   ·simpa using hflen
   ·rw[Afi,hlen,← hflen];exact List.take_length
   ·rw[← hcs];exact h1
  obtain⟨Z',hz',hst,hsl⟩:=hal.freeze (i:=0) rfl;unfold Oper.wp;rw[show(execOp a.eval { dst:=some d,op:=.buildSlice t len parts,type:=ty,pos:=pos,after:=af,guard:=none }).run P w = .ok (.value (.slice (some ⟨w.heap.size,0,none⟩) len len)) (w.alloc (.cells ((xs.map a.eval).flatMap λv=>v.cells.toList).toArray e)) from by simp[execOp,hrun]];exact hK _ _ Z' hz' hsl hst,λh=>by simp[Region.wanted] at h⟩
theorem T2 {f:FuncId}{args:List Operand}{ats:Array TypeId}{rs:List Rp}{r r':Rp}(hcall:∀(as1:Array Value) (w:World),(callFunc f as1).run P w = .ok (.enter f as1) w)(hv:MT l args=some rs)
  (hc:KL P c.E f rs r') (hr:r'=r):DJ P n c opsA Q l H { dst:=some d,op:=.call { callee:=.value (.func f),args:=args.toArray,argTypes:=ats },type:=ty,pos:=pos,after:=af,guard:=none } r H:=λa w Z K ha hw hK=>
 ⟨λ_=>by
  unfold Oper.wp;rw[E9 rfl hcall w];refine(hc w Z _ (GS ha hv) (St.enter (Hin:=[]) (Hr:=H) hw)).mono ?_;rintro e w' ⟨r2,v,Ho,Z',rfl,⟨rfl,rfl⟩,hr2,hs⟩;subst hr;exact hK v w' Z' hs.le hr2 (by simpa using hw.call0 hs),λh=>by simp[Region.wanted] at h⟩
def AbK (P:Program)(n:Nat)(c:Cx)(l:Fr)(H:List Ent)(o:Oper)(H':List Ent):Prop:=∀a w Z,Dg n l a Z→St c H Z w→∃w',(execOp a.eval o).run P w = .ok .skip w'∧St c H' Z w'
theorem HO (hr:AbK P n c l H { dst:=none,op:=op,type:=ty,pos:=pos,after:=af,guard:=none } H'):DJ P n c opsA Q l H { dst:=none,op:=op,type:=ty,pos:=pos,after:=af,guard:=none } (rv undef) H':=λa w Z K ha hw hK=>
 ⟨λ_=>by
  obtain⟨w',he,hs⟩:=hr a w Z ha hw;unfold Oper.wp;rw[he];exact hK undef w' Z (Fz.le.refl _) rfl hs,λh=>by simp[Region.wanted] at h⟩
end
section
variable {ops : Array Oper} {rest : List Oper} {l : Fr} {H H' : List Ent} {d : Nat} {d' : Option Nat} {x y : Operand} {ty t t' e : TypeId} {pos : String} {af : Array Edge} {g : Option (Nat × Bool)} {v u : Value} {r : Rp} {sz : Nat}
theorem Da {i b off:Nat}{cs:List Rp}(hag:∀w,(sizeOf t).run P w = .ok 1 w)(hx:ev l x=some (rv (.pointer (some ⟨b,off,none⟩))))(hy:ev l y=some r)(hv:Q4 H r)
  (hi:H[i]? =some (.blk b cs e)) (hlt:Nat.blt off cs.length=true) {cs':List Rp} (hcs:cs.set off r=cs') (hH:H.set i (.blk b cs' e)=H'):AbK P n c l H { dst:=none,op:=.store t x y,type:=ty,pos:=pos,after:=af,guard:=none } H':=λa w Z ha hw=>by
  obtain⟨us,hb,h2⟩:=hw.ent hi;have hr:=ha.ev hy;have hone:=hv c Z w _ hw hr;have hlen:=h2.length;have hlt':off<us.length:=by rw[hlen];simpa using hlt
  have h1:=run_storeCells_at P b off e [a.eval y] 0 us.toArray w hb (by simp;omega) (by simpa using hone);have hcv:=B1 hone;have h3:us.take off++[a.eval y]++us.drop (off+1)=us.set off (a.eval y):=by
   simp[List.set_eq_take_append_cons_drop,hlt']
  simp only[Nat.add_zero,AeZ,Af7,Afu] at h1;rw[h3] at h1;refine⟨w.setRow b (us.set off (a.eval y)).toArray,?_,?_⟩
  ·simp[execOp,ha.eval hx,Instr.storeAt,Instr.sureAddr,storeVar,hag,hcv,h1]
  ·subst hH;subst hcs;refine hw.set hi rfl rfl rfl (by simp[World.setRow]) (λk _ hk=>?_) ⟨us.set off (a.eval y),setRow_heap w b _ _ e (0,0) hb,h2.set off hr⟩ (by simp[Ent.foot]);simp only[Ent.foot,Afo] at hk;simp only[World.setRow,Array.getElem?_modify];rw[Afz (λe=>hk e.symm)]
theorem Gu {i b off:Nat}{cs rs:List Rp}(hsz:∀w,(sizeOf t).run P w = .ok sz w)(hx:ev l x=some (rv (.pointer (some ⟨b,off,none⟩))))(hy:ev l y=some (B9 rs))
  (hl:rs.length=sz) (hv:B8 H rs) (hi:H[i]? =some (.blk b cs e)) (hlt:Nat.ble (off+sz) cs.length=true) {cs':List Rp}
  (hcs:cs.take off++rs++cs.drop (off+sz)=cs') (hH:H.set i (.blk b cs' e)=H'):AbK P n c l H { dst:=none,op:=.store t x y,type:=ty,pos:=pos,after:=af,guard:=none } H':=λa w Z ha hw=>by
  obtain⟨us,hb,h2⟩:=hw.ent hi;obtain⟨vs,e1,h4⟩:=ha.ev hy;have hlen:=h2.length;have hvl:=h4.length;have hlt':off+sz≤us.length:=by rw[hlen];simpa using hlt
  have h1:=run_storeCells_at P b off e vs 0 us.toArray w hb (by simp;omega) (λv hv'=>hv.at hw h4 v hv');simp only[Nat.add_zero] at h1;refine⟨w.setRow b (us.take off++vs++us.drop (off+sz)).toArray,?_,?_⟩
  ·have h5:vs.length=sz:=by omega
   rw[h5] at h1;simp only[Af2] at h1 ⊢;simp[execOp,ha.eval hx,e1,Instr.storeAt,Instr.sureAddr,storeVar,hsz,Value.cells,h5,h1]
  ·subst hH;subst hcs;refine hw.set hi rfl rfl rfl (by simp[World.setRow]) (λk _ hk=>?_) ⟨us.take off++vs++us.drop (off+sz),setRow_heap w b _ _ e (0,0) hb,((h2.take off).append h4).append (h2.drop (off+sz))⟩ (by simp[Ent.foot]);simp only[Ent.foot,Afo] at hk;simp only[World.setRow,Array.getElem?_modify];rw[Afz (λe=>hk e.symm)]
theorem MW {α:Type}[Inhabited α]{ys:List α}{enc:α→List Rp}{i off:Nat}{j:Int}{y':α}(hsz:∀w,(sizeOf t).run P w = .ok 1 w)(hx:ev l x=some (rv (Gl sz v j.toNat off)))(hy:ev l y=some r)(hv:Q4 H r)(hi:H[i]? =some (.row v e sz (ys.map enc)))(hg:Ch j (ys.length:Int)=true)
  (hy':(enc (Ax ys j)).set off r=enc y') (hlt:Nat.blt off sz=true) (hH:H.set i (.row v e sz ((ys.set j.toNat y').map enc))=H'):AbK P n c l H { dst:=none,op:=.store t x y,type:=ty,pos:=pos,after:=af,guard:=none } H':=λa w Z ha hw=>by
  obtain⟨hs,us,⟨h1,h2⟩,h3⟩:=hw.ent hi;have h0:=(Ce hg).1;have hlj:j.toNat<ys.length:=by have:=(Ce hg).2;omega
  have hlt':off<sz:=by simpa using hlt
  have eat:Ax ys j=ys[j.toNat]:=by simp[Ax,hlj]
  have hr:=ha.ev hy;have hone:=hv c Z w _ hw hr;rcases h2 with⟨rfl,hz⟩ | ⟨b,cap,cur,rfl,_,hg',hcap,hm,hcs,htk⟩
  ·simp at hz;subst hz;simp at hlj
  ·simp only[Afi] at h1 hcap htk;have hin:j.toNat*sz+off<ys.length*sz:=by
    have:(j.toNat+1)*sz≤ys.length*sz:=Nat.mul_le_mul_right _ hlj;rw[Nat.succ_mul] at this;omega
   have hlc:j.toNat*sz+off<cur.size:=by
    have:ys.length*sz≤cap*sz:=Nat.mul_le_mul_right _ hcap;omega
   have h4:=run_storeCells_at P b (j.toNat*sz+off) e [a.eval y] 0 cur w hg' (by simp;omega) (by simpa using hone);have hcv:=B1 hone;have h5:(cur.toList.take (j.toNat*sz+off)++[a.eval y]++cur.toList.drop (j.toNat*sz+off+1)).toArray=cur.setIfInBounds (j.toNat*sz+off) (a.eval y):=by
    apply Array.ext';simp[Array.toList_setIfInBounds,List.set_eq_take_append_cons_drop,hlc]
   simp only[Nat.add_zero,AeZ,Af7,Afu] at h4;rw[h5] at h4;have hset:((ys.set j.toNat y').map enc).flatten=(ys.map enc).flatten.set (j.toNat*sz+off) r:=by
    clear h3 h1 hcs htk hin hlc h4 h5 hi hH;have key:∀(xs:List (List Rp)) (k:Nat) (cl:List Rp),(∀c∈xs,c.length=sz)→xs[k]? =some cl→(xs.set k (cl.set off r)).flatten=xs.flatten.set (k*sz+off) r:=by
     intro xs
     induction xs with
     | nil=>intro k cl _ hk;simp at hk
     | cons z zs ih=>
      intro k cl hsz hk;have hzl:z.length=sz:=hsz z (by simp)
      cases k with
      | zero=>
       simp at hk;subst hk;simp only[List.set_cons_zero,List.flatten_cons,Nat.zero_mul,Afu];rw[List.set_append_left _ _ (by omega)]
      | succ k=>
       simp only[List.set_cons_succ,List.flatten_cons];rw[ih k cl (λc hc=>hsz c (by simp[hc])) (by simpa using hk)];rw[List.set_append_right _ _ (by rw[hzl,Nat.succ_mul];omega)]
       congr 2
       rw[hzl,Nat.succ_mul];omega
    have:=key (ys.map enc) j.toNat (enc ys[j.toNat]) hs (by simp[hlj]);rw[← this,List.map_set,← hy',eat]
   refine⟨w.setRow b (cur.setIfInBounds (j.toNat*sz+off) (a.eval y)),?_,?_⟩
   ·simp[execOp,ha.eval hx,Gl,Instr.storeAt,Instr.sureAddr,storeVar,hsz,hcv,h4]
   ·subst hH;refine hw.set hi rfl rfl rfl (by simp[World.setRow]) (λk _ hk=>?_) ⟨?_,us.set (j.toNat*sz+off) (a.eval y),⟨by simpa using h1,.inr ⟨b,cap,_,by simp,Afv _,setRow_heap w b cur _ e (0,0) hg',by simpa using hcap,hm,by simpa using hcs,?_⟩⟩,?_⟩ (by simp[Ent.foot,Value.ownBlock])
    ·simp only[Ent.foot,Value.ownBlock,Option.mem_toList,Option.mem_def,Option.some.injEq] at hk;simp only[World.setRow,Array.getElem?_modify];rw[Afz hk]
    ·intro cl hcl;rw[List.map_set] at hcl;rcases List.mem_or_eq_of_mem_set hcl with h' | rfl
     ·exact hs cl h'
     ·rw[← hy',List.length_set,eat];exact hs _ (List.mem_map_of_mem (List.getElem_mem hlj))
    ·simp only[Afi,List.length_set];rw[Array.toList_setIfInBounds,List.take_set,htk]
    ·rw[hset];exact h3.set _ hr
end
end
theorem IW (l:List UInt8):((GJ l).map Cn).flatten=(l.map λc=>Value.int .u8 c.toNat).map rv:=by
 induction l with
 | nil=>rfl
 | cons c r ih=>simp only[GJ,AfA,List.flatten_cons] at ih ⊢;rw[ih];rfl
theorem E1 (l:List UInt8):(GJ l).length=l.length:=by simp[GJ]
theorem Ms {P:Program}{w:World}{t t' e:TypeId}{inf:TypeInfo}{v:Value}{m:Nat}{us:List Value}{s:List UInt8}(ty:TypeId)(ht:P.underlying t=some (.slice e))(hu:P.underlying t'=some .string)(hinf:P.info? e=some inf)(hz:inf.zero=some (.int .u8 0))(hsize:inf.size=1)(hby:inf.bytes=1)
  (hown:w.ownsRow 0 e 1 v m us) (hb:m+s.length≤140737488355328) :
  ∃v' w',(Builtin.append_ #[t,t'] ty #[v,.string (B s)]).run P w = .ok v' w'∧w'.ownsRow 0 e 1 v' (m+s.length) (us++s.map λc=>Value.int .u8 c.toNat)∧w.grownBy w' v.ownBlock∧(v'.ownBlock=v.ownBlock∨∀b,v'.ownBlock=some b→w.heap.size≤b):=by
 have hsz:(B s).size=s.length:=DK s;have hcells:Lib.strCells (B s)=s.map λc=>Value.int .u8 c.toNat:=by simp[Lib.strCells,B]
 rcases hown.2 with⟨rfl,rfl⟩ | ⟨g,cap,cur,rfl,hbg,hg,hnc,hcm,hcs,htake⟩
 ·have hx:us=[]:=Afp (by simpa using hown.1);subst hx;obtain⟨v',w',e1,e2,e3,_⟩:=Lib.run_append_own_string (P:=P) (w:=w) w.heap.size t t' ty e inf ht hu hinf hz hsize hby (.slice none 0 0) 0 [] (World.ownsRow_nil w _ e 1) (B s) (by rw[hsz];simp only[maxLen];omega) (by rw[hsz];omega) (Afm _);rw[hsz,hcells] at e2;refine⟨v',w',e1,⟨e2.1,?_⟩,e3,.inr λb hb=>(e2.lt b hb).1⟩;rcases e2.2 with h | ⟨g,cap,cur,h,_,rest⟩
  ·exact .inl h
  ·exact .inr ⟨g,cap,cur,h,Afv _,rest⟩
 ·obtain⟨v',w',e1,e2,e3,_⟩:=Lib.run_append_own_string (P:=P) (w:=w) 0 t t' ty e inf ht hu hinf hz hsize hby _ m us hown (B s) (by rw[hsz];simp only[maxLen];omega) (by rw[hsz];omega) (Afv _);rw[hsz,hcells] at e2;refine⟨v',w',e1,e2,e3,?_⟩
  by_cases hroom:m+(B s).size≤cap
  ·have hr:=Lib.run_append_room_string (P:=P) w t t' ty e inf ht hu hinf hsize g m cap cur hg (B s) hroom (by simp at hcs;omega);rw[hr] at e1;simp only[Result.ok.injEq] at e1;rw[← e1.1];exact .inl rfl
  ·have holds:∀j u,us[j]? =some u→w.cell? ((⟨g,0,none⟩:Addr).add j)=some u:=hown.cells (g:=g) rfl;have hr:=Lib.run_append_grow_string (P:=P) w t t' ty e inf (.int .u8 0) ht hu hinf hz ⟨g,0,none⟩ m cap us (by rw[hsize];exact hown.1) holds (B s) (by omega) (by rw[hsz];omega) (by rw[hby];exact growslice_fits (by omega) (by rw[hsz];omega));rw[hr] at e1;simp only[Result.ok.injEq] at e1;rw[← e1.1];exact .inr λb hb=>by simp[Value.ownBlock] at hb;omega
section
variable {P : Program} {n : Nat} {c : Cx} {ops : Array Oper} {Q : Exit → Act → World → Prop} {rest : List Oper} {l : Fr} {H H' : List Ent} {d : Nat} {d' : Option Nat} {x y z3 : Operand} {ty t t' e : TypeId} {pos : String} {af : Array Edge} {g : Option (Nat × Bool)} {v u : Value} {r : Rp} {sz : Nat} {K : Act → World → Prop}
theorem St.tobld {Z:Fz}{w:World}(h:St c H Z w){i b:Nat}{te T:TypeId}(hi:H[i]? =some (.blk b [rv (.pointer none),rv (.slice none 0 0)] T)):St c (H.set i (.bld T te b (.slice none 0 0) [])) Z w:=by
 refine h.set hi rfl rfl rfl (Afm _) (λ_ _ _=>rfl) ?_ (by simp[Ent.foot,Value.ownBlock]);obtain⟨us,h1,h2⟩:=h.ent hi;have:=Bw.eq_rv (us:=[.pointer none,.slice none 0 0]) h2;subst this;exact⟨_,.inl rfl,h1,⟨by simp,.inl ⟨rfl,rfl⟩⟩,by simp[Value.ownBlock]⟩
theorem WK.tobld {i b:Nat}{te T:TypeId}(hi:H[i]? =some (.blk b [rv (.pointer none),rv (.slice none 0 0)] T))(h:WK n c K l (H.set i (.bld T te b (.slice none 0 0) []))):WK n c K l H:=λa w Z ha hw=>h a w Z ha (St.tobld hw hi)
theorem WL.tobld {i b:Nat}{te T:TypeId}(hi:H[i]? =some (.blk b [rv (.pointer none),rv (.slice none 0 0)] T))(h:WL P n c ops Q rest l (H.set i (.bld T te b (.slice none 0 0) []))):WL P n c ops Q rest l H:=λa w Z ha hw=>h a w Z ha (St.tobld hw hi)
theorem WC.tobld {xx:Code}{i b:Nat}{te T:TypeId}(hi:H[i]? =some (.blk b [rv (.pointer none),rv (.slice none 0 0)] T))(h:WC P n c xx Q l (H.set i (.bld T te b (.slice none 0 0) []))):WC P n c xx Q l H:=λa w Z ha hw=>h a w Z ha (St.tobld hw hi)
theorem Fn.bld {E:Fz→Prop}{f:FuncId}{args:List Rp}{T te:TypeId}{b:Nat}{v:Value}{s s':List UInt8}{res:Rp}
  (h:∀p,(p = .pointer none∨p = .pointer (some ⟨b,0,none⟩))→Fn P E f args [.blk b [rv p,rv v] T,.row v te 1 ((GJ s).map Cn)] (λR H=>∃w0:Value,R=res∧H=[.blk b [rv (.pointer (some ⟨b,0,none⟩)),rv w0] T,.row w0 te 1 ((GJ s').map Cn)])) :
  Fn P E f args [.bld T te b v s] (λR H=>∃w0:Value,R=res∧H=[.bld T te b w0 s']):=λw Z vs hv hs=>by
 obtain⟨p,hp,h1,h2,h3⟩:=hs.has _ (List.mem_singleton.2 rfl);have hfoot:[Ent.bld T te b v s].flatMap Ent.foot=[Ent.blk b [rv p,rv v] T,Ent.row v te 1 ((GJ s).map Cn)].flatMap Ent.foot:=by simp[Ent.foot]
 have hs':St ⟨w,Z,[Ent.blk b [rv p,rv v] T,Ent.row v te 1 ((GJ s).map Cn)].flatMap Ent.foot,E,[]⟩ [Ent.blk b [rv p,rv v] T,Ent.row v te 1 ((GJ s).map Cn)] Z w:=by
  refine⟨rfl,rfl,rfl,Afm _,λ_ _ _=>rfl,?_,λe he k hk=>.inr (List.mem_flatMap.2 ⟨e,he,hk⟩),?_,hs.frz,Fz.le.refl _,λ_ _ e=>.inl e,λe he k hk=>?_,hs.env,hs.emono,MY.none rfl⟩
  ·intro e he;simp only[Af4,List.not_mem_nil,or_false] at he;rcases he with rfl | rfl
   ·exact⟨[p,v],h1,rfl,rfl,trivial⟩
   ·refine⟨λcl hcl=>by obtain⟨z,_,rfl⟩:=List.mem_map.1 hcl;rfl,_,by simpa[E1] using h2,?_⟩;rw[IW];exact Bw.rvs Z _
  ·refine List.pairwise_cons.2 ⟨λe he k hk hk'=>?_,List.pairwise_singleton ..⟩;simp only[Afo] at he;subst he;simp only[Ent.foot,Afo] at hk;subst hk;simp only[Ent.foot,Option.mem_toList] at hk';exact h3 hk'
  ·have hmem:k∈[Ent.bld T te b v s].flatMap Ent.foot:=by rw[hfoot];exact List.mem_flatMap.2 ⟨e,he,hk⟩
   obtain⟨e',he',hk'⟩:=List.mem_flatMap.1 hmem;exact hs.zdis e' he' k hk'
 rw[hfoot] at hs ⊢;refine(h p hp w Z vs hv hs').mono λe w' ⟨R,vv,H,Z',he,⟨w0,hR,hH⟩,hpR,ht⟩=>⟨R,vv,[.bld T te b w0 s'],Z',he,⟨w0,hR,rfl⟩,hpR,?_⟩
 subst hH;obtain⟨us,k1,k2⟩:=ht.has (.blk b [rv (.pointer (some ⟨b,0,none⟩)),rv w0] T) (by simp);obtain⟨k3,ws,k4,k5⟩:=ht.has (.row w0 te 1 ((GJ s').map Cn)) (by simp);have e1:=Bw.eq_rv (us:=[.pointer (some ⟨b,0,none⟩),w0]) k2;subst e1;rw[IW] at k5;have e2:=Bw.eq_rv k5;subst e2;have hd:=List.pairwise_cons.1 ht.dis;have hne:w0.ownBlock≠some b:=λhb=>hd.1 _ (List.mem_singleton.2 rfl) b (by simp[Ent.foot]) (by simp[Ent.foot,hb]);refine { ht with has:=?_,own:=?_,dis:=List.pairwise_singleton ..,zdis:=?_,gst:=⟨by simp[Ent.gk],by simp[Ent.gk],List.pairwise_singleton ..,ht.gst.new,by simp[Ent.gk]⟩ }
 ·intro e' he';simp only[Afo] at he';subst he';exact⟨_,.inr rfl,k1,by simpa[E1] using k4,hne⟩
 ·intro e' he' k hk;simp only[Afo] at he';subst he';simp only[Ent.foot,Af4] at hk;rcases hk with rfl | hk
  ·exact ht.own (.blk k [rv (.pointer (some ⟨k,0,none⟩)),rv w0] T) (by simp) k (by simp[Ent.foot])
  ·exact ht.own (.row w0 te 1 ((GJ s').map Cn)) (by simp) k hk
 ·intro e' he' k hk;simp only[Afo] at he';subst he';simp only[Ent.foot,Af4] at hk;rcases hk with rfl | hk
  ·exact ht.zdis (.blk k [rv (.pointer (some ⟨k,0,none⟩)),rv w0] T) (by simp) k (by simp[Ent.foot])
  ·exact ht.zdis (.row w0 te 1 ((GJ s').map Cn)) (by simp) k hk
theorem Fn.bldS {E:Fz→Prop}{f:FuncId}{args:List Rp}{T te:TypeId}{b:Nat}{v:Value}{s:List UInt8}{res:Rp}
  (h:∀p,(p = .pointer none∨p = .pointer (some ⟨b,0,none⟩))→Fn P E f args [.blk b [rv p,rv v] T,.row v te 1 ((GJ s).map Cn)] (λR H=>R=res∧H=[])) :
  Fn P E f args [.bld T te b v s] (λR H=>R=res∧H=[]):=λw Z vs hv hs=>by
 obtain⟨p,hp,h1,h2,h3⟩:=hs.has _ (List.mem_singleton.2 rfl);have hfoot:[Ent.bld T te b v s].flatMap Ent.foot=[Ent.blk b [rv p,rv v] T,Ent.row v te 1 ((GJ s).map Cn)].flatMap Ent.foot:=by simp[Ent.foot]
 have hs':St ⟨w,Z,[Ent.blk b [rv p,rv v] T,Ent.row v te 1 ((GJ s).map Cn)].flatMap Ent.foot,E,[]⟩ [Ent.blk b [rv p,rv v] T,Ent.row v te 1 ((GJ s).map Cn)] Z w:=by
  refine⟨rfl,rfl,rfl,Afm _,λ_ _ _=>rfl,?_,λe he k hk=>.inr (List.mem_flatMap.2 ⟨e,he,hk⟩),?_,hs.frz,Fz.le.refl _,λ_ _ e=>.inl e,λe he k hk=>?_,hs.env,hs.emono,MY.none rfl⟩
  ·intro e he;simp only[Af4,List.not_mem_nil,or_false] at he;rcases he with rfl | rfl
   ·exact⟨[p,v],h1,rfl,rfl,trivial⟩
   ·refine⟨λcl hcl=>by obtain⟨z,_,rfl⟩:=List.mem_map.1 hcl;rfl,_,by simpa[E1] using h2,?_⟩;rw[IW];exact Bw.rvs Z _
  ·refine List.pairwise_cons.2 ⟨λe he k hk hk'=>?_,List.pairwise_singleton ..⟩;simp only[Afo] at he;subst he;simp only[Ent.foot,Afo] at hk;subst hk;simp only[Ent.foot,Option.mem_toList] at hk';exact h3 hk'
  ·have hmem:k∈[Ent.bld T te b v s].flatMap Ent.foot:=by rw[hfoot];exact List.mem_flatMap.2 ⟨e,he,hk⟩
   obtain⟨e',he',hk'⟩:=List.mem_flatMap.1 hmem;exact hs.zdis e' he' k hk'
 rw[hfoot] at hs ⊢;exact h p hp w Z vs hv hs'
theorem T5 (hu:∃e',P.underlying t=some (.pointer e'))(hx:ev l x=some (rv (.pointer none))):B4 P n c l H { dst:=d',op:=.binOp .eql t x (.const (.pointer none)) t',type:=ty,pos:=pos,after:=af,guard:=g } (rB true):=λa w Z ha _=>Ds<|by
 obtain⟨e',hu⟩:=hu;have h1:∀dd:Nat,(Op.equalIn (dd+1) t (.pointer none) (.pointer none)).run P w = .ok true w:=λdd=>by simp[Op.equalIn,run_underlying hu]
 have h2:(Op.equal t (.pointer none) (.pointer none)).run P w = .ok true w:=h1 9999;have h3:(eqGuard .eql t x (.const (.pointer none)) (.pointer none) (.pointer none)).run P w = .ok () w:=by unfold eqGuard;split<;>simp
 have hy:a.eval (.const (.pointer none)) = .pointer none:=rfl;simp only[execOp,ha.eval hx,hy,Sem.run_bind,h3,Result.andThen_ok,binOp,h2,Sem.run_pure]
theorem Vi {p:Addr}{te:TypeId}(hu:P.underlying t=some (.pointer te))(hi:∃j,P.info? te=some j)(hx:ev l x=some (rv (.pointer (some p))))(hy:ev l y=some (rv (.pointer (some p)))):B4 P n c l H { dst:=d',op:=.binOp .neq t x y t',type:=ty,pos:=pos,after:=af,guard:=g } (rB false):=λa w Z ha _=>Ds<|by
 obtain⟨j,hj⟩:=hi;have h3:(eqGuard .neq t x y (.pointer (some p)) (.pointer (some p))).run P w = .ok () w:=by unfold eqGuard;split<;>simp
 simp only[execOp,ha.eval hx,ha.eval hy,Sem.run_bind,h3,Result.andThen_ok,Lib.run_neq_ptr_same w p hu hj,Sem.run_pure]
theorem QE {w:World}{Z:Fz}{i b:Nat}{cs:List Rp}(hw:St c H Z w)(hi:H[i]? =some (.blk b cs e)):w.shape? b=some (e,cs.length):=by
 obtain⟨us,h1,h2⟩:=hw.ent hi;simp[World.shape?,h1,h2.length]
theorem T4 {i b:Nat}{cs:List Rp}{te:TypeId}(hs:P.underlying t=some (.pointer te))(hd:P.underlying t'=some .unsafePointer)(hj:∃j,P.info? te=some j∧j.size≠0)(hx:ev l x=some (rv (.pointer (some ⟨b,0,none⟩))))(hi:H[i]? =some (.blk b cs e))(hl:Nat.blt 0 cs.length=true) :
  B4 P n c l H { dst:=d',op:=.convert t t' x,type:=ty,pos:=pos,after:=af,guard:=g } (rv (.pointer (some ⟨b,0,none⟩))):=λa w Z ha hw=>Ds<|by
 obtain⟨j,hj1,hj2⟩:=hj;have:=Lib.run_to_unsafe (P:=P) w ⟨b,0,none⟩ hs hd hj1 hj2 (QE hw hi) (by simpa using hl);simp[execOp,ha.eval hx,this]
theorem Qu {i b:Nat}{cs:List Rp}{te:TypeId}(hs:P.underlying t=some .unsafePointer)(hd:P.underlying t'=some (.pointer te))(hj:∃j,P.info? te=some j)(hx:ev l x=some (rv (.pointer (some ⟨b,0,none⟩))))(hi:H[i]? =some (.blk b cs e))(hl:liesAt P P.depth e (cs.length/P.cellsOf e) 0 te 1=true) :
  B4 P n c l H { dst:=d',op:=.convert t t' x,type:=ty,pos:=pos,after:=af,guard:=g } (rv (.pointer (some ⟨b,0,none⟩))):=λa w Z ha hw=>Ds<|by
 obtain⟨j,hj1⟩:=hj;have:=Lib.run_from_unsafe (P:=P) w ⟨b,0,none⟩ hs hd hj1 (QE hw hi) hl;simp[execOp,ha.eval hx,this]
theorem AaY {f : FuncId} {fn : Func} {ats : Array TypeId} (hf : P.funcs[f]? = some fn) (hname : (fn.name == "runtime.NumGoroutine") = false) (hb : fn.body.isNone = true) (hn : Extern.findNext fn = none) (he : Extern.find fn = some Extern.AbiNoEscape.same) (hx : ev l x = some (rv v)) :
  B4 P n c l H { dst:=d',op:=.call { callee:=.value (.func f),args:=#[x],argTypes:=ats },type:=ty,pos:=pos,after:=af,guard:=g } (rv v):=λa w Z ha hw=>Ds<|by
 have h1:=run_callFunc_extern (P:=P) (w:=w) (args:=#[v]) hf hname hb hn he;rw[Lib.run_noEscape] at h1;simp only[execOp,resolve,Sem.run_bind,Sem.run_pure,Result.andThen_ok,Act.eval,Deferred.ofValue,invoke];simp only[List.map_toArray,AfA,List.map_nil,ha.eval hx,Array.append_empty,Array.empty_append];simpa using h1
theorem O1 {α:Type}{xs:List α}{enc:α→List Rp}(h:decide (0<xs.length)=true):decide (0<(xs.map enc).length)=true:=by simpa using h
section
variable {P : Program} {n : Nat} {c : Cx} {l : Fr} {H : List Ent} {d' : Option Nat} {x : Operand} {ty t t' e : TypeId} {pos : String} {af : Array Edge} {g : Option (Nat × Bool)} {v : Value}
end
def slp:Value→Value
 | .slice a _ _=>.pointer a
 | v=>v
theorem NR {i:Nat}{ts:Array TypeId}{xs:List (List Rp)}(hx:ev l x=some (rv v))(hi:H[i]? =some (.row v e sz xs))(hg:decide (0<xs.length)=true) :
  B4 P n c l H { dst:=d',op:=.call { callee:=.builtin .unsafeSliceData,args:=#[x],argTypes:=ts },type:=ty,pos:=pos,after:=af,guard:=g } (rv (slp v)):=λa w Z ha hw=>Ds<|by
 obtain⟨_,us,⟨_,h2⟩,_⟩:=hw.ent hi;have h0:0<xs.length:=by simpa using hg
 rcases h2 with⟨rfl,hz⟩ | ⟨b,cap,cur,rfl,_,_,hc,_⟩
 ·omega
 ·have:=Lib.run_unsafeSliceData_row (P:=P) w ts ty ⟨b,0,none⟩ xs.length cap (by omega);simp[execOp,resolve,invoke,builtin,ha.eval hx,this,slp]
def AdT (P:Program)(n:Nat)(c:Cx)(l:Fr)(H:List Ent)(o:Oper)(r:Rp)(H':List Ent):Prop:=∀a w Z,Dg n l a Z→St c H Z w→∃v w' Z',Fz.le Z Z'∧r.p Z' v∧(execOp a.eval o).run P w = .ok (.value v) w'∧St c H' Z' w'
theorem Adv {opsA:Array Oper}{op:Op}(hr:AdT P n c l H { dst:=some d,op:=op,type:=ty,pos:=pos,after:=af,guard:=none } r H'):DJ P n c opsA Q l H { dst:=some d,op:=op,type:=ty,pos:=pos,after:=af,guard:=none } r H':=λa w Z K0 ha hw hK=>
 ⟨λ_=>by
  obtain⟨v,w',Z',hz,hv,he,hs⟩:=hr a w Z ha hw;unfold Oper.wp;rw[he];exact hK v w' Z' hz hv hs,λh=>by simp[Region.wanted] at h⟩
theorem KK {i:Nat}{pt it:TypeId}{s:List UInt8}(hp:P.underlying pt=some (.pointer e))(hc:P.cellsOf e=1)(hx:ev l x=some (rv (slp v)))(hy:ev l y=some (rI .i64 ((GJ s).length:Int)))(hi:H[i]? =some (.row v e 1 ((GJ s).map Cn)))(hg:decide (0<((GJ s).map Cn).length)=true)(hH:H.eraseIdx i=H') :
  AdT P n c l H { dst:=some d,op:=.call { callee:=.builtin .unsafeString,args:=#[x,y],argTypes:=#[pt,it] },type:=ty,pos:=pos,after:=af,guard:=none } (rS s) H':=λa w Z ha hw=>by
 obtain⟨_,us,⟨h1,h2⟩,h3⟩:=hw.ent hi;rw[IW] at h3;have e2:=Bw.eq_rv h3;subst e2;have h0:0<s.length:=by simpa[E1] using hg
 rcases h2 with⟨rfl,hz⟩ | ⟨b,cap,cur,rfl,_,hb,hcap,hm,hcs,htk⟩
 ·simp[E1] at hz;subst hz;simp at h0
 ·simp only[Afi,E1,Nat.mul_one] at htk hcap hcs h1;have hus:=Lib.run_unsafeString_row (P:=P) w pt it ty e hp hc b cur.size (by simp[World.shape?,hb]) s (by intro e;subst e;simp at h0) (by omega) (by simp only[maxLen] at hm;omega) (λj x hj=>by
   rw[Kg,Afu,cell_of_row w b j cur e (0,0) hb];have:(s.map λc=>Value.int .u8 c.toNat)[j]? =some (.int .u8 x.toNat):=by simp[hj]
   rw[← htk,Af0] at this
   split at this
   ·simpa using this
   ·cases this)
  have hmem:=Afc hi;have hfr:=hw.front hi;have hd:=List.pairwise_cons.1 hfr.dis;have hst:=hfr.sub (List.sublist_cons_self _ _);have hkeep:∀k,k≠b→(w.freeze ⟨b,0,none⟩ s.length).heap[k]? =w.heap[k]?:=λk hk=>by
   simp only[World.freeze]
   split
   ·rfl
   ·simp only[Array.getElem?_modify];rw[Afz (λe=>hk e.symm)]
  have hzb:Z b=none:=hw.zdis _ hmem b (by simp[Ent.foot,Value.ownBlock]);refine⟨.string ⟨s.toArray⟩,w.freeze ⟨b,0,none⟩ s.length,Z,Fz.le.refl _,rfl,?_,?_⟩
  ·have hlx:=ha.eval hx;have hly:=ha.eval hy;rw[E1] at hly;simp[execOp,resolve,invoke,builtin,hlx,hly,slp,hus]
  ·subst hH;have hfz:∀(f:World→Prop),True:=λ_=>trivial;refine { hst with os:=?_,tape:=?_,output:=?_,size:=?_,old:=λk hk hkM=>?_,has:=λen he=>?_,frz:=⟨λb' o hb'=>?_,λk i b hb=>Nat.lt_of_lt_of_le (hst.frz.nm k i b hb) (by simp only[World.freeze];split<;>simp)⟩,gst:=hst.gst.grow (by simp only[World.freeze];split<;>simp) }
   ·rw[← hst.os];simp only[World.freeze];split<;>rfl
   ·rw[← hst.tape];simp only[World.freeze];split<;>rfl
   ·rw[← hst.output];simp only[World.freeze];split<;>rfl
   ·refine Nat.le_trans hst.size ?_;simp only[World.freeze];split<;>simp
   ·have hkb:k≠b:=λe=>by
     subst e;rcases hw.own _ hmem k (by simp[Ent.foot,Value.ownBlock]) with h4 | h4
     ·omega
     ·exact hkM h4
    rw[hkeep k hkb];exact hst.old k hk hkM
   ·exact Ent.keep (hst.has en he) (Fz.le.refl _) λk hk=>hkeep k (λe=>hd.1 en he b (by simp[Ent.foot,Value.ownBlock]) (e▸hk))
   ·rw[hkeep b' (λe=>by subst e;rw[hzb] at hb';cases hb')];exact hst.frz b' o hb'
theorem Tf {f:FuncId}{args:List Operand}{ats:Array TypeId}{o:Oper}{a:Act}{caps:List Value}(ho:o.op = .call { callee:=.value x,args:=args.toArray,argTypes:=ats })(hx:a.eval x = .func (.func f) #[] caps.toArray)
  (hcall:∀(as1:Array Value) (w:World),(callFunc f as1).run P w = .ok (.enter f as1) w) (w:World):(execOp a.eval o).run P w = .ok (.enter f (args.map a.eval++caps).toArray) w:=by
 simp[execOp,ho,resolve,hx,Deferred.ofValue,invoke,hcall]
theorem Hw {f:FuncId}{args:List Operand}{ats:Array TypeId}{rs:List Rp}{caps:List Value}{Hin Hr:List Ent}{Φ:Rp→List Ent→Prop}(hcall:∀(as1:Array Value) (w:World),(callFunc f as1).run P w = .ok (.enter f as1) w)(hx:ev l x=some (rv (.func (.func f) #[] caps.toArray)))(hv:MT l args=some rs)
  (hp:H.Perm (Hin++Hr)) (hc:Fn P c.E f (rs++caps.map rv) Hin Φ) (hn:Nat.blt d n=true) (h:∀r Ho,Φ r Ho→WL P n c ops Q rest ((d,r)::l) (Ho++Hr)) :
  WL P n c ops Q ({ dst:=some d,op:=.call { callee:=.value x,args:=args.toArray,argTypes:=ats },type:=ty,pos:=pos,after:=af,guard:=none }::rest) l H:=
 KO (args:=λa=>(args.map a.eval++caps).toArray) (λa w Z ha hw=>⟨Tf rfl (ha.eval hx) hcall w,by
  have hw2:=hw.perm hp;refine(hc w Z _ (by have:=(GS ha hv).append (Bw.rvs Z caps);simpa using this) hw2.enter).mono ?_;rintro e w' ⟨r,v,Ho,Z',he,hΦ,hr,hs⟩;exact⟨v,r,Ho++Hr,Z',he,hs.le,hr,hw2.call hs,h r Ho hΦ⟩⟩) hn
theorem Md {xs:List Int}{s:List UInt8}{i:Nat}{inf:TypeInfo}(ht:P.underlying t=some (.slice e))(hu:P.underlying t'=some .string)(hinf:P.info? e=some inf)(hz:inf.zero=some (.int .u8 0))(hsize:inf.size=1)(hby:inf.bytes=1)
  (hx:ev l x=some (rv v)) (hy:ev l y=some (rS s)) (hi:H[i]? =some (.row v e 1 (xs.map Cn))) (hg:Eh 1 (xs.length+s.length)=true) (hn:Nat.blt d n=true)
  (h:∀v',WL P n c ops Q rest ((d,rv v')::l) (.row v' e 1 ((xs++GJ s).map Cn)::H.eraseIdx i)) :
  WL P n c ops Q ({ dst:=some d,op:=.call { callee:=.builtin .append,args:=#[x,y],argTypes:=#[t,t'] },type:=ty,pos:=pos,after:=af,guard:=none }::rest) l H:=
 J2 (λa w Z ha hw=>by
  obtain⟨h0,us,h1,h2⟩:=hw.ent hi;have hb:(xs.length+s.length)*1≤140737488355328:=by simpa[Eh] using hg
  rw[Afi] at h1;obtain⟨v',w',e1,e2,e3,e4⟩:=Ms (P:=P) (w:=w) ty ht hu hinf hz hsize hby h1 (s:=s) (by omega);have hent:(Ent.row v' e 1 ((xs++GJ s).map Cn)).holds Z w':=⟨λcl hcl=>by obtain⟨z',_,rfl⟩:=List.mem_map.1 hcl;rfl,us++s.map (λc=>Value.int .u8 c.toNat),by simpa[E1] using e2,by
   rw[List.map_append,List.flatten_append,IW];exact h2.append (Bw.rvs Z _)⟩
  have hst:=hw.callF hi (St.one (e':=.row v' e 1 ((xs++GJ s).map Cn)) (M:=(Ent.row v e 1 (xs.map Cn)).foot) hw.frz hw.env hw.emono e3.os e3.tape e3.output e3.size (λk hk hne=>e3.block k hk (λe1=>hne (by simp[Ent.foot,← e1])))
   (hw.zdis _ (Afc hi)) hent (λk hk=>by
    simp only[Ent.foot,Option.mem_toList] at hk ⊢;rcases e4 with e4 | e4
    ·exact .inl (e4▸hk)
    ·exact .inr (e4 k hk)))
  exact⟨v',w',rv v',_,Z,by simp[execOp,resolve,invoke,builtin,ha.eval hx,ha.eval hy,e1],Fz.le.refl _,rfl,hst,h v'⟩) hn
end
section
variable {P : Program} {n : Nat} {c : Cx} {ops : Array Oper} {Q : Exit → Act → World → Prop} {rest : List Oper} {l : Fr} {H : List Ent} {d : Nat} {ty : TypeId} {pos : String} {af : Array Edge} {r : Rp} {x y z3 : Operand}
theorem wo {d:Option Nat}{op:Op}{j dj:Nat}{want b:Bool}(hb:b=want)(h:WL P n c ops Q ({ dst:=d,op:=op,type:=ty,pos:=pos,after:=af,guard:=none }::rest) l H)(hj:Ea ops j=some dj:=by rfl)(hv:look l dj=some (rB b):=by rfl) :
  WL P n c ops Q ({ dst:=d,op:=op,type:=ty,pos:=pos,after:=af,guard:=some (j,want) }::rest) l H:=AL hj hv hb h
theorem wf {op:Op}{j dj:Nat}{want b:Bool}(hb:b = !want)(h:WL P n c ops Q rest ((d,rv undef)::l) H)(hj:Ea ops j=some dj:=by rfl)(hv:look l dj=some (rB b):=by rfl)(hn:Nat.blt d n=true:=by rfl) :
  WL P n c ops Q ({ dst:=some d,op:=op,type:=ty,pos:=pos,after:=af,guard:=some (j,want) }::rest) l H:=A2 hj hv hb hn h
theorem wu {op:Op}{j dj:Nat}{want:Bool}(h:WL P n c ops Q rest ((d,rv undef)::l) H)(hj:Ea ops j=some dj:=by rfl)(hv:look l dj=some (rv undef):=by rfl)(hn:Nat.blt d n=true:=by rfl) :
  WL P n c ops Q ({ dst:=some d,op:=op,type:=ty,pos:=pos,after:=af,guard:=some (j,want) }::rest) l H:=BY hj hv hn h
theorem wv {op:Op}(hr:B4 P n c l H { dst:=some d,op:=op,type:=ty,pos:=pos,after:=af,guard:=none } r)(h:WL P n c ops Q rest ((d,r)::l) H)(hn:Nat.blt d n=true:=by rfl):WL P n c ops Q ({ dst:=some d,op:=op,type:=ty,pos:=pos,after:=af,guard:=none }::rest) l H:=As hr hn h
theorem wm (h:ev l x=some r)(hk:WL P n c ops Q rest ((d,r)::l) H)(hn:Nat.blt d n=true:=by rfl):WL P n c ops Q ({ dst:=some d,op:=.move x,type:=ty,pos:=pos,after:=af,guard:=none }::rest) l H:=As (Am h) hn hk
theorem wa (h:ev l x=some r)(hk:WL P n c ops Q rest ((d,r)::l) H)(hn:Nat.blt d n=true:=by rfl):WL P n c ops Q ({ dst:=some d,op:=.assign x,type:=ty,pos:=pos,after:=af,guard:=none }::rest) l H:=As (A0 h) hn hk
theorem E0 {b:Bool}(hc:ev l z3=some (rB b))(hb:b=true)(h:ev l x=some r)(hk:WL P n c ops Q rest ((d,r)::l) H)(hn:Nat.blt d n=true:=by rfl):WL P n c ops Q ({ dst:=some d,op:=.pick z3 x y,type:=ty,pos:=pos,after:=af,guard:=none }::rest) l H:=As (An hc hb h) hn hk
theorem Ep {b:Bool}(hc:ev l z3=some (rB b))(hb:b=false)(h:ev l y=some r)(hk:WL P n c ops Q rest ((d,r)::l) H)(hn:Nat.blt d n=true:=by rfl):WL P n c ops Q ({ dst:=some d,op:=.pick z3 x y,type:=ty,pos:=pos,after:=af,guard:=none }::rest) l H:=As (Ay hc hb h) hn hk
theorem BP {f:FuncId}{args:List Operand}{ats:Array TypeId}{rs:List Rp}(hcall:∀(as1:Array Value) (w:World),(callFunc f as1).run P w = .ok (.enter f as1) w)(hc:KL P c.E f rs r)(hv:MT l args=some rs)(h:WL P n c ops Q rest ((d,r)::l) H)(hn:Nat.blt d n=true:=by rfl) :
  WL P n c ops Q ({ dst:=some d,op:=.call { callee:=.value (.func f),args:=args.toArray,argTypes:=ats },type:=ty,pos:=pos,after:=af,guard:=none }::rest) l H:=Ck hcall hv hc rfl hn h
theorem Cm {opsA:Array Oper}{f:FuncId}{args:List Operand}{ats:Array TypeId}{rs:List Rp}(hcall:∀(as1:Array Value) (w:World),(callFunc f as1).run P w = .ok (.enter f as1) w)(hc:KL P c.E f rs r)(hv:MT l args=some rs) :
  DJ P n c opsA Q l H { dst:=some d,op:=.call { callee:=.value (.func f),args:=args.toArray,argTypes:=ats },type:=ty,pos:=pos,after:=af,guard:=none } r H:=T2 hcall hv hc rfl
theorem wt {K:Exit→Act→World→Prop}{l1:Fr}{H1:List Ent}(hl:AH l1 l:=by repeat (first | exact AH.nil | refine AH.c rfl ?_))(hH:H1.Sublist H:=by repeat (first | exact sN | refine sC ?_ | refine sS ?_)):WK n c (Exit.then (Mid n c l1 H1) K .normal) l H:=Ar (Bt hl hH)
theorem BH {p:Prop}(hp:p){K:Exit→Act→World→Prop}{l1:Fr}{H1:List Ent}(hl:p→AH l1 l:=by intro hp;repeat (first | exact AH.nil | refine AH.c rfl ?_ | refine AH.c (by first | (simp only[hp];rfl) | simp[hp]) ?_))(hH:H1.Sublist H:=by repeat (first | exact sN | refine sC ?_ | refine sS ?_)):WK n c (Exit.then (Mid n c l1 H1) K .normal) l H:=Ar (Bt (hl hp) hH)
end
abbrev rP (b o:Nat):Rp:=rv (.pointer (some ⟨b,o,none⟩))
theorem ck {α:Type}{p:Bool}{x:Option α}{r:α}{G:Prop}(h:AX p x=some r)(k:p=true→x=some r→G):G:=k (Ro h).1 (Ro h).2
theorem ob {α β:Type}{a:Option β}{f:β→Option α}{r:α}{G:Prop}(h:Bv a f=some r)(k:∀b,a=some b→f b=some r→G):G:=let ⟨b,h1,h2⟩:=Ady h;k b h1 h2
theorem bd {α β:Type}{a:β}{f:β→Option α}{r:α}{G:Prop}(h:Ln a f=some r)(k:∀b,b=a→f b=some r→G):G:=let ⟨b,h1,h2⟩:=AdK h;k b h1 h2
theorem bz {α:Type}{b:Bool}{x y:Option α}{r:α}{G:Prop}(h:Bz b x y=some r)(t:b=true→x=some r→G)(f:b=false→y=some r→G):G:=by
 cases b
 ·exact f rfl h
 ·exact t rfl h
section
variable {P : Program} {n : Nat} {c : Cx} {ops : Array Oper} {Q : Exit → Act → World → Prop} {rest : List Oper} {l : Fr} {H : List Ent} {d : Nat} {x y : Operand} {t e : TypeId} {ty : TypeId} {pos : String} {af : Array Edge} {r : Rp} {sz : Nat}
theorem cz {α:Type}{b:Bool}{X Y:Option α}{r:α}{cx cy:Code}{o:Operand}(h:Bz b X Y=some r)(ho:ev l o=some (rB b))(h1:b=true→X=some r→WC P n c cx Q l H)(h2:b=false→Y=some r→WC P n c cy Q l H):WC P n c (.cond o cx cy) Q l H:=
 C1 ho (λe=>h1 e (AdI e h)) (λe=>h2 e (AdJ e h))
theorem wz {op:Op}{j dj:Nat}{want:Bool}(hj:Ea ops j=some dj)(hv:look l dj=some (rB (!want)))(h:WL P n c ops Q rest ((d,rv undef)::l) H)(hn:Nat.blt d n=true:=by rfl) :
  WL P n c ops Q ({ dst:=some d,op:=op,type:=ty,pos:=pos,after:=af,guard:=some (j,want) }::rest) l H:=A2 hj hv rfl hn h
theorem vF {i o o' b:Nat}{fs:Array Field}{f:Field}(hu:P.underlying t=some (.struct fs))(h:(fs[i]?,ev l x,o+f.offset)=(some f,some (rv (.pointer (some ⟨b,o,none⟩))),o'))(hsz:∀w,(sizeOf f.type).run P w = .ok (sz+1) w)
  (k:WL P n c ops Q rest ((d,rv (.pointer (some ⟨b,o',none⟩)))::l) H) (hn:Nat.blt d n=true:=by rfl):WL P n c ops Q ({ dst:=some d,op:=.fieldAddr t x i,type:=ty,pos:=pos,after:=af,guard:=none }::rest) l H:=by
 simp only[Prod.mk.injEq] at h;exact As (Az hu h.1 hsz h.2.1 h.2.2) hn k
theorem vL {b off:Nat}{cs:List Rp}(i:Nat)(hag:∀w,(isAgg t).run P w = .ok false w)(h:(ev l x,H[i]?,cs[off]?)=(some (rv (.pointer (some ⟨b,off,none⟩))),some (.blk b cs e),some r))
  (k:WL P n c ops Q rest ((d,r)::l) H) (hn:Nat.blt d n=true:=by rfl):WL P n c ops Q ({ dst:=some d,op:=.load t x,type:=ty,pos:=pos,after:=af,guard:=none }::rest) l H:=by
 simp only[Prod.mk.injEq] at h;exact As (AT (i:=i) hag h.1 h.2.1 h.2.2) hn k
end
abbrev A4 (x:Int):Rp:=rI .i64 x
abbrev Ca (x:Int):Nat:=Int.toNat x
abbrev A8 {a b:Type}(f:a→b)(l:List a):List b:=List.map f l
end Go.Proofs.YtmjlemhondjfhaaGreatDoor.Q
