/-
  Texts of the proof, put together: AL, FwA, FwB, QA, FwC, FwD, QB, PlA, PQ0, QC, FwE, FwF, FwH, FwK, QD, QE, QR, QS, QZ, Q0.
-/
import Derived.Test.YtphnhpcjnmmhiaaGreatDoorProg
import Derived.WalkKit
import Derived.Deep.QuietTactic
import Derived.Deep.LoopGhost
import Derived.Lib.Strings
import Derived.Scope
import GoSem.Core.View
import GoSem.Op.String
import Derived.IntWalk
import Derived.Lib.Bytealg
import Derived.Laws.AppendOwn
import Derived.Laws.OwnMore
import Derived.Great.FillDense
import Derived.Laws.BytesString
import Derived.Lib.Builder
import Derived.Lib.UnsafeStr
import Derived.Lib.AppendStr
import Derived.Laws.Externs
namespace Go.Proofs.YtphnhpcjnmmhiaaGreatDoor
open Go
abbrev SH:=@Tryz.isAgg140
abbrev TZ:=@Tryz.isAgg147
abbrev YS:=@Tryz.isAgg148
abbrev Pp:=@Tryz.isAgg169
abbrev Ka:=@Tryz.isAgg22
abbrev AaX:=@Tryz.isAgg23
abbrev Aeh:=@Tryz.isAgg26
abbrev Agb:=@Tryz.isAgg27
abbrev N0:=@Tryz.isAgg28
abbrev Qy:=@Tryz.isAgg3
abbrev Aga:=@Tryz.isAgg33
abbrev Aeg:=@Tryz.isAgg37
abbrev ya4:=@Tryz.isAgg4
abbrev Q0:=@Tryz.isAgg44
abbrev E2:=@Tryz.isAgg46
abbrev Lz:=@Tryz.isAgg48
abbrev AfZ:=@Tryz.isAgg50
abbrev Nz:=@Tryz.isAgg53
abbrev AfY:=@Tryz.isAgg67
abbrev AfX:=@Tryz.isAgg78
abbrev IK:=@Tryz.isAgg9
abbrev IL:=@Tryz.isAgg90
abbrev AaW:=@Tryz.call10
abbrev SG:=@Tryz.call111
abbrev TY:=@Tryz.call118
abbrev LE:=@Tryz.call135
abbrev AfW:=@Tryz.call14
abbrev Ny:=@Tryz.call147
abbrev Nx:=@Tryz.call171
abbrev YR:=@Tryz.call27
abbrev Tq:=@Tryz.call30
abbrev TX:=@Tryz.call33
abbrev AaV:=@Tryz.call34
abbrev YQ:=@Tryz.call36
abbrev Ly:=@Tryz.call38
abbrev Aef:=@Tryz.call40
abbrev R2:=@Tryz.call41
abbrev yk5:=@Tryz.call5
abbrev Aee:=@Tryz.call50
abbrev AfV:=@Tryz.call57
abbrev AfU:=@Tryz.call59
abbrev yk6:=@Tryz.call6
abbrev yk7:=@Tryz.call7
abbrev AfT:=@Tryz.call73
abbrev yk8:=@Tryz.call8
abbrev AfR:=@Tryz.call81
abbrev Aed:=@Tryz.call90
abbrev YP:=@Tryz.results114
abbrev Ac4:=@Tryz.results137
abbrev Ac3:=@Tryz.results138
abbrev Ac2:=@Tryz.results143
abbrev SF:=@Tryz.results147
abbrev Ac1:=@Tryz.results151
abbrev TW:=@Tryz.results154
abbrev YO:=@Tryz.results156
abbrev Ac0:=@Tryz.results169
abbrev Acz:=@Tryz.results191
abbrev Aec:=@Tryz.results21
abbrev Aeb:=@Tryz.results22
abbrev AfQ:=@Tryz.results23
abbrev Aea:=@Tryz.results24
abbrev YN:=@Tryz.results25
abbrev Acy:=@Tryz.results259
abbrev AdZ:=@Tryz.results26
abbrev AiE:=@Tryz.results27
abbrev yr3:=@Tryz.results3
abbrev YM:=@Tryz.results31
abbrev AdY:=@Tryz.results32
abbrev TV:=@Tryz.results37
abbrev AdX:=@Tryz.results39
abbrev AiD:=@Tryz.results42
abbrev Xp:=@Tryz.results46
abbrev AiC:=@Tryz.results52
abbrev AdW:=@Tryz.results53
abbrev AdV:=@Tryz.results54
abbrev TU:=@Tryz.results63
abbrev AiB:=@Tryz.results68
abbrev AdU:=@Tryz.results73
abbrev VC:=@Tryz.results8
abbrev AdT:=@Tryz.results81
abbrev AdS:=@Tryz.results84
abbrev Y6:=@Tryz.results9
abbrev AaU:=@Tryz.results90
abbrev AfP:=@Tryz.results93
abbrev Acw:=@Tryz.sizeOf111
abbrev KA:=@Tryz.sizeOf124
abbrev MZ:=@Tryz.sizeOf137
abbrev IJ:=@Tryz.sizeOf140
abbrev Po:=@Tryz.sizeOf148
abbrev II:=@Tryz.sizeOf169
abbrev YL:=@Tryz.sizeOf205
abbrev Ge:=@Tryz.sizeOf22
abbrev VB:=@Tryz.sizeOf23
abbrev YK:=@Tryz.sizeOf24
abbrev LD:=@Tryz.sizeOf26
abbrev AdR:=@Tryz.sizeOf27
abbrev Nl:=@Tryz.sizeOf28
abbrev K9:=@Tryz.sizeOf3
abbrev AiA:=@Tryz.sizeOf33
abbrev AdQ:=@Tryz.sizeOf37
abbrev TT:=@Tryz.sizeOf4
abbrev EW:=@Tryz.sizeOf44
abbrev C3:=@Tryz.sizeOf46
abbrev VA:=@Tryz.sizeOf48
abbrev ys5:=@Tryz.sizeOf5
abbrev AdP:=@Tryz.sizeOf50
abbrev Nk:=@Tryz.sizeOf53
abbrev Pc:=@Tryz.sizeOf62
abbrev Ai9:=@Tryz.sizeOf65
abbrev Ai8:=@Tryz.sizeOf67
abbrev AfO:=@Tryz.sizeOf73
abbrev PG:=@Tryz.sizeOf76
abbrev Mx:=@Tryz.sizeOf78
abbrev JZ:=@Tryz.sizeOf82
abbrev Nj:=@Tryz.sizeOf88
abbrev Ew:=@Tryz.sizeOf9
abbrev Dq:=@Tryz.sizeOf90
abbrev Wj:=@Tryz.underlying108
abbrev GX:=@Tryz.underlying111
abbrev Acv:=@Tryz.underlying118
abbrev MY:=@Tryz.underlying124
abbrev Acu:=@Tryz.underlying140
abbrev YJ:=@Tryz.underlying147
abbrev Pn:=@Tryz.underlying148
abbrev YI:=@Tryz.underlying150
abbrev HB:=@Tryz.underlying163
abbrev YH:=@Tryz.underlying164
abbrev YG:=@Tryz.underlying169
abbrev MX:=@Tryz.underlying202
abbrev MW:=@Tryz.underlying205
abbrev YF:=@Tryz.underlying210
abbrev Dm:=@Tryz.underlying22
abbrev R1:=@Tryz.underlying23
abbrev Ai7:=@Tryz.underlying24
abbrev Mw:=@Tryz.underlying26
abbrev Tp:=@Tryz.underlying27
abbrev Nw:=@Tryz.underlying28
abbrev yu3:=@Tryz.underlying3
abbrev Nv:=@Tryz.underlying31
abbrev AdO:=@Tryz.underlying32
abbrev AdN:=@Tryz.underlying33
abbrev AdM:=@Tryz.underlying36
abbrev AfN:=@Tryz.underlying40
abbrev Mv:=@Tryz.underlying44
abbrev Xo:=@Tryz.underlying46
abbrev R0:=@Tryz.underlying48
abbrev Rz:=@Tryz.underlying50
abbrev E1:=@Tryz.underlying53
abbrev Pb:=@Tryz.underlying62
abbrev AkP:=@Tryz.underlying65
abbrev Mu:=@Tryz.underlying69
abbrev To:=@Tryz.underlying73
abbrev Xn:=@Tryz.underlying76
abbrev TS:=@Tryz.underlying78
abbrev AaT:=@Tryz.underlying82
abbrev PF:=@Tryz.underlying84
abbrev Lb:=@Tryz.underlying9
abbrev J0:=@Tryz.underlying90
abbrev Pm:=@Tryz.zeroValue137
abbrev YE:=@Tryz.zeroValue140
abbrev YD:=@Tryz.zeroValue169
abbrev yz4:=@Tryz.zeroValue4
abbrev YC:=@Tryz.zeroValue44
abbrev Pa:=@Tryz.zeroValue46
abbrev AkO:=@Tryz.zeroValue73
abbrev AfM:=@Tryz.zeroValue76
abbrev YB:=@Tryz.zeroValue78
abbrev OZ:=@Tryz.zeroValue82
abbrev SE:=@Tryz.zeroValue9
abbrev LC:=@Tryz.zeroValue90
theorem Aa {α:Sort _}{a:α}:a=a:=rfl
abbrev Apq:=@decide_eq_false
abbrev Apr:=@decide_eq_true
abbrev Aps:=@Bool.and_eq_true
abbrev Apt:=@decide_eq_true_eq
abbrev Apu:=@Nat.lt_succ_self
abbrev Apv:=@cond_false
abbrev Apw:=@List.getElem?_eq_getElem
abbrev Apx:=@decide_eq_false_iff_not
abbrev Apy:=@List.getD_eq_getElem?_getD
abbrev Apz:=@List.length_append
abbrev Ap0:=@Bool.not_true
abbrev Ap1:=@cond_true
abbrev Ap2:=@List.length_cons
abbrev Ap3:=@List.Perm.refl
abbrev Ap4:=@List.mem_of_getElem?
abbrev Ap5:=@List.Perm.cons
abbrev Ap6:=@Bool.not_eq_true'
abbrev Ap7:=@Bool.true_and
abbrev Ap8:=@Nat.le_refl
abbrev Ap9:=@List.length_map
abbrev ApA:=@Int.le_refl
abbrev ApB:=@Bool.or_eq_false_iff
abbrev ApC:=@List.length_singleton
abbrev ApD:=@Bool.or_eq_true
abbrev ApE:=@Option.getD_some
abbrev ApF:=@List.mem_singleton
abbrev ApG:=@Bool.not_false
abbrev ApH:=@of_decide_eq_true
abbrev ApI:=@List.getElem?_map
abbrev ApJ:=@Bool.false_or
abbrev ApK:=@List.eq_nil_of_length_eq_zero
abbrev ApL:=@Bool.false_eq_true
abbrev ApM:=@Bool.eq_iff_iff
abbrev ApN:=@Bool.and_eq_false_iff
abbrev ApO:=@Bool.false_and
abbrev ApP:=@if_neg
abbrev ApQ:=@Nat.zero_add
abbrev ApR:=@List.append_assoc
abbrev ApS:=@List.getElem?_take
abbrev ApT:=@Bool.and_true
abbrev ApU:=@List.length_drop
abbrev ApV:=@List.all_eq_true
abbrev ApW:=@if_pos
abbrev ApX:=@Bool.not_eq_false'
abbrev ApY:=@Nat.zero_le
abbrev ApZ:=@List.append_nil
abbrev Aqa:=@Bool.and_false
abbrev Aqb:=@List.mem_cons
abbrev Aqc:=@Bool.or_false
abbrev Aqd:=@Bool.or_true
abbrev Aqe:=@if_false
abbrev Aqf:=@List.getElem?_append_left
abbrev Aqg:=@Bool.true_or
abbrev Aqh:=@List.length_nil
abbrev Aqi:=@List.take_length
abbrev Aqj:=@List.map_cons
abbrev Aqk:=@List.take_append_drop
abbrev Aql:=@of_decide_eq_false
abbrev Aqm:=@List.nil_append
abbrev Aqn:=@List.cons_append
abbrev Aqo:=@List.map_map
abbrev Aqp:=@if_true
abbrev Aqq:=@List.length_take
abbrev Aqr:=@List.mem_append
abbrev Aqs:=@List.getElem?_set
open Go Go.RowKit
set_option linter.unusedVariables false
abbrev Fr:=List (Nat×Value)
def look:Fr→Nat→Option Value
 | [],_=>none
 | p::l,i=>bif Nat.beq p.1 i then some p.2 else look l i
theorem Dp (j:Nat)(v:Value)(l:Fr)(i:Nat):look ((j,v)::l) i=if j=i then some v else look l i:=by
 by_cases h:j=i
 ·subst h;simp[look]
 ·have:Nat.beq j i=false:=by
   cases hb:Nat.beq j i
   ·rfl
   ·exact absurd (Nat.eq_of_beq_eq_true hb) h
  simp[look,this,h]
structure EB (n:Nat) (l:Fr) (a:Act):Prop where
 size:a.tmps.size=n
 defers:a.defers=[]
 tm:∀i v,look l i=some v→a.tmps[i]? =some v
def ev:Fr→Operand→Option Value
 | l,.tmp t=>look l t
 | _,.const v=>some v
 | _,.global g=>some (.pointer (some ⟨g,0,none⟩))
 | _,.func f=>some (.func (.func f) #[] #[])
section
variable {n : Nat} {l l' : Fr} {a : Act}
theorem EB.eval (h:EB n l a){x:Operand}{v:Value}(hx:ev l x=some v):a.eval x=v:=by
 cases x with
 | tmp t=>simp[Act.eval,Array.getD_eq_getD_getElem?,h.tm t v hx]
 | const u=>simp only[ev,Option.some.injEq] at hx;subst hx;rfl
 | global g=>simpa[ev,Act.eval] using hx
 | func f=>simpa[ev,Act.eval] using hx
theorem EB.put (h:EB n l a){d:Nat}(hd:Nat.blt d n=true)(v:Value):EB n ((d,v)::l) (a.put (some d) v):=by
 have hd':d<n:=by simpa using hd
 refine⟨by simp[Act.put,h.size],by simp[Act.put,h.defers],λi u hi=>?_⟩;rw[Dp] at hi;simp only[Act.put,Array.getElem?_setIfInBounds]
 split at hi
 ·rename_i e;subst e;simp at hi;subst hi;simp[h.size,hd']
 ·rename_i e;rw[ApP e];exact h.tm i u hi
def Hw:Fr→Fr→Prop
 | [],_=>True
 | p::r,l=>look l p.1=some p.2∧Hw r l
theorem Hw.look:∀{l' l:Fr},Hw l' l→∀i v,look l' i=some v→Proofs.YtphnhpcjnmmhiaaGreatDoor.look l i=some v
 | [],_,_,i,v,h=>by simp[Proofs.YtphnhpcjnmmhiaaGreatDoor.look] at h
 | p::r,l,⟨h1,h2⟩,i,v,h=>by
  obtain⟨j,u⟩:=p;rw[Dp] at h
  split at h
  ·rename_i e;subst e;simp at h;subst h;exact h1
  ·exact Hw.look h2 i v h
theorem EB.sub (h:EB n l a)(hs:Hw l' l):EB n l' a:=⟨h.size,h.defers,λi v hi=>h.tm i v (hs.look i v hi)⟩
end
inductive Ent where
 | blk (b:Nat) (o:Obj)
 | row (v:Value) (e:TypeId) (sz:Nat) (n:Nat) (xs:List Value)
def Ent.foot:Ent→List Nat
 | .blk b _=>[b]
 | .row v _ _ _ _=>v.ownBlock.toList
def Ent.holds (w:World):Ent→Prop
 | .blk b o=>w.heap[b]? =some o
 | .row v e sz n xs=>w.ownsRow 0 e sz v n xs
theorem Ent.lt {w:World}{e:Ent}(h:e.holds w){k:Nat}(hk:k∈e.foot):k<w.heap.size:=by
 cases e with
 | blk b o=>simp[Ent.foot] at hk;subst hk;exact(Array.getElem?_eq_some_iff.1 h).1
 | row v e sz n xs=>simp[Ent.foot,Option.mem_toList] at hk;exact(World.ownsRow.lt h k hk).2
theorem Ent.keep {w w':World}{e:Ent}(h:e.holds w)(hk:∀k∈e.foot,w'.heap[k]? =w.heap[k]?):e.holds w':=by
 cases e with
 | blk b o=>exact(hk b (by simp[Ent.foot])).trans h
 | row v e sz n xs=>
  refine⟨h.1,?_⟩;rcases h.2 with hn | ⟨g,cap,cur,rfl,hb,hgg,rest⟩
  ·exact .inl hn
  ·exact .inr ⟨g,cap,cur,rfl,hb,(hk g (by simp[Ent.foot,Value.ownBlock])).trans hgg,rest⟩
structure St (w0:World) (M:List Nat) (H:List Ent) (w:World):Prop where
 os:w.os=w0.os
 tape:w.tape=w0.tape
 output:w.output=w0.output
 size:w0.heap.size≤w.heap.size
 old:∀k,k<w0.heap.size→k ∉ M→w.heap[k]? =w0.heap[k]?
 has:∀e∈H,e.holds w
 own:∀e∈H,∀k∈e.foot,w0.heap.size≤k∨k∈M
 dis:H.Pairwise (λe e'=>∀k∈e.foot,k ∉ e'.foot)
section
variable {w0 w w' : World} {M M2 : List Nat} {H H' Hr Hin Hout : List Ent}
theorem St.refl (w:World)(M:List Nat):St w M [] w:=⟨rfl,rfl,rfl,Ap8 _,λ_ _ _=>rfl,by simp,by simp,.nil⟩
theorem St.of_below (h:Below w0.heap.size w0 w):St w0 [] [] w:=⟨h.os,h.tape,h.output,h.size,λk hk _=>h.block k hk,by simp,by simp,.nil⟩
theorem St.sub (h:St w0 M H w)(hs:H'.Sublist H):St w0 M H' w:=
 ⟨h.os,h.tape,h.output,h.size,h.old,λe he=>h.has e (hs.subset he),λe he=>h.own e (hs.subset he),h.dis.sublist hs⟩
theorem St.perm (h:St w0 M H w)(hp:H.Perm H'):St w0 M H' w:=
 ⟨h.os,h.tape,h.output,h.size,h.old,λe he=>h.has e (hp.mem_iff.2 he),λe he=>h.own e (hp.mem_iff.2 he),
  (hp.pairwise_iff (λhxy k hk hk'=>hxy k hk' hk)).1 h.dis⟩
theorem Br:∀{H:List Ent} {i:Nat} {e:Ent},H[i]? =some e→H.Perm (e::H.eraseIdx i)
 | x::r,0,e,h=>by simp at h;subst h;simp
 | x::r,i+1,e,h=>by
  simp at h;exact((Br h).cons x).trans (List.Perm.swap e x _)
theorem St.front (h:St w0 M H w){i:Nat}{e:Ent}(hi:H[i]? =some e):St w0 M (e::H.eraseIdx i) w:=h.perm (Br hi)
theorem St.mem_lt (h:St w0 M H w){e:Ent}(he:e∈H){k:Nat}(hk:k∈e.foot):k<w.heap.size:=Ent.lt (h.has e he) hk
theorem St.call (h:St w0 M (Hin++Hr) w)(h':St w M2 Hout w')(hM:∀k∈M2,∃e∈Hin,k∈e.foot):St w0 M (Hout++Hr) w':=by
 have hd:=List.pairwise_append.1 h.dis;have hM2:∀k,k<w0.heap.size→k ∉ M→k ∉ M2:=λk hk hkM hkM2=>by
  obtain⟨e,he,hke⟩:=hM k hkM2;rcases h.own e (List.mem_append_left _ he) k hke with h1 | h1
  ·omega
  ·exact hkM h1
 have hr:∀e∈Hr,∀k∈e.foot,k<w.heap.size∧k ∉ M2:=λe he k hk=>by
  refine⟨h.mem_lt (List.mem_append_right _ he) hk,λhkM2=>?_⟩;obtain⟨e',he',hke'⟩:=hM k hkM2;exact hd.2.2 e' he' e he k hke' hk
 refine⟨h'.os.trans h.os,h'.tape.trans h.tape,h'.output.trans h.output,Nat.le_trans h.size h'.size,λk hk hkM=>?_,λe he=>?_,λe he k hk=>?_,?_⟩
 ·exact(h'.old k (Nat.lt_of_lt_of_le hk h.size) (hM2 k hk hkM)).trans (h.old k hk hkM)
 ·rcases List.mem_append.1 he with he | he
  ·exact h'.has e he
  ·exact Ent.keep (h.has e (List.mem_append_right _ he)) λk hk=>h'.old k (hr e he k hk).1 (hr e he k hk).2
 ·rcases List.mem_append.1 he with he | he
  ·rcases h'.own e he k hk with h1 | h1
   ·exact .inl (Nat.le_trans h.size h1)
   ·obtain⟨e',he',hke'⟩:=hM k h1;exact h.own e' (List.mem_append_left _ he') k hke'
  ·exact h.own e (List.mem_append_right _ he) k hk
 ·refine List.pairwise_append.2 ⟨h'.dis,hd.2.1,λe he e' he' k hk hk'=>?_⟩;rcases h'.own e he k hk with h1 | h1
  ·have:=(hr e' he' k hk').1;omega
  ·exact(hr e' he' k hk').2 h1
theorem St.call0 (h:St w0 M H w)(h':St w [] Hout w'):St w0 M (Hout++H) w':=
 St.call (Hin:=[]) (by simpa using h) h' (by simp)
theorem St.set (h:St w0 M H w){i:Nat}{e e':Ent}(hi:H[i]? =some e)(os:w'.os=w.os)(tape:w'.tape=w.tape)(output:w'.output=w.output)(size:w.heap.size≤w'.heap.size)
  (hb:∀k,k<w.heap.size→k ∉ e.foot→w'.heap[k]? =w.heap[k]?) (he:e'.holds w') (hf:∀k∈e'.foot,k∈e.foot∨w.heap.size≤k):St w0 M (H.set i e') w':=by
 have hp:(e::H.eraseIdx i).Perm H:=(Br hi).symm;have h1:St w0 M ([e]++H.eraseIdx i) w:=h.perm (Br hi);have hil:i<H.length:=(List.getElem?_eq_some_iff.1 hi).1;have h2:St w e.foot [e'] w':=
  ⟨os,tape,output,size,hb,by simpa using he,by simpa using λk hk=>(hf k hk).symm,by simp⟩
 have h3:=h1.call h2 (λk hk=>⟨e,by simp,hk⟩);have hq:(H.set i e')[i]? =some e':=by simp[hil]
 have:=Br hq;rw[List.eraseIdx_set_eq] at this;exact h3.perm this.symm
theorem St.alloc (h:St w0 M H w)(o:Obj):St w0 M (.blk w.heap.size o::H) (w.alloc o):=by
 have h2:St w [] [.blk w.heap.size o] (w.alloc o):=
  ⟨rfl,rfl,rfl,by simp,λk hk _=>Below.heap_alloc w o k hk,by simpa[Ent.holds] using heap_alloc_new w o,by simp[Ent.foot],by simp⟩
 exact h.call0 h2
end
section
variable (P : Program) (n : Nat) (w0 : World) (M : List Nat)
def WL (ops:Array Oper)(Q:Exit→Act→World→Prop)(rest:List Oper)(l:Fr)(H:List Ent):Prop:=∀a w,EB n l a→St w0 M H w→wpList P ops Q rest a w
def WC (c:Code)(Q:Exit→Act→World→Prop)(l:Fr)(H:List Ent):Prop:=∀a w,EB n l a→St w0 M H w→c.wp P Q a w
def WK (K:Act→World→Prop)(l:Fr)(H:List Ent):Prop:=∀a w,EB n l a→St w0 M H w→K a w
def Ni {S:Type}(inv:S→Prop)(fr:S→Fr)(hp:S→List Ent):Act→World→Prop:=λa w=>∃s,inv s∧EB n (fr s) a∧St w0 M (hp s) w
def Cd (l:Fr)(H:List Ent)(o:Oper)(v:Value):Prop:=∀a w,EB n l a→St w0 M H w→(execOp a.eval o).run P w = .ok (.value v) w
end
def Ret (w:World)(M:List Nat)(Φ:Value→List Ent→Prop):Ending→World→Prop:=λe w'=>∃v H,e = .returned v∧St w M H w'∧Φ v H
def Pj (w:World)(v:Value):Ending→World→Prop:=λe w'=>e = .returned v∧St w [] [] w'
variable{b:Bool}{ty:TypeId}{id:Nat}{op:Op}{d:Nat}{pos:String}{af:Array Edge}{j:Nat}
section
variable {P : Program} {n : Nat} {w0 : World} {M : List Nat} {ops : Array Oper} {Q : Exit → Act → World → Prop} {rest : List Oper} {l l' : Fr} {H H' : List Ent} {x y c : Code} {K : Act → World → Prop}
theorem WC.sub (hl:Hw l' l)(hH:H'.Sublist H)(h:WC P n w0 M c Q l' H'):WC P n w0 M c Q l H:=λa w ha hw=>h a w (ha.sub hl) (hw.sub hH)
theorem WK.sub (hl:Hw l' l)(hH:H'.Sublist H)(h:WK n w0 M K l' H'):WK n w0 M K l H:=λa w ha hw=>h a w (ha.sub hl) (hw.sub hH)
theorem WL.sub (hl:Hw l' l)(hH:H'.Sublist H)(h:WL P n w0 M ops Q rest l' H'):WL P n w0 M ops Q rest l H:=λa w ha hw=>h a w (ha.sub hl) (hw.sub hH)
theorem WL.front {i:Nat}{e:Ent}(hi:H[i]? =some e)(h:WL P n w0 M ops Q rest l (e::H.eraseIdx i)):WL P n w0 M ops Q rest l H:=λa w ha hw=>h a w ha (hw.front hi)
theorem AV (h:WC P n w0 M x (Exit.then (λa w=>y.wp P Q a w) Q) l H):WC P n w0 M (x.seq y) Q l H:=λa w ha hw=>wp_seq (h a w ha hw)
theorem As {S:Type}{inv:S→Prop}{fr:S→Fr}{hp:S→List Ent}(s:S)(hi:inv s)(hl:Hw (fr s) l)(hH:(hp s).Sublist H):WK n w0 M (Ni n w0 M inv fr hp) l H:=
 λ_ _ ha hw=>⟨s,hi,ha.sub hl,hw.sub hH⟩
theorem Ax (h:WK n w0 M K l H):WK n w0 M (Exit.then K Q .normal) l H:=h
theorem Ah (h:WK n w0 M (Q (.exit id)) l H):WK n w0 M (Exit.then K Q (.exit id)) l H:=h
theorem Ao (h:WK n w0 M (Q .ret) l H):WK n w0 M (Exit.then K Q .ret) l H:=h
theorem Ca (h:WK n w0 M (Q .normal) l H):WK n w0 M (Exit.inBlock id Q .normal) l H:=h
theorem G9 (h:WK n w0 M (Q .ret) l H):WK n w0 M (Exit.inBlock id Q .ret) l H:=h
theorem AF {J:Prop}(b:Bool)(h1:b=true→J)(h2:b=false→J):J:=by cases b;exact h2 rfl;exact h1 rfl
def Mid (n:Nat)(w0:World)(M:List Nat)(φ:Prop)(l:Fr)(H:List Ent):Act→World→Prop:=λa w=>φ∧EB n l a∧St w0 M H w
theorem Ar (l1:Fr)(H1:List Ent){φ:Prop}(h:WC P n w0 M x (Exit.then (Mid n w0 M φ l1 H1) Q) l H)(h2:φ→WC P n w0 M y Q l1 H1):WC P n w0 M (x.seq y) Q l H:=λa w ha hw=>
 wp_seq (wp_mono (h a w ha hw) λe a w q=>by
  cases e with
  | normal=>exact h2 q.1 a w q.2.1 q.2.2
  | _=>exact q)
theorem Ix {φ:Prop}{l1:Fr}{H1:List Ent}(hφ:φ)(hl:Hw l1 l)(hH:H1.Sublist H):WK n w0 M (Mid n w0 M φ l1 H1) l H:=λ_ _ ha hw=>⟨hφ,ha.sub hl,hw.sub hH⟩
theorem fb {a:Bool}(h:a=b):some (Value.bool a)=some (Value.bool b):=by rw[h]
theorem Cu (h:WC P n w0 M y Q l H):WK n w0 M (λa w=>y.wp P Q a w) l H:=h
theorem B3 (h:WK n w0 M (Q .normal) l H):WC P n w0 M .skip Q l H:=λa w ha hw=>wp_skip (h a w ha hw)
theorem Bs (h:WK n w0 M (Q (.exit id)) l H):WC P n w0 M (.exit id) Q l H:=λa w ha hw=>wp_exit (h a w ha hw)
theorem BO (h:WK n w0 M (Q .ret) l H):WC P n w0 M .ret Q l H:=λa w ha hw=>wp_ret (h a w ha hw)
theorem Au (h:WC P n w0 M c (Exit.inBlock id Q) l H):WC P n w0 M (.block id c) Q l H:=λa w ha hw=>wp_block (h a w ha hw)
theorem AR (h:WK n w0 M (Q .normal) l H):WK n w0 M (Exit.inBlock id Q (.exit id)) l H:=λa w ha hw=>by
 show if id=id then _ else _
 rw[ApW rfl];exact h a w ha hw
theorem My {o:Operand}(ho:ev l o=some (.bool b))(h1:b=true→WC P n w0 M x Q l H)(h2:b=false→WC P n w0 M y Q l H):WC P n w0 M (.cond o x y) Q l H:=
 λa w ha hw=>wp_cond_split (ha.eval ho) (λe=>h1 e a w ha hw) (λe=>h2 e a w ha hw)
theorem CG {o:Operand}(ho:ev l o=some (.bool b))(hb:b=true)(h:WC P n w0 M x Q l H):WC P n w0 M (.cond o x y) Q l H:=
 λa w ha hw=>by subst hb;exact wp_cond_true (ha.eval ho) (h a w ha hw)
theorem CV {o:Operand}(ho:ev l o=some (.bool b))(hb:b=false)(h:WC P n w0 M y Q l H):WC P n w0 M (.cond o x y) Q l H:=
 λa w ha hw=>by subst hb;exact wp_cond_false (ha.eval ho) (h a w ha hw)
theorem T0 {S:Type}(inv:S→Prop)(fr:S→Fr)(hp:S→List Ent)(μ:S→Nat)(s0:S)(h0:inv s0)(hl:Hw (fr s0) l)(hH:(hp s0).Sublist H)
  (round:∀s,inv s→WC P n w0 M c (Exit.then (Ni n w0 M (λs'=>inv s'∧μ s'<μ s) fr hp) Q) (fr s) (hp s)):WC P n w0 M (.loop c) Q l H:=λa w ha hw=>by
 refine wp_loop_ghost (λk a w=>∃s,μ s=k∧inv s∧EB n (fr s) a∧St w0 M (hp s) w) (μ s0) ⟨s0,rfl,h0,ha.sub hl,hw.sub hH⟩ ?_;rintro k a w ⟨s,rfl,hi,ha,hw⟩;refine wp_mono (round s hi a w ha hw) λe a' w' q=>?_
 cases e with
 | normal=>
  obtain⟨s',⟨hi',hlt⟩,ha',hw'⟩:=q;exact⟨μ s',hlt,s',rfl,hi',ha',hw'⟩
 | _=>exact q
theorem A4 {ops:List Oper}(h:WL P n w0 M ops.toArray Q ops l H):WC P n w0 M (.region id ops.toArray false) Q l H:=λa w ha hw=>wp_region_lit (h a w ha hw)
theorem Az (h:WK n w0 M (Q .normal) l H):WL P n w0 M ops Q [] l H:=λa w ha hw=>wpList_nil (h a w ha hw)
def Ed (ops:Array Oper)(j:Nat):Option Nat:=(ops[j]?).bind (·.dst)
theorem Gv {a:Act}(ha:EB n l a)(hj:Ed ops j=some d)(hv:look l d=some (.bool b)):yielded ops a.tmps j=some b:=by
 unfold Ed at hj;simp[yielded,hj,ha.tm d _ hv]
theorem Jp {a:Act}(ha:EB n l a)(hj:Ed ops j=some d)(hv:look l d=some undef):yielded ops a.tmps j=none:=by
 unfold Ed at hj;simp[yielded,hj,ha.tm d _ hv,undef]
theorem Dd {d:Option Nat}{dj:Nat}{want:Bool}(hj:Ed ops j=some dj)(hv:look l dj=some (.bool b))(hb:b=want)
  (h:WL P n w0 M ops Q ({ dst:=d,op:=op,type:=ty,pos:=pos,after:=af,guard:=none }::rest) l H) :
  WL P n w0 M ops Q ({ dst:=d,op:=op,type:=ty,pos:=pos,after:=af,guard:=some (j,want) }::rest) l H:=λa w ha hw=>by
 have h1:=h a w ha hw;have hy:=Gv ha hj hv;subst hb;simp only[wpList,Region.wanted,hy,beq_self_eq_true,Aqp] at h1 ⊢;exact h1
theorem DL {dj:Nat}{want:Bool}(hj:Ed ops j=some dj)(hv:look l dj=some (.bool b))(hb:b = !want)(hn:Nat.blt d n=true)
  (h:WL P n w0 M ops Q rest ((d,undef)::l) H) :
  WL P n w0 M ops Q ({ dst:=some d,op:=op,type:=ty,pos:=pos,after:=af,guard:=some (j,want) }::rest) l H:=λa w ha hw=>by
 have hy:=Gv ha hj hv;subst hb;refine wpList_skip ?_ (h _ w (ha.put hn _) hw);simp[Region.wanted,hy]
theorem Ef {dj:Nat}{want:Bool}(hj:Ed ops j=some dj)(hv:look l dj=some undef)(hn:Nat.blt d n=true)
  (h:WL P n w0 M ops Q rest ((d,undef)::l) H) :
  WL P n w0 M ops Q ({ dst:=some d,op:=op,type:=ty,pos:=pos,after:=af,guard:=some (j,want) }::rest) l H:=λa w ha hw=>by
 have hy:=Jp ha hj hv;refine wpList_skip ?_ (h _ w (ha.put hn _) hw);simp[Region.wanted,hy]
theorem Cj {v:Value}(hr:Cd P n w0 M l H { dst:=some d,op:=op,type:=ty,pos:=pos,after:=af,guard:=none } v)
  (hn:Nat.blt d n=true) (h:WL P n w0 M ops Q rest ((d,v)::l) H):WL P n w0 M ops Q ({ dst:=some d,op:=op,type:=ty,pos:=pos,after:=af,guard:=none }::rest) l H:=λa w ha hw=>
 wpList_plain rfl λK hK=>by
  unfold Oper.wp;rw[hr a w ha hw];exact hK _ _ (h _ w (ha.put hn v) hw)
theorem Pd
  (hr:∀a w,EB n l a→St w0 M H w→∃v w' H',(execOp a.eval { dst:=some d,op:=op,type:=ty,pos:=pos,after:=af,guard:=none }).run P w = .ok (.value v) w'∧St w0 M H' w'∧WL P n w0 M ops Q rest ((d,v)::l) H')
  (hn:Nat.blt d n=true):WL P n w0 M ops Q ({ dst:=some d,op:=op,type:=ty,pos:=pos,after:=af,guard:=none }::rest) l H:=λa w ha hw=>
 wpList_plain rfl λK hK=>by
  obtain⟨v,w',H',h1,h2,h3⟩:=hr a w ha hw;unfold Oper.wp;rw[h1];exact hK _ _ (h3 _ w' (ha.put hn v) h2)
theorem Oq {f:FuncId}{args:Array Value}
  (hr:∀a w,EB n l a→St w0 M H w→(execOp a.eval { dst:=some d,op:=op,type:=ty,pos:=pos,after:=af,guard:=none }).run P w = .ok (.enter f args) w)
  (hc:∀w,St w0 M H w→Calls P f args w (λe w'=>∃v H',e = .returned v∧St w0 M H' w'∧WL P n w0 M ops Q rest ((d,v)::l) H'))
  (hn:Nat.blt d n=true):WL P n w0 M ops Q ({ dst:=some d,op:=op,type:=ty,pos:=pos,after:=af,guard:=none }::rest) l H:=λa w ha hw=>
 wpList_plain rfl λK hK=>by
  unfold Oper.wp;rw[hr a w ha hw];refine(hc w hw).mono ?_;rintro e w' ⟨v,H',rfl,h2,h3⟩;exact hK _ _ (h3 _ w' (ha.put hn v) h2)
end
def B (l:List UInt8):ByteArray:=⟨l.toArray⟩
theorem La (l:List UInt8):(B l).toList=l:=by
 rw[Go.ByteArray.toList_eq];rfl
theorem Ie (l:List UInt8):(B l).size=l.length:=by simp[B,ByteArray.size]
theorem AoW (s:ByteArray):s=B s.data.toList:=by cases s;simp[B]
theorem Ai3 (p q:List UInt8):B p++B q=B (p++q):=by
 apply ByteArray.ext;simp[B,ByteArray.data_append]
theorem SB (l:List UInt8)(i j:Nat):(B l).extract i j=B ((l.drop i).take (j-i)):=by
 rw[Lib.extract_eq];rfl
theorem Ant (l:List UInt8)(i:Nat):(B l)[i]? =l[i]?:=by
 by_cases h:i<(B l).size
 ·have h':i<l.length:=by rw[Ie] at h;exact h
  rw[Go.ByteArray.getElem?_lt' _ _ h,Apw h'];rfl
 ·have h' : ¬ i<l.length:=by rw[Ie] at h;exact h
  rw[Go.ByteArray.getElem?_ge' _ _ h,List.getElem?_eq_none (by omega)]
section
variable {P : Program} {n : Nat} {w0 : World} {M : List Nat} {l : Fr} {H : List Ent} {d : Option Nat} {x y c : Operand} {ty t t' : TypeId} {pos : String} {af : Array Edge} {g : Option (Nat × Bool)} {v u : Value}
theorem AE (h:ev l x=some v):Cd P n w0 M l H { dst:=d,op:=.move x,type:=ty,pos:=pos,after:=af,guard:=g } v:=λa w ha _=>by
 simp[execOp,ha.eval h]
theorem BS (h:ev l x=some v):Cd P n w0 M l H { dst:=d,op:=.assign x,type:=ty,pos:=pos,after:=af,guard:=g } v:=λa w ha _=>by
 simp[execOp,ha.eval h]
theorem E9 (hc:ev l c=some (.bool b))(hb:b=true)(h:ev l x=some v):Cd P n w0 M l H { dst:=d,op:=.pick c x y,type:=ty,pos:=pos,after:=af,guard:=g } v:=λa w ha _=>by
 subst hb;simp[execOp,ha.eval h,ha.eval hc,asBool]
theorem DX (hc:ev l c=some (.bool b))(hb:b=false)(h:ev l y=some v):Cd P n w0 M l H { dst:=d,op:=.pick c x y,type:=ty,pos:=pos,after:=af,guard:=g } v:=λa w ha _=>by
 subst hb;simp[execOp,ha.eval h,ha.eval hc,asBool]
theorem DZ {vs:Array Value}{i:Nat}(h:ev l x=some (.tuple vs))(hi:vs[i]? =some v):Cd P n w0 M l H { dst:=d,op:=.extract x i,type:=ty,pos:=pos,after:=af,guard:=g } v:=λa w ha _=>by
 simp[execOp,ha.eval h,Instr.extract,hi]
theorem Nd (h:ev l x=some (.bool b)):Cd P n w0 M l H { dst:=d,op:=.unOp .not t x,type:=ty,pos:=pos,after:=af,guard:=g } (.bool (!b)):=λa w ha _=>by
 simp[execOp,ha.eval h,Op.unary]
theorem CH (op:BinOp)(k k':IntKind)(p q:Int)(w:World):(eqGuard op t x y (.int k p) (.int k' q)).run P w = .ok () w:=by
 unfold eqGuard;split<;>simp
theorem JI (op:BinOp)(p q:ByteArray)(w:World):(eqGuard op t x y (.string p) (.string q)).run P w = .ok () w:=by
 unfold eqGuard;split<;>simp
theorem Yv (op:BinOp)(p q:Bool)(w:World):(eqGuard op t x y (.bool p) (.bool q)).run P w = .ok () w:=by
 unfold eqGuard;split<;>simp
section
variable {k : IntKind} {p q z : Int} (hx : ev l x = some (.int k p)) (hy : ev l y = some (.int k q))
include hx hy
theorem AbA:Cd P n w0 M l H { dst:=d,op:=.binOp .leq t x y t',type:=ty,pos:=pos,after:=af,guard:=g } (.bool (decide (p≤q))):=λa w ha _=>by
 simp[execOp,ha.eval hx,ha.eval hy,CH,binOp,Op.intCmp]
theorem Ajy:Cd P n w0 M l H { dst:=d,op:=.binOp .geq t x y t',type:=ty,pos:=pos,after:=af,guard:=g } (.bool (decide (q≤p))):=λa w ha _=>by
 simp[execOp,ha.eval hx,ha.eval hy,CH,binOp,Op.intCmp]
theorem Alu:Cd P n w0 M l H { dst:=d,op:=.binOp .eql t x y t',type:=ty,pos:=pos,after:=af,guard:=g } (.bool (decide (p=q))):=λa w ha _=>by
 have e:(p ==q)=decide (p=q):=by rw[ApM];simp
 simp[execOp,ha.eval hx,ha.eval hy,CH,binOp,Op.intCmp,e]
theorem Qa:Cd P n w0 M l H { dst:=d,op:=.binOp .neq t x y t',type:=ty,pos:=pos,after:=af,guard:=g } (.bool (!decide (p=q))):=λa w ha _=>by
 have e:(p !=q) = !decide (p=q):=by rw[ApM];simp
 simp[execOp,ha.eval hx,ha.eval hy,CH,binOp,Op.intCmp,e]
end
section
variable {p q : List UInt8} (hx : ev l x = some (.string (B p))) (hy : ev l y = some (.string (B q)))
include hx hy
end
theorem OD {p:List UInt8}(ht:P.underlying t=some .string)(h:ev l x=some (.string (B p))):Cd P n w0 M l H { dst:=d,op:=.call { callee:=.builtin .len,args:=#[x],argTypes:=#[t] },type:=ty,pos:=pos,after:=af,guard:=g } (.int .i64 p.length):=λa w ha _=>by
 simp[execOp,resolve,invoke,builtin,ha.eval h,Builtin.len_,run_underlying ht,goInt,Ie]
theorem Ds {k:IntKind}{i:Int}{m:Nat}(code:BoundsCode)(w:World)(h0:0≤i)(h1:i≤m):(Instr.sliceBound (.int k i) m code).run P w = .ok i.toNat w:=by
 simp[Instr.sliceBound,asIntOf,h0,h1]
end
end Go.Proofs.YtphnhpcjnmmhiaaGreatDoor
namespace Go.Proofs.YtphnhpcjnmmhiaaGreatDoor.Q
open Go Go.RowKit
set_option linter.unusedVariables false
structure Fz where
 f:Nat→Option Obj
 nm:Nat→Nat→Option Nat
instance:CoeFun Fz (λ_=>Nat→Option Obj):=⟨Fz.f⟩
structure Fz.le (Z Z':Fz):Prop where
 f:∀b o,Z b=some o→Z' b=some o
 nm:∀k i b,Z.nm k i=some b→Z'.nm k i=some b
instance {Z Z':Fz}:CoeFun (Fz.le Z Z') (λ_=>∀b o,Z b=some o→Z' b=some o):=⟨Fz.le.f⟩
theorem Fz.le.refl (Z:Fz):Fz.le Z Z:=⟨λ_ _ h=>h,λ_ _ _ h=>h⟩
theorem Fz.le.trans {Z Z' Z'':Fz}(h:Fz.le Z Z')(h':Fz.le Z' Z''):Fz.le Z Z'':=⟨λb o e=>h' b o (h b o e),λk i b e=>h'.nm k i b (h.nm k i b e)⟩
structure Frz (Z:Fz) (w:World):Prop where
 f:∀b o,Z b=some o→w.heap[b]? =some o
 nm:∀k i b,Z.nm k i=some b→k<w.heap.size
instance {Z:Fz}{w:World}:CoeFun (Frz Z w) (λ_=>∀b o,Z b=some o→w.heap[b]? =some o):=⟨Frz.f⟩
def LB (Z:Fz)(b o:Nat):Option Value:=match Z b with
 | some (.cells cs _ _)=>cs[o]?
 | _=>none
variable{v:Value}
theorem TR {Z Z':Fz}(h:Fz.le Z Z'){b o:Nat}(e:LB Z b o=some v):LB Z' b o=some v:=by
 unfold LB at *
 cases hz:Z b with
 | none=>simp[hz] at e
 | some ob=>rw[h b ob hz];simpa[hz] using e
theorem PE {Z:Fz}{w:World}(h:Frz Z w){b o:Nat}(e:LB Z b o=some v):w.cell? ⟨b,o,none⟩=some v:=by
 unfold LB at e
 cases hz:Z b with
 | none=>simp[hz] at e
 | some ob=>
  rw[hz] at e
  cases ob with
  | cells cs t fz=>rw[cell_of_row w b o cs t fz (h b _ hz)];exact e
  | _=>cases e
structure Rp where
 p:Fz→Value→Prop
 mono:∀{Z Z':Fz} {v:Value},Fz.le Z Z'→p Z v→p Z' v
 one:Bool
 hone:one=true→∀Z v,p Z v→v.oneCell'=true
def rv (x:Value):Rp:=⟨λ_ y=>y=x,λ_ h=>h,x.oneCell',λh _ _ e=>by rw[e];exact h⟩
abbrev rI (k:IntKind)(n:Int):Rp:=rv (.int k n)
abbrev rB (b:Bool):Rp:=rv (.bool b)
abbrev rS (s:List UInt8):Rp:=rv (.string (B s))
def B9 (Z:Fz):List Rp→List Value→Prop
 | [],[]=>True
 | r::rs,v::vs=>r.p Z v∧B9 Z rs vs
 | _,_=>False
theorem B9.mono {Z Z':Fz}(h:Fz.le Z Z'):∀{rs:List Rp} {vs:List Value},B9 Z rs vs→B9 Z' rs vs
 | [],[],_=>trivial
 | r::rs,v::vs,⟨h1,h2⟩=>⟨r.mono h h1,B9.mono h h2⟩
theorem B9.length {Z:Fz}:∀{rs:List Rp} {vs:List Value},B9 Z rs vs→vs.length=rs.length
 | [],[],_=>rfl
 | r::rs,v::vs,⟨_,h2⟩=>by simp[B9.length h2]
theorem B9.at {Z:Fz}:∀{rs:List Rp} {vs:List Value},B9 Z rs vs→∀{i:Nat} {r:Rp},rs[i]? =some r→∃v,vs[i]? =some v∧r.p Z v
 | [],[],_,i,r,h=>by simp at h
 | r::rs,v::vs,⟨h1,h2⟩,0,r',h=>by simp at h;subst h;exact⟨v,rfl,h1⟩
 | r::rs,v::vs,⟨h1,h2⟩,i+1,r',h=>by simpa using B9.at h2 (by simpa using h)
theorem B9.append {Z:Fz}:∀{rs:List Rp} {vs:List Value} {rs':List Rp} {vs':List Value},B9 Z rs vs→B9 Z rs' vs'→B9 Z (rs++rs') (vs++vs')
 | [],[],_,_,_,h=>h
 | r::rs,v::vs,_,_,⟨h1,h2⟩,h=>⟨h1,B9.append h2 h⟩
theorem B9.take {Z:Fz}:∀{rs:List Rp} {vs:List Value} (k:Nat),B9 Z rs vs→B9 Z (rs.take k) (vs.take k)
 | _,_,0,_=>by simp[B9]
 | [],[],k+1,_=>by simp[B9]
 | r::rs,v::vs,k+1,⟨h1,h2⟩=>⟨h1,B9.take k h2⟩
theorem B9.drop {Z:Fz}:∀{rs:List Rp} {vs:List Value} (k:Nat),B9 Z rs vs→B9 Z (rs.drop k) (vs.drop k)
 | _,_,0,h=>by simpa using h
 | [],[],k+1,_=>by simp[B9]
 | r::rs,v::vs,k+1,⟨h1,h2⟩=>by simpa using B9.drop k h2
theorem B9.set {Z:Fz}:∀{rs:List Rp} {vs:List Value} (k:Nat) {r:Rp} {v:Value},B9 Z rs vs→r.p Z v→B9 Z (rs.set k r) (vs.set k v)
 | [],[],k,_,_,h,_=>by simp[B9]
 | r::rs,v::vs,0,_,_,⟨h1,h2⟩,h=>⟨h,h2⟩
 | r::rs,v::vs,k+1,_,_,⟨h1,h2⟩,h=>⟨h1,B9.set k h2 h⟩
theorem B9.one {Z:Fz}:∀{rs:List Rp} {vs:List Value},rs.all (·.one)=true→B9 Z rs vs→∀v∈vs,v.oneCell'=true
 | [],[],_,_,_,h=>by simp at h
 | r::rs,v::vs,ho,⟨h1,h2⟩,u,h=>by
  simp only[List.all_cons,Aps] at ho;rcases List.mem_cons.1 h with rfl | h
  ·exact r.hone ho.1 Z _ h1
  ·exact B9.one ho.2 h2 u h
theorem B9.eq_rv {Z:Fz}:∀{us vs:List Value},B9 Z (us.map Q.rv) vs→vs=us
 | [],[],_=>rfl
 | u::us,v::vs,⟨h1,h2⟩=>by rw[show v=u from h1,B9.eq_rv h2]
def Cz (rs:List Rp):Rp:=⟨λZ v=>∃us:List Value,v = .agg us.toArray∧B9 Z rs us,λh ⟨us,e,hu⟩=>⟨us,e,hu.mono h⟩,false,λh=>by cases h⟩
def DW (rs:List Rp):Rp:=⟨λZ v=>∃us:List Value,v = .tuple us.toArray∧B9 Z rs us,λh ⟨us,e,hu⟩=>⟨us,e,hu.mono h⟩,false,λh=>by cases h⟩
def rIf (t:TypeId)(r:Rp):Rp:=⟨λZ v=>∃u,v = .iface t u∧r.p Z u,λh ⟨u,e,hu⟩=>⟨u,e,r.mono h hu⟩,true,λ_ Z v ⟨u,e,_⟩=>by rw[e];rfl⟩
def SlZ (sz:Nat)(xs:List (List Rp))(Z:Fz)(v:Value):Prop:=
 ∃A cap,v = .slice A xs.length cap∧xs.length≤cap∧cap≤maxLen∧(A=none→cap=0)∧
  ∀i c,xs[i]? =some c→c.length=sz∧∃a:Addr,A=some a∧a.spot=none∧∀j r,c[j]? =some r→∃u,LB Z a.block (a.off+(i*sz+j))=some u∧r.p Z u
theorem SlZ.mono {sz:Nat}{xs:List (List Rp)}{Z Z':Fz}{v:Value}(h:Fz.le Z Z'):SlZ sz xs Z v→SlZ sz xs Z' v:=λ⟨A,cap,e,h1,h2,h3,h4⟩=>
 ⟨A,cap,e,h1,h2,h3,λi c hi=>by
  obtain⟨hl,a,ha,hs,hc⟩:=h4 i c hi;exact⟨hl,a,ha,hs,λj r hj=>by
   obtain⟨u,hu,hr⟩:=hc j r hj;exact⟨u,TR h hu,r.mono h hr⟩⟩⟩
def B4 (sz:Nat)(xs:List (List Rp)):Rp:=⟨SlZ sz xs,SlZ.mono,true,λ_ Z v ⟨A,cap,e,_⟩=>by rw[e];rfl⟩
theorem SlZ.nil (sz:Nat)(Z:Fz):SlZ sz [] Z (.slice none 0 0):=⟨none,0,rfl,Ap8 _,by simp[maxLen],λ_=>rfl,λi c h=>by simp at h⟩
def Hx (r r':Rp):Prop:=∀Z v,r.p Z v→r'.p Z v
theorem Hx.refl (r:Rp):Hx r r:=λ_ _ h=>h
theorem Hx.nil (sz:Nat):Hx (rv (.slice none 0 0)) (B4 sz []):=λZ v h=>by rw[show v=_ from h];exact SlZ.nil sz Z
abbrev Fr:=List (Nat×Rp)
def look:Fr→Nat→Option Rp
 | [],_=>none
 | p::l,i=>bif Nat.beq p.1 i then some p.2 else look l i
theorem Dp (j:Nat)(v:Rp)(l:Fr)(i:Nat):look ((j,v)::l) i=if j=i then some v else look l i:=by
 by_cases h:j=i
 ·subst h;simp[look]
 ·have:Nat.beq j i=false:=by
   cases hb:Nat.beq j i
   ·rfl
   ·exact absurd (Nat.eq_of_beq_eq_true hb) h
  simp[look,this,h]
structure EB (n:Nat) (l:Fr) (a:Act) (Z:Fz):Prop where
 size:a.tmps.size=n
 defers:a.defers=[]
 tm:∀i r,look l i=some r→∃v,a.tmps[i]? =some v∧r.p Z v
def ev:Fr→Operand→Option Rp
 | l,.tmp t=>look l t
 | _,.const v=>some (rv v)
 | _,.global g=>some (rv (.pointer (some ⟨g,0,none⟩)))
 | _,.func f=>some (rv (.func (.func f) #[] #[]))
variable{i:Nat}
section
variable {n : Nat} {l l' : Fr} {a : Act} {Z Z' : Fz}
theorem EB.ev (h:EB n l a Z){x:Operand}{r:Rp}(hx:Q.ev l x=some r):r.p Z (a.eval x):=by
 cases x with
 | tmp t=>obtain⟨v,hv,hp⟩:=h.tm t r hx;simpa[Act.eval,Array.getD_eq_getD_getElem?,hv] using hp
 | const u=>simp only[Q.ev,Option.some.injEq] at hx;subst hx;rfl
 | global g=>simp only[Q.ev,Option.some.injEq] at hx;subst hx;rfl
 | func f=>simp only[Q.ev,Option.some.injEq] at hx;subst hx;rfl
theorem EB.eval (h:EB n l a Z){x:Operand}(hx:Q.ev l x=some (rv v)):a.eval x=v:=h.ev hx
theorem EB.put (h:EB n l a Z){d:Nat}(hd:Nat.blt d n=true){r:Rp}{v:Value}(hv:r.p Z v):EB n ((d,r)::l) (a.put (some d) v) Z:=by
 have hd':d<n:=by simpa using hd
 refine⟨by simp[Act.put,h.size],by simp[Act.put,h.defers],λi u hi=>?_⟩;rw[Dp] at hi;simp only[Act.put,Array.getElem?_setIfInBounds]
 split at hi
 ·rename_i e;subst e;simp at hi;subst hi;exact⟨v,by simp[h.size,hd'],hv⟩
 ·rename_i e;rw[ApP e];exact h.tm i u hi
theorem EB.put_none (h:EB n l a Z)(v:Value):EB n l (a.put none v) Z:=h
theorem EB.mono (h:EB n l a Z)(hz:Fz.le Z Z'):EB n l a Z':=⟨h.size,h.defers,λi r hi=>let ⟨v,hv,hp⟩:=h.tm i r hi;⟨v,hv,r.mono hz hp⟩⟩
def Hw:Fr→Fr→Prop
 | [],_=>True
 | p::r,l=>(∃q,look l p.1=some q∧Hx q p.2)∧Hw r l
theorem Hw.look:∀{l' l:Fr},Hw l' l→∀i v,Q.look l' i=some v→∃q,Q.look l i=some q∧Hx q v
 | [],_,_,i,v,h=>by simp[Q.look] at h
 | p::r,l,⟨h1,h2⟩,i,v,h=>by
  obtain⟨j,u⟩:=p;rw[Dp] at h
  split at h
  ·rename_i e;subst e;simp at h;subst h;exact h1
  ·exact Hw.look h2 i v h
theorem Hw.nil:Hw [] l:=trivial
theorem Hw.c {r:Rp}{t:Fr}(h:Q.look l i=some r)(ht:Hw t l):Hw ((i,r)::t) l:=⟨⟨r,h,Hx.refl r⟩,ht⟩
theorem Hw.c5 {i1 i2 i3 i4 i5:Nat}{r1 r2 r3 r4 r5:Rp}{t:Fr}(h1:Q.look l i1=some r1)(h2:Q.look l i2=some r2)(h3:Q.look l i3=some r3)(h4:Q.look l i4=some r4)(h5:Q.look l i5=some r5)(ht:Hw t l):Hw ((i1,r1)::(i2,r2)::(i3,r3)::(i4,r4)::(i5,r5)::t) l:=
 Hw.c h1 (Hw.c h2 (Hw.c h3 (Hw.c h4 (Hw.c h5 ht))))
theorem EB.sub (h:EB n l a Z)(hs:Hw l' l):EB n l' a Z:=⟨h.size,h.defers,λi v hi=>by
 obtain⟨q,hq,hle⟩:=hs.look i v hi;obtain⟨u,hu,hp⟩:=h.tm i q hq;exact⟨u,hu,hle Z u hp⟩⟩
end
inductive Ent where
 | obj (b:Nat) (o:Obj)
 | blk (b:Nat) (cs:List Rp) (e:TypeId)
 | row (v:Value) (e:TypeId) (sz:Nat) (xs:List (List Rp))
 | map (b:Nat) (m:List (List UInt8×Rp))
 | fact (v:Value) (r:Rp)
 | bld (T e:TypeId) (b:Nat) (v:Value) (l:List UInt8)
 | mit (b it:Nat) (m rest:List (List UInt8×Rp)) (cur:Option (List UInt8×Rp))
 | itz (it:Nat) (m rest:List (List UInt8×Rp)) (cur:Option (List UInt8×Rp))
 | imap (b:Nat) (m:List (Int×Rp))
 | pool (k:Nat) (v:Value) (e:TypeId) (xs:List (List Rp))
 | poolw (k:Nat) (v:Value) (e re:TypeId) (rz:Nat) (xs:List ((Value→List Rp)×List (List Rp))) (out:Option (Nat×(Nat×Value)))
 | poolm (k:Nat) (v:Value) (e:TypeId) (xs:List ((Nat→List Rp)×List (List UInt8×Rp))) (out:Option (Nat×(Nat×Nat)))
def Acg:Value→List Nat
 | .tuple a=>a.toList.map λx=>match x with
  | .int _ n=>n.toNat
  | _=>0
 | _=>[]
def Ak4:Value→Nat×Value
 | .tuple a=>match a.toList with
  | [.int _ n,r]=>(n.toNat,r)
  | _=>(0,.tuple #[])
 | _=>(0,.tuple #[])
def VT:Value→List (Nat×Value)
 | .tuple a=>a.toList.map Ak4
 | _=>[]
def Al0 (ps:List (Nat×Value)):Value:=.tuple (ps.map λp=>Value.tuple #[.int .i64 (Int.ofNat p.1),p.2]).toArray
theorem Ajg (ps:List (Nat×Value)):VT (Al0 ps)=ps:=by
 simp only[VT,Al0,Aqo];exact(List.map_congr_left λp _=>by simp[Ak4]).trans (List.map_id _)
def ftW (ps:List (Nat×Value)):List Nat:=ps.flatMap λp=>p.1::p.2.ownBlock.toList
def AgX:List (Nat×Value)→Option (Nat×(Nat×Value))→List (Nat×Value)
 | ps,none=>ps
 | ps,some o=>ps.eraseIdx o.1
def H9 (v:Value):List (Nat×Nat):=(VT v).map λp=>(p.1,match p.2 with
 | .int _ n=>n.toNat
 | _=>0)
def Aj5 (ms:List (Nat×Nat)):Value:=Al0 (ms.map λp=>(p.1,Value.int .i64 (Int.ofNat p.2)))
theorem Ade (ms:List (Nat×Nat)):H9 (Aj5 ms)=ms:=by
 simp only[H9,Aj5,Ajg,Aqo];exact(List.map_congr_left λp _=>by simp).trans (List.map_id _)
def WY (ps:List (Nat×Nat)):List Nat:=ps.flatMap λp=>[p.1,p.2]
def Ab7:List (Nat×Nat)→Option (Nat×(Nat×Nat))→List (Nat×Nat)
 | ps,none=>ps
 | ps,some o=>ps.eraseIdx o.1
def Ent.gk:Ent→List Nat
 | .pool k _ _ _=>[k]
 | .poolw k _ _ _ _ _ _=>[k]
 | .poolm k _ _ _ _=>[k]
 | _=>[]
def Ent.gn:Ent→Nat
 | .pool _ v _ _=>(Acg v).length
 | .poolw _ v _ _ _ _ _=>(VT v).length
 | .poolm _ v _ _ _=>(H9 v).length
 | _=>0
def Ent.foot:Ent→List Nat
 | .obj b _=>[b]
 | .blk b _ _=>[b]
 | .row v _ _ _=>v.ownBlock.toList
 | .map b _=>[b]
 | .fact _ _=>[]
 | .bld _ _ b v _=>b::v.ownBlock.toList
 | .mit b it _ _ _=>[b,it]
 | .itz it _ _ _=>[it]
 | .imap b _=>[b]
 | .pool _ v _ _=>Acg v
 | .poolw _ v _ _ _ _ out=>ftW (AgX (VT v) out)
 | .poolm _ v _ _ out=>WY (Ab7 (H9 v) out)
def AfH (Z:Fz):List (Int×Rp)→List MapEntry→Prop
 | [],[]=>True
 | p::f,e::es=>(e.key = .int .i64 p.1∧p.2.p Z e.val)∧AfH Z f es
 | _,_=>False
theorem AfH.mono {Z Z':Fz}(h:Fz.le Z Z'):∀{f:List (Int×Rp)} {es:List MapEntry},AfH Z f es→AfH Z' f es
 | [],[],_=>trivial
 | p::f,e::es,⟨⟨h1,h2⟩,h3⟩=>⟨⟨h1,p.2.mono h h2⟩,AfH.mono h h3⟩
def SC (Z:Fz):List (List UInt8×Rp)→List MapEntry→Prop
 | [],[]=>True
 | p::f,e::es=>(e.key = .string (B p.1)∧p.2.p Z e.val)∧SC Z f es
 | _,_=>False
theorem SC.mono {Z Z':Fz}(h:Fz.le Z Z'):∀{f:List (List UInt8×Rp)} {es:List MapEntry},SC Z f es→SC Z' f es
 | [],[],_=>trivial
 | p::f,e::es,⟨⟨h1,h2⟩,h3⟩=>⟨⟨h1,p.2.mono h h2⟩,SC.mono h h3⟩
def JK (Z:Fz)(m:List (List UInt8×Rp))(es:List MapEntry)(ck:Nat):Prop:=
 (m.map (·.1)).Nodup∧(es.map (·.born)).Nodup∧(∀e∈es,e.born<ck)∧∃f:List (List UInt8×Rp),f.Perm m∧SC Z f es
theorem JK.mono {Z Z':Fz}(h:Fz.le Z Z'){m:List (List UInt8×Rp)}{es:List MapEntry}{ck:Nat}:JK Z m es ck→JK Z' m es ck:=λ⟨h1,h2,h3,f,h4,h5⟩=>⟨h1,h2,h3,f,h4,h5.mono h⟩
def Anp (Z:Fz)(rest:List (List UInt8×Rp))(es:List MapEntry)(seen:Array Nat):Prop:=∃f,f.Perm rest∧SC Z f (es.filter λe=>!seen.contains e.born)
def Cur (Z:Fz)(es:List MapEntry)(ck:Nat)(seen:Array Nat)(c0:Nat):Option (List UInt8×Rp)→Prop
 | none=>True
 | some kr=>c0=ck∧∃s0 e,seen=Array.push s0 e.born∧e∈es∧e.key = .string (B kr.1)∧kr.2.p Z e.val
theorem Cur.mono {Z Z':Fz}(h:Fz.le Z Z'){es:List MapEntry}{ck:Nat}{seen:Array Nat}{c0:Nat}:∀{cur:Option (List UInt8×Rp)},Cur Z es ck seen c0 cur→Cur Z' es ck seen c0 cur
 | none,_=>trivial
 | some kr,⟨h1,s0,e,h2,h3,h4,h5⟩=>⟨h1,s0,e,h2,h3,h4,kr.2.mono h h5⟩
def Ent.holds (Z:Fz)(w:World):Ent→Prop
 | .obj b o=>w.heap[b]? =some o
 | .blk b cs e=>∃us:List Value,w.heap[b]? =some (.cells us.toArray e (0,0))∧B9 Z cs us
 | .row v e sz xs=>(∀c∈xs,c.length=sz)∧∃us:List Value,w.ownsRow 0 e sz v xs.length us∧B9 Z xs.flatten us
 | .map b m=>∃es ck,w.heap[b]? =some (.map es ck)∧JK Z m es.toList ck
 | .fact v r=>r.p Z v
 | .bld T e b v l=>∃p,(p = .pointer none∨p = .pointer (some ⟨b,0,none⟩))∧w.heap[b]? =some (.cells #[p,v] T (0,0))∧w.ownsRow 0 e 1 v l.length (l.map λc=>Value.int .u8 c.toNat)∧v.ownBlock≠some b
 | .mit b it m rest cur=>∃es ck seen since c0,w.heap[b]? =some (.map es ck)∧w.heap[it]? =some (.mapIter (some b) since seen c0)∧JK Z m es.toList ck∧(∀e∈es.toList,e.born<since)∧since≤c0∧c0≤ck∧b≠it∧Anp Z rest es.toList seen∧Cur Z es.toList ck seen c0 cur
 | .itz it m rest cur=>(w.heap[it]? =some (.mapIter none 0 #[] 0)∧m=[]∧rest=[]∧cur=none)∨∃b es ck seen since c0,Z b=some (.map es ck)∧w.heap[it]? =some (.mapIter (some b) since seen c0)∧JK Z m es.toList ck∧(∀e∈es.toList,e.born<since)∧since≤c0∧c0≤ck∧Anp Z rest es.toList seen∧Cur Z es.toList ck seen c0 cur
 | .imap b m=>∃es ck,w.heap[b]? =some (.map es ck)∧AfH Z m es.toList
 | .pool k v e xs=>(Acg v).Nodup∧(Acg v).length=xs.length∧∀i b cs,(Acg v)[i]? =some b→xs[i]? =some cs→Z.nm k i=some b∧∃us:List Value,w.heap[b]? =some (.cells us.toArray e (0,0))∧B9 Z cs us
 | .poolw k v e re rz xs out=>(VT v).length=xs.length∧(ftW (AgX (VT v) out)).Nodup∧(∀i p,(VT v)[i]? =some p→Z.nm k i=some p.1)∧(∀o,out=some o→(VT v)[o.1]? =some o.2)∧
   ∀i p x,(VT v)[i]? =some p→xs[i]? =some x→(∀o,out=some o→o.1≠i)→(∃us:List Value,w.heap[p.1]? =some (.cells us.toArray e (0,0))∧B9 Z (x.1 p.2) us)∧(∀c∈x.2,c.length=rz)∧∃us:List Value,w.ownsRow 0 re rz p.2 x.2.length us∧B9 Z x.2.flatten us
 | .poolm k v e xs out=>(H9 v).length=xs.length∧(WY (Ab7 (H9 v) out)).Nodup∧(∀i p,(H9 v)[i]? =some p→Z.nm k i=some p.1)∧(∀o,out=some o→(H9 v)[o.1]? =some o.2)∧
   ∀i p x,(H9 v)[i]? =some p→xs[i]? =some x→(∀o,out=some o→o.1≠i)→(∃us:List Value,w.heap[p.1]? =some (.cells us.toArray e (0,0))∧B9 Z (x.1 p.2) us)∧∃es ck,w.heap[p.2]? =some (.map es ck)∧JK Z x.2 es.toList ck
variable{k:Nat}
theorem Aj7 {ps:List (Nat×Nat)}{out:Option (Nat×(Nat×Nat))}(h:k∈WY (Ab7 ps out)):∃i p,ps[i]? =some p∧(∀o,out=some o→o.1≠i)∧(k=p.1∨k=p.2):=by
 unfold WY at h;obtain⟨p,hp,hk⟩:=List.mem_flatMap.1 h;obtain⟨j,hj⟩:=List.mem_iff_getElem?.1 hp;have hk:k=p.1∨k=p.2:=by simpa using hk
 cases out with
 | none=>exact⟨j,p,hj,(λo h=>by cases h),hk⟩
 | some o=>
  rw[Ab7,List.getElem?_eraseIdx] at hj
  split at hj
  ·exact⟨j,p,hj,(λo' h=>by cases h;omega),hk⟩
  ·exact⟨j+1,p,hj,(λo' h=>by cases h;omega),hk⟩
theorem Adz {ps:List (Nat×Nat)}{out:Option (Nat×(Nat×Nat))}{p:Nat×Nat}(hp:ps[i]? =some p)(ho:∀o,out=some o→o.1≠i)(hk:k=p.1∨k=p.2):k∈WY (Ab7 ps out):=by
 unfold WY;refine List.mem_flatMap.2 ⟨p,?_,by simpa using hk⟩
 cases out with
 | none=>exact Ap4 hp
 | some o=>
  have hne:=ho o rfl
  by_cases hlt:i<o.1
  ·exact Ap4 (show(ps.eraseIdx o.1)[i]? =some p by rw[List.getElem?_eraseIdx,ApW hlt];exact hp)
  ·exact Ap4 (show(ps.eraseIdx o.1)[i-1]? =some p by rw[List.getElem?_eraseIdx,ApP (by omega),show i-1+1=i from by omega];exact hp)
variable{out:Option (Nat×(Nat×Value))}
theorem Aj6 {ps:List (Nat×Value)}(h:k∈ftW (AgX ps out)):∃i p,ps[i]? =some p∧(∀o,out=some o→o.1≠i)∧(k=p.1∨k∈p.2.ownBlock.toList):=by
 unfold ftW at h;obtain⟨p,hp,hk⟩:=List.mem_flatMap.1 h;obtain⟨j,hj⟩:=List.mem_iff_getElem?.1 hp
 cases out with
 | none=>exact⟨j,p,hj,(λo h=>by cases h),List.mem_cons.1 hk⟩
 | some o=>
  rw[AgX,List.getElem?_eraseIdx] at hj
  split at hj
  ·exact⟨j,p,hj,(λo' h=>by cases h;omega),List.mem_cons.1 hk⟩
  ·exact⟨j+1,p,hj,(λo' h=>by cases h;omega),List.mem_cons.1 hk⟩
theorem Ady {ps:List (Nat×Value)}{p:Nat×Value}(hp:ps[i]? =some p)(ho:∀o,out=some o→o.1≠i)(hk:k=p.1∨k∈p.2.ownBlock.toList):k∈ftW (AgX ps out):=by
 unfold ftW;refine List.mem_flatMap.2 ⟨p,?_,List.mem_cons.2 hk⟩
 cases out with
 | none=>exact Ap4 hp
 | some o=>
  have hne:=ho o rfl
  by_cases hlt:i<o.1
  ·exact Ap4 (show(ps.eraseIdx o.1)[i]? =some p by rw[List.getElem?_eraseIdx,ApW hlt];exact hp)
  ·exact Ap4 (show(ps.eraseIdx o.1)[i-1]? =some p by rw[List.getElem?_eraseIdx,ApP (by omega),show i-1+1=i from by omega];exact hp)
theorem Ent.lt {Z:Fz}{w:World}{e:Ent}(h:e.holds Z w){k:Nat}(hk:k∈e.foot):k<w.heap.size:=by
 cases e with
 | obj b o=>simp[Ent.foot] at hk;subst hk;exact(Array.getElem?_eq_some_iff.1 h).1
 | blk b cs e=>simp[Ent.foot] at hk;subst hk;obtain⟨us,h,_⟩:=h;exact(Array.getElem?_eq_some_iff.1 h).1
 | row v e sz xs=>simp[Ent.foot,Option.mem_toList] at hk;obtain⟨_,us,h,_⟩:=h;exact(World.ownsRow.lt h k hk).2
 | map b m=>simp[Ent.foot] at hk;subst hk;obtain⟨es,ck,h,_⟩:=h;exact(Array.getElem?_eq_some_iff.1 h).1
 | fact v r=>simp[Ent.foot] at hk
 | bld T e b v l=>
  obtain⟨p,_,h1,h2,_⟩:=h;simp only[Ent.foot,Aqb,Option.mem_toList] at hk;rcases hk with rfl | hk
  ·exact(Array.getElem?_eq_some_iff.1 h1).1
  ·exact(World.ownsRow.lt h2 k hk).2
 | mit b it m rest cur=>
  obtain⟨es,ck,seen,since,c0,h1,h2,_⟩:=h;simp only[Ent.foot,Aqb,List.not_mem_nil,or_false] at hk;rcases hk with rfl | rfl
  ·exact(Array.getElem?_eq_some_iff.1 h1).1
  ·exact(Array.getElem?_eq_some_iff.1 h2).1
 | itz it m rest cur=>
  simp[Ent.foot] at hk;subst hk;rcases h with⟨h1,_⟩ | ⟨b,es,ck,seen,since,c0,_,h2,_⟩
  ·exact(Array.getElem?_eq_some_iff.1 h1).1
  ·exact(Array.getElem?_eq_some_iff.1 h2).1
 | imap b m=>simp[Ent.foot] at hk;subst hk;obtain⟨es,ck,h,_⟩:=h;exact(Array.getElem?_eq_some_iff.1 h).1
 | pool q v e xs=>
  obtain⟨_,hl,h⟩:=h;obtain⟨i,hi,rfl⟩:=List.getElem_of_mem (show k∈Acg v from hk);obtain⟨_,us,h1,_⟩:=h i (Acg v)[i] xs[i] (Apw hi) (Apw (by omega));exact(Array.getElem?_eq_some_iff.1 h1).1
 | poolw q v e re rz xs out=>
  obtain⟨hl,_,_,_,h⟩:=h;obtain⟨i,p,h1,h2,h3⟩:=Aj6 hk;have hi:i<xs.length:=by rw[← hl];exact(List.getElem?_eq_some_iff.1 h1).1
  obtain⟨⟨us,h4,_⟩,_,vs,h5,_⟩:=h i p xs[i] h1 (Apw hi) h2;rcases h3 with rfl | h3
  ·exact(Array.getElem?_eq_some_iff.1 h4).1
  ·exact(World.ownsRow.lt h5 k (by simpa[Option.mem_toList] using h3)).2
 | poolm q v e xs out=>
  obtain⟨hl,_,_,_,h⟩:=h;obtain⟨i,p,h1,h2,h3⟩:=Aj7 hk;have hi:i<xs.length:=by rw[← hl];exact(List.getElem?_eq_some_iff.1 h1).1
  obtain⟨⟨us,h4,_⟩,es,ck,h5,_⟩:=h i p xs[i] h1 (Apw hi) h2;rcases h3 with rfl | rfl
  ·exact(Array.getElem?_eq_some_iff.1 h4).1
  ·exact(Array.getElem?_eq_some_iff.1 h5).1
theorem ME {w w':World}{e:TypeId}{sz n:Nat}{us:List Value}(h:w.ownsRow 0 e sz v n us)(hk:∀k∈v.ownBlock.toList,w'.heap[k]? =w.heap[k]?):w'.ownsRow 0 e sz v n us:=by
 refine⟨h.1,?_⟩;rcases h.2 with hn | ⟨g,cap,cur,rfl,hb,hgg,rest⟩
 ·exact .inl hn
 ·exact .inr ⟨g,cap,cur,rfl,hb,(hk g (by simp[Value.ownBlock])).trans hgg,rest⟩
variable{e:Ent}
theorem Ent.keep {Z Z':Fz}{w w':World}(h:e.holds Z w)(hz:Fz.le Z Z')(hk:∀k∈e.foot,w'.heap[k]? =w.heap[k]?):e.holds Z' w':=by
 cases e with
 | obj b o=>exact(hk b (by simp[Ent.foot])).trans h
 | blk b cs e=>obtain⟨us,h1,h2⟩:=h;exact⟨us,(hk b (by simp[Ent.foot])).trans h1,h2.mono hz⟩
 | row v e sz xs=>obtain⟨h0,us,h1,h2⟩:=h;exact⟨h0,us,ME h1 hk,h2.mono hz⟩
 | map b m=>obtain⟨es,ck,h1,h2⟩:=h;exact⟨es,ck,(hk b (by simp[Ent.foot])).trans h1,h2.mono hz⟩
 | fact v r=>exact r.mono hz h
 | bld T e b v l=>obtain⟨p,h0,h1,h2,h3⟩:=h;exact⟨p,h0,(hk b (by simp[Ent.foot])).trans h1,ME h2 (λk hk'=>hk k (by simp only[Ent.foot,Aqb];exact .inr hk')),h3⟩
 | mit b it m rest cur=>
  obtain⟨es,ck,seen,since,c0,h1,h2,h3,h4,h5,h6,h7,⟨f,h8,h9⟩,hb⟩:=h;exact⟨es,ck,seen,since,c0,(hk b (by simp[Ent.foot])).trans h1,(hk it (by simp[Ent.foot])).trans h2,h3.mono hz,h4,h5,h6,h7,⟨f,h8,h9.mono hz⟩,hb.mono hz⟩
 | itz it m rest cur=>
  rcases h with⟨h1,h2⟩ | ⟨b,es,ck,seen,since,c0,h1,h2,h3,h4,h5,h6,⟨f,h8,h9⟩,hb⟩
  ·exact .inl ⟨(hk it (by simp[Ent.foot])).trans h1,h2⟩
  ·exact .inr ⟨b,es,ck,seen,since,c0,hz.f b _ h1,(hk it (by simp[Ent.foot])).trans h2,h3.mono hz,h4,h5,h6,⟨f,h8,h9.mono hz⟩,hb.mono hz⟩
 | imap b m=>obtain⟨es,ck,h1,h2⟩:=h;exact⟨es,ck,(hk b (by simp[Ent.foot])).trans h1,h2.mono hz⟩
 | pool q v e xs=>
  obtain⟨h0,hl,h⟩:=h;refine⟨h0,hl,λi b cs hi hx=>?_⟩;obtain⟨h1,us,h2,h3⟩:=h i b cs hi hx;exact⟨hz.nm q i b h1,us,(hk b (Ap4 hi)).trans h2,h3.mono hz⟩
 | poolw q v e re rz xs out=>
  obtain⟨hl,hn,hm,ho,h⟩:=h;refine⟨hl,hn,λi p hi=>hz.nm q i _ (hm i p hi),ho,λi p x hi hx hne=>?_⟩;obtain⟨⟨us,h4,h5⟩,h6,vs,h7,h8⟩:=h i p x hi hx hne;exact⟨⟨us,(hk p.1 (Ady hi hne (.inl rfl))).trans h4,h5.mono hz⟩,h6,vs,ME h7 (λk hk'=>hk k (Ady hi hne (.inr hk'))),h8.mono hz⟩
 | poolm q v e xs out=>
  obtain⟨hl,hn,hm,ho,h⟩:=h;refine⟨hl,hn,λi p hi=>hz.nm q i _ (hm i p hi),ho,λi p x hi hx hne=>?_⟩;obtain⟨⟨us,h4,h5⟩,es,ck,h6,h7⟩:=h i p x hi hx hne;exact⟨⟨us,(hk p.1 (Adz hi hne (.inl rfl))).trans h4,h5.mono hz⟩,es,ck,(hk p.2 (Adz hi hne (.inr rfl))).trans h6,h7.mono hz⟩
structure Cx where
 w0:World
 Z0:Fz
 M:List Nat
 E:Fz→Prop
 G:List Nat
structure Ry (c:Cx) (H:List Ent) (Z:Fz) (w:World):Prop where
 own:∀e∈H,∀k∈e.gk,c.w0.heap.size≤k∨k∈c.G
 sz:∀e∈H,∀k∈e.gk,k<w.heap.size
 dis:H.Pairwise (λe e'=>∀k∈e.gk,k ∉ e'.gk)
 new:∀k i b,Z.nm k i=some b→c.Z0.nm k i=some b∨c.w0.heap.size≤k∨k∈c.G
 cap:∀e∈H,∀k∈e.gk,∀i,e.gn≤i→Z.nm k i=none
structure St (c:Cx) (H:List Ent) (Z:Fz) (w:World):Prop where
 os:w.os=c.w0.os
 tape:w.tape=c.w0.tape
 output:w.output=c.w0.output
 size:c.w0.heap.size≤w.heap.size
 old:∀k,k<c.w0.heap.size→k ∉ c.M→w.heap[k]? =c.w0.heap[k]?
 has:∀e∈H,e.holds Z w
 own:∀e∈H,∀k∈e.foot,c.w0.heap.size≤k∨k∈c.M
 dis:H.Pairwise (λe e'=>∀k∈e.foot,k ∉ e'.foot)
 frz:Frz Z w
 le:Fz.le c.Z0 Z
 new:∀b o,Z b=some o→c.Z0 b=some o∨c.w0.heap.size≤b∨b∈c.M
 zdis:∀e∈H,∀k∈e.foot,Z k=none
 env:c.E Z
 emono:∀{Z Z':Fz},Fz.le Z Z'→c.E Z→c.E Z'
 gst:Ry c H Z w
variable{E:Fz→Prop}{M G:List Nat}
section
variable {c : Cx} {w w' : World} {Z Z' : Fz} {H H' Hr Hin Hout : List Ent}
theorem Ry.sub (h:Ry c H Z w)(hs:H'.Sublist H):Ry c H' Z w:=⟨λe he=>h.own e (hs.subset he),λe he=>h.sz e (hs.subset he),h.dis.sublist hs,h.new,λe he=>h.cap e (hs.subset he)⟩
theorem Ry.perm (h:Ry c H Z w)(hp:H.Perm H'):Ry c H' Z w:=⟨λe he=>h.own e (hp.mem_iff.2 he),λe he=>h.sz e (hp.mem_iff.2 he),(hp.pairwise_iff (λhxy k hk hk'=>hxy k hk' hk)).1 h.dis,h.new,λe he=>h.cap e (hp.mem_iff.2 he)⟩
theorem Ry.grow (h:Ry c H Z w)(hw:w.heap.size≤w'.heap.size):Ry c H Z w':=⟨h.own,λe he k hk=>Nat.lt_of_lt_of_le (h.sz e he k hk) hw,h.dis,h.new,h.cap⟩
theorem Ry.names {Z Z':Fz}(h:Ry c H Z w)(hn:Z'.nm=Z.nm):Ry c H Z' w:=⟨h.own,h.sz,h.dis,λk i b e=>h.new k i b (by rw[← hn];exact e),λe he k hk i hi=>by rw[hn];exact h.cap e he k hk i hi⟩
theorem Ry.none (hg:H.flatMap Ent.gk=[]):Ry ⟨w,Z,M,E,G⟩ H Z w':=by
 have h0:∀e∈H,∀k,k ∉ e.gk:=λe he k hk=>by
  have:k∈H.flatMap Ent.gk:=List.mem_flatMap.2 ⟨e,he,hk⟩;rw[hg] at this;cases this
 exact⟨λe he k hk=>absurd hk (h0 e he k),λe he k hk=>absurd hk (h0 e he k),List.Pairwise.imp_of_mem (R:=λ_ _=>True) (fun {a b} ha _ _ k hk=>absurd hk (h0 a ha k)) (List.pairwise_iff_getElem.2 λ_ _ _ _ _=>trivial),λ_ _ _ e=>.inl e,λe he k hk=>absurd hk (h0 e he k)⟩
theorem Ry.enter (h:Ry c (Hin++Hr) Z w):Ry ⟨w,Z,M,E,Hin.flatMap Ent.gk⟩ Hin Z w:=
 ⟨λe he k hk=>.inr (List.mem_flatMap.2 ⟨e,he,hk⟩),λe he=>h.sz e (List.mem_append_left _ he),(List.pairwise_append.1 h.dis).1,λ_ _ _ e=>.inl e,λe he=>h.cap e (List.mem_append_left _ he)⟩
theorem Ry.call (h:Ry c (Hin++Hr) Z w)(hsz:c.w0.heap.size≤w.heap.size)(hsz':w.heap.size≤w'.heap.size)(h':Ry ⟨w,Z,M,E,Hin.flatMap Ent.gk⟩ Hout Z' w'):Ry c (Hout++Hr) Z' w':=by
 have hd:=List.pairwise_append.1 h.dis;have hG:∀k∈Hin.flatMap Ent.gk,∃e∈Hin,k∈e.gk:=λk hk=>List.mem_flatMap.1 hk;have hr:∀e∈Hr,∀k∈e.gk,k<w.heap.size∧k ∉ Hin.flatMap Ent.gk:=λe he k hk=>by
  refine⟨h.sz e (List.mem_append_right _ he) k hk,λhkG=>?_⟩;obtain⟨e',he',hke'⟩:=hG k hkG;exact hd.2.2 e' he' e he k hke' hk
 refine⟨λe he k hk=>?_,λe he k hk=>?_,?_,λk i b hb=>?_,λe he k hk i hi=>?_⟩
 ·rcases List.mem_append.1 he with he | he
  ·rcases h'.own e he k hk with h1 | h1
   ·exact .inl (Nat.le_trans hsz h1)
   ·obtain⟨e',he',hke'⟩:=hG k h1;exact h.own e' (List.mem_append_left _ he') k hke'
  ·exact h.own e (List.mem_append_right _ he) k hk
 ·rcases List.mem_append.1 he with he | he
  ·exact h'.sz e he k hk
  ·exact Nat.lt_of_lt_of_le (hr e he k hk).1 hsz'
 ·refine List.pairwise_append.2 ⟨h'.dis,hd.2.1,λe he e' he' k hk hk'=>?_⟩;have h2:=hr e' he' k hk';rcases h'.own e he k hk with h1 | h1
  ·simp only at h1;omega
  ·exact h2.2 h1
 ·rcases h'.new k i b hb with h1 | h1 | h1
  ·exact h.new k i b h1
  ·exact .inr (.inl (Nat.le_trans hsz h1))
  ·obtain⟨e',he',hke'⟩:=hG k h1;exact .inr (h.own e' (List.mem_append_left _ he') k hke')
 ·rcases List.mem_append.1 he with he | he
  ·exact h'.cap e he k hk i hi
  ·have h2:=hr e he k hk
   cases hz:Z'.nm k i with
   | none=>rfl
   | some b=>
    rcases h'.new k i b hz with h1 | h1 | h1
    ·have:=h.cap e (List.mem_append_right _ he) k hk i hi;simp only at h1;rw[this] at h1;cases h1
    ·simp only at h1;omega
    ·exact absurd h1 h2.2
theorem Frz.lt (h:Frz Z w){b:Nat}{o:Obj}(e:Z b=some o):b<w.heap.size:=(Array.getElem?_eq_some_iff.1 (h b o e)).1
theorem St.enter (h:St c (Hin++Hr) Z w):St ⟨w,Z,Hin.flatMap Ent.foot,c.E,Hin.flatMap Ent.gk⟩ Hin Z w:=
 ⟨rfl,rfl,rfl,Ap8 _,λ_ _ _=>rfl,λe he=>h.has e (List.mem_append_left _ he),λe he k hk=>.inr (List.mem_flatMap.2 ⟨e,he,hk⟩),(List.pairwise_append.1 h.dis).1,
  h.frz,Fz.le.refl _,λ_ _ e=>.inl e,λe he=>h.zdis e (List.mem_append_left _ he),h.env,h.emono,h.gst.enter⟩
theorem St.sub (h:St c H Z w)(hs:H'.Sublist H):St c H' Z w:=
 { h with has:=λe he=>h.has e (hs.subset he),own:=λe he=>h.own e (hs.subset he),dis:=h.dis.sublist hs,zdis:=λe he=>h.zdis e (hs.subset he),gst:=h.gst.sub hs }
theorem St.perm (h:St c H Z w)(hp:H.Perm H'):St c H' Z w:=
 { h with has:=λe he=>h.has e (hp.mem_iff.2 he),own:=λe he=>h.own e (hp.mem_iff.2 he),dis:=(hp.pairwise_iff (λhxy k hk hk'=>hxy k hk' hk)).1 h.dis,zdis:=λe he=>h.zdis e (hp.mem_iff.2 he),gst:=h.gst.perm hp }
theorem Br:∀{H:List Ent} (i:Nat) {e:Ent},H[i]? =some e→H.Perm (e::H.eraseIdx i)
 | x::r,0,e,h=>by simp at h;subst h;simp
 | x::r,i+1,e,h=>by
  simp at h;exact((Br _ h).cons x).trans (List.Perm.swap e x _)
theorem St.front (h:St c H Z w)(hi:H[i]? =some e):St c (e::H.eraseIdx i) Z w:=h.perm (Br _ hi)
theorem St.ent (h:St c H Z w){en:Ent}(hi:H[i]? =some en):en.holds Z w:=h.has en (Ap4 hi)
theorem St.drawn (h:St c H Z w)(k:Nat):St c H Z { w with drawn:=k }:=
 { h with has:=λe he=>Ent.keep (h.has e he) (Fz.le.refl _) λ_ _=>rfl,frz:=⟨h.frz.f,h.frz.nm⟩,gst:=h.gst.grow (Ap8 _) }
theorem St.mem_lt (h:St c H Z w)(he:e∈H)(hk:k∈e.foot):k<w.heap.size:=Ent.lt (h.has e he) hk
theorem St.call (h:St c (Hin++Hr) Z w){E:Fz→Prop}(h':St ⟨w,Z,Hin.flatMap Ent.foot,E,Hin.flatMap Ent.gk⟩ Hout Z' w'):St c (Hout++Hr) Z' w':=by
 have hd:=List.pairwise_append.1 h.dis;have hM:∀k∈Hin.flatMap Ent.foot,∃e∈Hin,k∈e.foot:=λk hk=>List.mem_flatMap.1 hk;have hM2:∀k,k<c.w0.heap.size→k ∉ c.M→k ∉ Hin.flatMap Ent.foot:=λk hk hkM hkM2=>by
  obtain⟨e,he,hke⟩:=hM k hkM2;rcases h.own e (List.mem_append_left _ he) k hke with h1 | h1
  ·omega
  ·exact hkM h1
 have hr:∀e∈Hr,∀k∈e.foot,k<w.heap.size∧k ∉ Hin.flatMap Ent.foot:=λe he k hk=>by
  refine⟨h.mem_lt (List.mem_append_right _ he) hk,λhkM2=>?_⟩;obtain⟨e',he',hke'⟩:=hM k hkM2;exact hd.2.2 e' he' e he k hke' hk
 refine⟨h'.os.trans h.os,h'.tape.trans h.tape,h'.output.trans h.output,Nat.le_trans h.size h'.size,λk hk hkM=>?_,λe he=>?_,λe he k hk=>?_,?_,h'.frz,h.le.trans h'.le,λb o hb=>?_,λe he k hk=>?_,h.emono h'.le h.env,h.emono,h.gst.call h.size h'.size h'.gst⟩
 ·exact(h'.old k (Nat.lt_of_lt_of_le hk h.size) (hM2 k hk hkM)).trans (h.old k hk hkM)
 ·rcases List.mem_append.1 he with he | he
  ·exact h'.has e he
  ·exact Ent.keep (h.has e (List.mem_append_right _ he)) h'.le λk hk=>h'.old k (hr e he k hk).1 (hr e he k hk).2
 ·rcases List.mem_append.1 he with he | he
  ·rcases h'.own e he k hk with h1 | h1
   ·exact .inl (Nat.le_trans h.size h1)
   ·obtain⟨e',he',hke'⟩:=hM k h1;exact h.own e' (List.mem_append_left _ he') k hke'
  ·exact h.own e (List.mem_append_right _ he) k hk
 ·refine List.pairwise_append.2 ⟨h'.dis,hd.2.1,λe he e' he' k hk hk'=>?_⟩;rcases h'.own e he k hk with h1 | h1
  ·have h2:=(hr e' he' k hk').1;simp only at h1;omega
  ·exact(hr e' he' k hk').2 h1
 ·rcases h'.new b o hb with h1 | h1 | h1
  ·exact h.new b o h1
  ·exact .inr (.inl (Nat.le_trans h.size h1))
  ·obtain⟨e',he',hke'⟩:=hM b h1;exact .inr (h.own e' (List.mem_append_left _ he') b hke')
 ·rcases List.mem_append.1 he with he | he
  ·exact h'.zdis e he k hk
  ·have h2:=hr e he k hk
   cases hz:Z' k with
   | none=>rfl
   | some o=>
    rcases h'.new k o hz with h1 | h1 | h1
    ·have:=h.zdis e (List.mem_append_right _ he) k hk;simp only at h1;rw[this] at h1;cases h1
    ·simp only at h1;omega
    ·exact absurd h1 h2.2
theorem St.call0 (h:St c H Z w)(h':St ⟨w,Z,[],E,[]⟩ Hout Z' w'):St c (Hout++H) Z' w':=St.call (Hin:=[]) (by simpa using h) h'
theorem St.callF (h:St c H Z w)(hi:H[i]? =some e)(h':St ⟨w,Z,e.foot,E,e.gk⟩ Hout Z' w'):St c (Hout++H.eraseIdx i) Z' w':=
 St.call (Hin:=[e]) (Hr:=H.eraseIdx i) (h.front hi) (by simpa using h')
theorem St.oneG {e':Ent}(hz:Frz Z w)(he0:E Z)(hm:∀{Z Z':Fz},Fz.le Z Z'→E Z→E Z')(os:w'.os=w.os)(tape:w'.tape=w.tape)(output:w'.output=w.output)(size:w.heap.size≤w'.heap.size)
  (hb:∀k,k<w.heap.size→k ∉ M→w'.heap[k]? =w.heap[k]?) (hM:∀k∈M,Z k=none) (he:e'.holds Z w') (hf:∀k∈e'.foot,k∈M∨w.heap.size≤k) (hg:Ry ⟨w,Z,M,E,G⟩ [e'] Z w'):St ⟨w,Z,M,E,G⟩ [e'] Z w':=by
 refine⟨os,tape,output,size,hb,by simpa using he,by simpa using λk hk=>(hf k hk).symm,by simp,⟨λb o hbo=>?_,λk i b hb=>Nat.lt_of_lt_of_le (hz.nm k i b hb) size⟩,Fz.le.refl _,λ_ _ e=>.inl e,?_,he0,hm,hg⟩
 ·rw[hb b (hz.lt hbo) (λh=>by rw[hM b h] at hbo;cases hbo)];exact hz b o hbo
 ·simp only[ApF,forall_eq];intro k hk;rcases hf k hk with h | h
  ·exact hM k h
  ·cases hz':Z k with
   | none=>rfl
   | some o=>have:=hz.lt hz';omega
theorem St.one {e':Ent}(hz:Frz Z w)(he0:E Z)(hm:∀{Z Z':Fz},Fz.le Z Z'→E Z→E Z')(os:w'.os=w.os)(tape:w'.tape=w.tape)(output:w'.output=w.output)(size:w.heap.size≤w'.heap.size)
  (hb:∀k,k<w.heap.size→k ∉ M→w'.heap[k]? =w.heap[k]?) (hM:∀k∈M,Z k=none) (he:e'.holds Z w') (hf:∀k∈e'.foot,k∈M∨w.heap.size≤k) (hg:e'.gk=[]:=by rfl):St ⟨w,Z,M,E,G⟩ [e'] Z w':=St.oneG hz he0 hm os tape output size hb hM he hf (Ry.none (by simp[hg]))
theorem St.set (h:St c H Z w){i:Nat}{e e':Ent}(hi:H[i]? =some e)(os:w'.os=w.os)(tape:w'.tape=w.tape)(output:w'.output=w.output)(size:w.heap.size≤w'.heap.size)
  (hb:∀k,k<w.heap.size→k ∉ e.foot→w'.heap[k]? =w.heap[k]?) (he:e'.holds Z w') (hf:∀k∈e'.foot,k∈e.foot∨w.heap.size≤k) (hg:e'.gk=[]:=by rfl):St c (H.set i e') Z w':=by
 have hmem:=Ap4 hi;have h3:=h.callF hi (St.one (e':=e') h.frz h.env h.emono os tape output size hb (h.zdis e hmem) he hf hg);have hil:i<H.length:=(List.getElem?_eq_some_iff.1 hi).1;have hq:(H.set i e')[i]? =some e':=by simp[hil]
 have:=Br _ hq;rw[List.eraseIdx_set_eq] at this;exact h3.perm this.symm
theorem St.add (h:St c H Z w){e':Ent}(os:w'.os=w.os)(tape:w'.tape=w.tape)(output:w'.output=w.output)(size:w.heap.size≤w'.heap.size)
  (hb:∀k,k<w.heap.size→w'.heap[k]? =w.heap[k]?) (he:e'.holds Z w') (hf:∀k∈e'.foot,w.heap.size≤k) (hg:e'.gk=[]:=by rfl):St c (e'::H) Z w':=
 h.call0 (St.one (e':=e') (M:=[]) h.frz h.env h.emono os tape output size (λk hk _=>hb k hk) (by simp) he (λk hk=>.inr (hf k hk)) hg)
theorem St.alloc (h:St c H Z w)(o:Obj)(he:e.holds Z (w.alloc o))(hf:e.foot=[w.heap.size])(hg:e.gk=[]:=by rfl):St c (e::H) Z (w.alloc o):=
 h.add rfl rfl rfl (by simp) (λk hk=>Below.heap_alloc w o k hk) he (by simp[hf]) hg
theorem Ro {α:Type}{sz:Nat}:∀{vs:List (List α)} (hs:∀c∈vs,c.length=sz) {i:Nat} {c:List α} (hi:vs[i]? =some c) {j:Nat} {u:α} (hj:c[j]? =some u),vs.flatten[i*sz+j]? =some u
 | [],hs,i,c,hi,j,u,hj=>by simp at hi
 | x::r,hs,0,c,hi,j,u,hj=>by
  simp at hi;subst hi;simp only[List.flatten_cons,Nat.zero_mul,ApQ];rw[Aqf (by have:=(List.getElem?_eq_some_iff.1 hj).1;exact this)];exact hj
 | x::r,hs,i+1,c,hi,j,u,hj=>by
  have hx:x.length=sz:=hs x (by simp);simp only[List.flatten_cons];rw[List.getElem?_append_right (by rw[hx,Nat.succ_mul];omega)];have e:(i+1)*sz+j-x.length=i*sz+j:=by rw[hx,Nat.succ_mul];omega
  rw[e];exact Ro (vs:=r) (λc hc=>hs c (by simp[hc])) (by simpa using hi) hj
theorem Mo {α:Type}{sz:Nat}:∀{vs:List (List α)} (hs:∀c∈vs,c.length=sz),vs.flatten.length=vs.length*sz
 | [],_=>by simp
 | x::r,hs=>by
  have:=Mo (vs:=r) (λc hc=>hs c (by simp[hc]));have hx:=hs x (by simp);simp only[List.flatten_cons,Apz,Ap2] at this ⊢;rw[this,hx,Nat.succ_mul];omega
theorem St.freeze (h:St c H Z w){e:TypeId}{sz:Nat}{xs:List (List Rp)}(hi:H[i]? =some (.row v e sz xs)):∃Z',Fz.le Z Z'∧St c (H.eraseIdx i) Z' w∧SlZ sz xs Z' v:=by
 obtain⟨h0,us,⟨h1,h2⟩,h3⟩:=h.ent hi;have hlen:=h3.length;rcases h2 with⟨rfl,hn⟩ | ⟨g,cap,cur,rfl,_,hg,hc,hm,hsz,htk⟩
 ·have:xs=[]:=ApK hn;subst this;exact⟨Z,Fz.le.refl _,h.sub (List.eraseIdx_sublist _ _),SlZ.nil _ _⟩
 ·have hmem:=Ap4 hi;have hgz:Z g=none:=h.zdis _ hmem g (by simp[Ent.foot,Value.ownBlock])
  let Z':Fz:=⟨λb=>if b=g then some (.cells cur e (0,0)) else Z b,Z.nm⟩
  have hle:Fz.le Z Z':=⟨λb o hb=>by
   have:b≠g:=λe=>by subst e;rw[hgz] at hb;cases hb
   simpa[Z',this] using hb,λ_ _ _ h=>h⟩
  have hfr:=h.front hi;have hd:=List.pairwise_cons.1 hfr.dis;refine⟨Z',hle,?_,?_⟩
  ·have hs:=hfr.sub (List.sublist_cons_self _ _);refine { hs with has:=λen he=>Ent.keep (hs.has en he) hle λ_ _=>rfl,frz:=⟨λb o hb=>?_,h.frz.nm⟩,gst:=hs.gst.names rfl,le:=hs.le.trans hle,new:=λb o hb=>?_,zdis:=λen he k hk=>?_,env:=hs.emono hle hs.env }
   ·by_cases hbg:b=g
    ·subst hbg;simp[Z'] at hb;rw[← hb];exact hg
    ·simp[Z',hbg] at hb;exact h.frz b o hb
   ·by_cases hbg:b=g
    ·subst hbg;exact .inr (h.own _ hmem b (by simp[Ent.foot,Value.ownBlock]))
    ·simp[Z',hbg] at hb;exact h.new b o hb
   ·have hkg:k≠g:=λe=>hd.1 en he g (by simp[Ent.foot,Value.ownBlock]) (e▸hk);simp only[Z',hkg,Aqe];exact hs.zdis en he k hk
  ·refine⟨some ⟨g,0,none⟩,cap,rfl,hc,hm,(λh=>by cases h),λj cl hj=>⟨h0 cl (Ap4 hj),⟨g,0,none⟩,rfl,rfl,λq r hq=>?_⟩⟩;have hfl:xs.flatten[j*sz+q]? =some r:=Ro h0 hj hq;obtain⟨u,hu,hp⟩:=h3.at hfl;refine⟨u,?_,r.mono hle hp⟩;rw[← htk,ApS] at hu
   split at hu
   ·simpa[LB,Z'] using hu
   ·cases hu
end
end Go.Proofs.YtphnhpcjnmmhiaaGreatDoor.Q
namespace Go.Proofs.YtphnhpcjnmmhiaaGreatDoor
open Go Go.RowKit
set_option linter.unusedVariables false
theorem Pi (b o j:Nat):(⟨b,o,none⟩:Addr).add j=⟨b,o+j,none⟩:=by unfold Addr.add;split<;>simp_all
section
variable {P : Program} {n : Nat} {w0 : World} {M : List Nat} {ops : Array Oper} {Q : Exit → Act → World → Prop} {rest : List Oper} {l : Fr} {H H' : List Ent} {d : Nat} {x y c : Operand} {ty t t' e : TypeId} {pos : String} {af : Array Edge} {g : Option (Nat × Bool)} {v u : Value}
theorem St.ent {w:World}(h:St w0 M H w){i:Nat}{en:Ent}(hi:H[i]? =some en):en.holds w:=h.has en (Ap4 hi)
end
def Ru:Nat→List Value→Fr
 | _,[]=>[]
 | i,v::r=>(i,v)::Ru (i+1) r
theorem KP:∀(args:List Value) (k i:Nat) (v:Value),look (Ru k args) i=some v→k≤i∧args[i-k]? =some v
 | [],k,i,v,h=>by simp[Ru,look] at h
 | u::r,k,i,v,h=>by
  rw[Ru,Dp] at h
  split at h
  ·rename_i e;subst e;simp at h;subst h;simp
  ·rename_i e
   have:=KP r (k+1) i v h;refine⟨by omega,?_⟩;rw[show i-k=(i-(k+1))+1 from by omega];simpa using this.2
variable{f:FuncId}{ats:Array TypeId}{R:Ending→World→Prop}{fn:Func}{vs:List Value}
section
variable {P : Program} {n : Nat} {w0 w : World} {M : List Nat} {ops : Array Oper} {Q : Exit → Act → World → Prop} {rest : List Oper} {l l' : Fr} {H H' : List Ent} {d : Nat} {ty t : TypeId} {pos : String} {af : Array Edge} {v u : Value}
theorem AlO {c:Code}{args:List Value}(hf:P.funcs[f]? =some fn)(hb:fn.body=some c)(hn:fn.ntmps=n)(hle:Nat.ble args.length n=true)
  (hw:St w0 M H w) (h:WC P n w0 M c (bodyPost P fn R) (Ru 0 args) H):Calls P f args.toArray w R:=by
 have hle':args.length≤n:=by simpa using hle
 refine calls_of_wp hf hb (h _ w ⟨?_,rfl,λi v hi=>?_⟩ hw)
 ·simp[hn];omega
 ·have:=(KP args 0 i v hi).2;simp only[Nat.sub_zero] at this;have hlt:i<args.length:=(List.getElem?_eq_some_iff.1 this).1;rw[Array.getElem?_append_left (by simpa using hlt)];simpa using this
theorem Su {c:Code}{args:List Value}(hf:P.funcs[f]? =some fn)(hb:fn.body=some c)(hn:fn.ntmps=n)(hle:Nat.ble args.length n=true)
  (h:WC P n w [] c (bodyPost P fn R) (Ru 0 args) []):Calls P f args.toArray w R:=AlO hf hb hn hle (St.refl w []) h
theorem Ap (hr:∀a w,EB n l a→St w0 M H w→(results fn a.tmps).run P w = .ok v w)(h:∀w,St w0 M H w→R (.returned v) w):WK n w0 M (bodyPost P fn R .ret) l H:=
 λa w ha hw=>⟨ha.defers,v,hr a w ha hw,h w hw⟩
theorem Uj {a:Act}(ha:EB n l a){i:Nat}(h:look l i=some v):a.tmps[i]?.getD undef=v:=by
 rw[ha.tm i v h];rfl
theorem Ct {i:Nat}(hr:fn.results = #[.tmp i])(h:look l i=some v):∀a w,EB n l a→St w0 M H w→(results fn a.tmps).run P w = .ok v w:=λa w ha hw=>by
 have e:=Uj ha h;simp[results,hr,e]
theorem LA {i j:Nat}(hr:fn.results = #[.tmp i,.tmp j])(h:look l i=some v)(h2:look l j=some u):∀a w,EB n l a→St w0 M H w→(results fn a.tmps).run P w = .ok (.tuple #[v,u]) w:=λa w ha hw=>by
 have e:=Uj ha h;have e2:=Uj ha h2;simp[results,hr,e,e2]
theorem VI (e:v=u):∀w,St w0 [] H w→Pj w0 u (.returned v) w:=λw hw=>⟨by rw[e],hw.sub (List.nil_sublist _)⟩
theorem Ha {args:Array Operand}{o:Oper}{a:Act}(ho:o.op = .call { callee:=.value (.func f),args:=args,argTypes:=ats })
  (hcall:∀(as1:Array Value) (w:World),(callFunc f as1).run P w = .ok (.enter f as1) w) (hv:(args.map a.eval)=vs.toArray) (w:World):(execOp a.eval o).run P w = .ok (.enter f vs.toArray) w:=by
 simp[execOp,ho,resolve,Act.eval,Deferred.ofValue,invoke,hv,hcall]
def Ph (l:Fr):List Operand→Option (List Value)
 | []=>some []
 | x::r=>match ev l x,Ph l r with
  | some v,some vs=>some (v::vs)
  | _,_=>none
theorem Rr {a:Act}(ha:EB n l a):∀{xs:List Operand} {vs:List Value},Ph l xs=some vs→xs.map a.eval=vs
 | [],vs,h=>by simp[Ph] at h;subst h;rfl
 | x::r,vs,h=>by
  simp only[Ph] at h
  split at h
  ·rename_i v vs' h1 h2
   simp at h;subst h;simp[ha.eval h1,Rr ha h2]
  ·cases h
theorem DH {args:List Operand}(hcall:∀(as1:Array Value) (w:World),(callFunc f as1).run P w = .ok (.enter f as1) w)(hv:Ph l args=some vs)
  (hc:∀w,St w0 M H w→Calls P f vs.toArray w (Pj w u)) (hn:Nat.blt d n=true) (h:WL P n w0 M ops Q rest ((d,u)::l) H) :
  WL P n w0 M ops Q ({ dst:=some d,op:=.call { callee:=.value (.func f),args:=args.toArray,argTypes:=ats },type:=ty,pos:=pos,after:=af,guard:=none }::rest) l H:=
 Oq (λa w ha hw=>Ha rfl hcall (by simp[Rr ha hv]) w) (λw hw=>(hc w hw).mono λe w' ⟨he,hs⟩=>⟨u,H,he,by simpa using hw.call0 hs,h⟩) hn
theorem Ac5 {args:List Operand}{Φ:Value→List Ent→Prop}(hcall:∀(as1:Array Value) (w:World),(callFunc f as1).run P w = .ok (.enter f as1) w)(hv:Ph l args=some vs)
  (hc:∀w,St w0 M H w→Calls P f vs.toArray w (Ret w [] Φ)) (hn:Nat.blt d n=true) (h:∀u Ho,Φ u Ho→WL P n w0 M ops Q rest ((d,u)::l) (Ho++H)) :
  WL P n w0 M ops Q ({ dst:=some d,op:=.call { callee:=.value (.func f),args:=args.toArray,argTypes:=ats },type:=ty,pos:=pos,after:=af,guard:=none }::rest) l H:=
 Oq (λa w ha hw=>Ha rfl hcall (by simp[Rr ha hv]) w) (λw hw=>(hc w hw).mono λe w' ⟨v,Ho,he,hs,hf⟩=>⟨v,Ho++H,he,hw.call0 hs,h v Ho hf⟩) hn
end
end Go.Proofs.YtphnhpcjnmmhiaaGreatDoor
namespace Go.Proofs.YtphnhpcjnmmhiaaGreatDoor.Q
open Go Go.RowKit
set_option linter.unusedVariables false
section
variable (P : Program) (n : Nat) (c : Cx)
def WL (ops:Array Oper)(Q:Exit→Act→World→Prop)(rest:List Oper)(l:Fr)(H:List Ent):Prop:=∀a w Z,EB n l a Z→St c H Z w→wpList P ops Q rest a w
def WC (x:Code)(Q:Exit→Act→World→Prop)(l:Fr)(H:List Ent):Prop:=∀a w Z,EB n l a Z→St c H Z w→x.wp P Q a w
def WK (K:Act→World→Prop)(l:Fr)(H:List Ent):Prop:=∀a w Z,EB n l a Z→St c H Z w→K a w
def Ni {S:Type}(inv:S→Prop)(fr:S→Fr)(hp:S→List Ent):Act→World→Prop:=λa w=>∃s Z,inv s∧EB n (fr s) a Z∧St c (hp s) Z w
def Cd (l:Fr)(H:List Ent)(o:Oper)(r:Rp):Prop:=∀a w Z,EB n l a Z→St c H Z w→∃v,r.p Z v∧(execOp a.eval o).run P w = .ok (.value v) w
end
def Ret (c:Cx)(Φ:Rp→List Ent→Prop):Ending→World→Prop:=λe w'=>∃r v H Z,e = .returned v∧Φ r H∧r.p Z v∧St c H Z w'
def Fn (P:Program)(E:Fz→Prop)(f:FuncId)(args:List Rp)(Hin:List Ent)(Φ:Rp→List Ent→Prop):Prop:=
 ∀w Z (vs:List Value),B9 Z args vs→St ⟨w,Z,Hin.flatMap Ent.foot,E,Hin.flatMap Ent.gk⟩ Hin Z w→Calls P f vs.toArray w (Ret ⟨w,Z,Hin.flatMap Ent.foot,E,Hin.flatMap Ent.gk⟩ Φ)
abbrev Fn0 (P:Program)(E:Fz→Prop)(f:FuncId)(args:List Rp)(r:Rp):Prop:=Fn P E f args [] (λr' H=>r'=r∧H=[])
def Akt:List Rp→List Rp→Prop
 | [],[]=>True
 | a::as1,b::bs=>Hx a b∧Akt as1 bs
 | _,_=>False
theorem Akt.all {Z:Fz}:∀{rs rs':List Rp} {vs:List Value},Akt rs rs'→B9 Z rs vs→B9 Z rs' vs
 | [],[],[],_,_=>trivial
 | a::as1,b::bs,v::vs,⟨h1,h2⟩,⟨h3,h4⟩=>⟨h1 Z v h3,h2.all h4⟩
variable{E:Fz→Prop}{rs:List Rp}{Φ:Rp→List Ent→Prop}{f:FuncId}{Hin:List Ent}
theorem Fn.args {P:Program}{rs':List Rp}(h:Fn P E f rs' Hin Φ)(hl:Akt rs rs'):Fn P E f rs Hin Φ:=λw Z vs hv hs=>h w Z vs (hl.all hv) hs
variable{α:Type}{Z:Fz}{l1:List α}{ty:TypeId}{fn:Func}{r:Rp}{op:Op}{xs:List (List Rp)}{H2:List Ent}{i:Nat}{e:TypeId}{b:Bool}{id:Nat}{S:Type}{d:Nat}{ats:Array TypeId}{v:Value}{pos:String}{af:Array Edge}{sz j:Nat}
section
variable {P : Program} {n : Nat} {c : Cx} {ops : Array Oper} {Q : Exit → Act → World → Prop} {rest : List Oper} {l l' : Fr} {H H' : List Ent} {x y : Code} {K : Act → World → Prop}
theorem WC.sub (hl:Hw l' l)(hH:H'.Sublist H)(h:WC P n c x Q l' H'):WC P n c x Q l H:=λa w Z ha hw=>h a w Z (ha.sub hl) (hw.sub hH)
theorem WK.sub (hl:Hw l' l)(hH:H'.Sublist H)(h:WK n c K l' H'):WK n c K l H:=λa w Z ha hw=>h a w Z (ha.sub hl) (hw.sub hH)
theorem WL.sub (hl:Hw l' l)(hH:H'.Sublist H)(h:WL P n c ops Q rest l' H'):WL P n c ops Q rest l H:=λa w Z ha hw=>h a w Z (ha.sub hl) (hw.sub hH)
theorem St.freezeF {w:World}(h:St c H Z w)(hi:H[i]? =some (.row v e sz xs)):∃Z',Fz.le Z Z'∧St c (.fact v (B4 sz xs)::H.eraseIdx i) Z' w:=by
 obtain⟨Z',hz,hs,hr⟩:=h.freeze hi;exact⟨Z',hz,hs.add rfl rfl rfl (Ap8 _) (λ_ _=>rfl) (e':=.fact v (B4 sz xs)) hr (by simp[Ent.foot])⟩
theorem WK.freeze (hi:H[i]? =some (.row v e sz xs))(h:WK n c K l (.fact v (B4 sz xs)::H.eraseIdx i)):WK n c K l H:=λa w Z ha hw=>by
 obtain⟨Z',hz,hs⟩:=St.freezeF hw hi;exact h a w Z' (ha.mono hz) hs
theorem WC.freeze (hi:H[i]? =some (.row v e sz xs))(h:WC P n c x Q l (.fact v (B4 sz xs)::H.eraseIdx i)):WC P n c x Q l H:=λa w Z ha hw=>by
 obtain⟨Z',hz,hs⟩:=St.freezeF hw hi;exact h a w Z' (ha.mono hz) hs
theorem WL.freeze (hi:H[i]? =some (.row v e sz xs))(h:WL P n c ops Q rest l (.fact v (B4 sz xs)::H.eraseIdx i)):WL P n c ops Q rest l H:=λa w Z ha hw=>by
 obtain⟨Z',hz,hs⟩:=St.freezeF hw hi;exact h a w Z' (ha.mono hz) hs
def Up (H:List Ent)(q r:Rp):Prop:=∀(c:Cx) Z w v,St c H Z w→q.p Z v→r.p Z v
theorem Up.refl (r:Rp):Up H r r:=λ_ _ _ _ _ h=>h
theorem Up.le {q:Rp}(h:Hx q r):Up H q r:=λ_ Z _ v _ hp=>h Z v hp
theorem Up.fact (i:Nat)(hi:H[i]? =some (.fact v r)):Up H (rv v) r:=λc Z w u hw hp=>by rw[show u=v from hp];exact hw.ent hi
def Mr (H:List Ent):List Rp→List Rp→Prop
 | [],[]=>True
 | q::qs,r::rs=>Up H q r∧Mr H qs rs
 | _,_=>False
theorem Mr.refl:∀rs:List Rp,Mr H rs rs
 | []=>trivial
 | r::rs=>⟨Up.refl r,Mr.refl rs⟩
theorem Mr.all {c:Cx}{Z:Fz}{w:World}(hw:St c H Z w):∀{qs rs:List Rp} {vs:List Value},Mr H qs rs→B9 Z qs vs→B9 Z rs vs
 | [],[],[],_,_=>trivial
 | q::qs,r::rs,v::vs,⟨h1,h2⟩,⟨h3,h4⟩=>⟨h1 c Z w v hw h3,h2.all hw h4⟩
theorem Up.agg {qs:List Rp}(h:Mr H qs rs):Up H (Cz qs) (Cz rs):=λc Z w v hw ⟨us,e,hu⟩=>⟨us,e,h.all hw hu⟩
theorem EB.up {a:Act}{w:World}(ha:EB n l a Z)(hw:St c H Z w){q:Rp}(hd:look l d=some q)(hr:Up H q r):EB n ((d,r)::l) a Z:=
 ⟨ha.size,ha.defers,λi s hi=>by
  rw[Dp] at hi
  split at hi
  ·rename_i e;subst e;simp at hi;subst hi
   obtain⟨u,hu,hp⟩:=ha.tm d _ hd;exact⟨u,hu,hr c Z w u hw hp⟩
  ·exact ha.tm i s hi⟩
theorem WK.up {d:Nat}{q r:Rp}(hd:look l d=some q)(hr:Up H q r)(h:WK n c K ((d,r)::l) H):WK n c K l H:=λa w Z ha hw=>h a w Z (ha.up hw hd hr) hw
theorem WC.up {d:Nat}{q r:Rp}(hd:look l d=some q)(hr:Up H q r)(h:WC P n c x Q ((d,r)::l) H):WC P n c x Q l H:=λa w Z ha hw=>h a w Z (ha.up hw hd hr) hw
theorem WL.up {d:Nat}{q r:Rp}(hd:look l d=some q)(hr:Up H q r)(h:WL P n c ops Q rest ((d,r)::l) H):WL P n c ops Q rest l H:=λa w Z ha hw=>h a w Z (ha.up hw hd hr) hw
theorem St.upBlk {w:World}(h:St c H Z w){b:Nat}{cs cs':List Rp}(hi:H[i]? =some (.blk b cs e))(hu:Mr H cs cs'):St c (H.set i (.blk b cs' e)) Z w:=
 h.set hi rfl rfl rfl (Ap8 _) (λ_ _ _=>rfl) (by obtain⟨us,h1,h2⟩:=h.ent hi;exact⟨us,h1,hu.all h h2⟩) (by simp[Ent.foot])
theorem WK.upBlk {i b:Nat}{cs cs':List Rp}{e:TypeId}(hi:H[i]? =some (.blk b cs e))(hu:Mr H cs cs')(h:WK n c K l (H.set i (.blk b cs' e))):WK n c K l H:=λa w Z ha hw=>h a w Z ha (hw.upBlk hi hu)
theorem WC.upBlk {i b:Nat}{cs cs':List Rp}{e:TypeId}(hi:H[i]? =some (.blk b cs e))(hu:Mr H cs cs')(h:WC P n c x Q l (H.set i (.blk b cs' e))):WC P n c x Q l H:=λa w Z ha hw=>h a w Z ha (hw.upBlk hi hu)
theorem WL.upBlk {i b:Nat}{cs cs':List Rp}{e:TypeId}(hi:H[i]? =some (.blk b cs e))(hu:Mr H cs cs')(h:WL P n c ops Q rest l (H.set i (.blk b cs' e))):WL P n c ops Q rest l H:=λa w Z ha hw=>h a w Z ha (hw.upBlk hi hu)
theorem AV (h:WC P n c x (Exit.then (λa w=>y.wp P Q a w) Q) l H):WC P n c (x.seq y) Q l H:=λa w Z ha hw=>wp_seq (h a w Z ha hw)
theorem EY (inv:S→Prop)(fr:S→Fr)(hp:S→List Ent)(h:WC P n c x (Exit.then (Ni n c inv fr hp) Q) l H)(h2:∀s,inv s→WC P n c y Q (fr s) (hp s)) :
  WC P n c (x.seq y) Q l H:=λa w Z ha hw=>wp_seq (wp_mono (h a w Z ha hw) λe a w q=>by
   cases e with
   | normal=>obtain⟨s,Z,hi,hs,ht⟩:=q;exact h2 s hi a w Z hs ht
   | _=>exact q)
theorem As {inv:S→Prop}{fr:S→Fr}{hp:S→List Ent}(s:S)(hi:inv s)(hl:Hw (fr s) l)(hH:(hp s).Sublist H):WK n c (Ni n c inv fr hp) l H:=
 λ_ _ Z ha hw=>⟨s,Z,hi,ha.sub hl,hw.sub hH⟩
theorem Ax (h:WK n c K l H):WK n c (Exit.then K Q .normal) l H:=h
theorem Ah (h:WK n c (Q (.exit id)) l H):WK n c (Exit.then K Q (.exit id)) l H:=h
theorem Ao (h:WK n c (Q .ret) l H):WK n c (Exit.then K Q .ret) l H:=h
theorem Ca (h:WK n c (Q .normal) l H):WK n c (Exit.inBlock id Q .normal) l H:=h
theorem G9 (h:WK n c (Q .ret) l H):WK n c (Exit.inBlock id Q .ret) l H:=h
theorem Cu (h:WC P n c y Q l H):WK n c (λa w=>y.wp P Q a w) l H:=h
theorem B3 (h:WK n c (Q .normal) l H):WC P n c .skip Q l H:=λa w Z ha hw=>wp_skip (h a w Z ha hw)
theorem Bs (h:WK n c (Q (.exit id)) l H):WC P n c (.exit id) Q l H:=λa w Z ha hw=>wp_exit (h a w Z ha hw)
theorem BO (h:WK n c (Q .ret) l H):WC P n c .ret Q l H:=λa w Z ha hw=>wp_ret (h a w Z ha hw)
theorem Au (h:WC P n c x (Exit.inBlock id Q) l H):WC P n c (.block id x) Q l H:=λa w Z ha hw=>wp_block (h a w Z ha hw)
theorem AR (h:WK n c (Q .normal) l H):WK n c (Exit.inBlock id Q (.exit id)) l H:=λa w Z ha hw=>by
 show if id=id then _ else _
 rw[ApW rfl];exact h a w Z ha hw
theorem Aba {id':Nat}(hne:Nat.beq id' id=false)(h:WK n c (Q (.exit id')) l H):WK n c (Exit.inBlock id Q (.exit id')) l H:=λa w Z ha hw=>by
 show if id'=id then _ else _
 rw[ApP (λe=>by subst e;simp at hne)];exact h a w Z ha hw
theorem My {o:Operand}(ho:ev l o=some (rB b))(h1:b=true→WC P n c x Q l H)(h2:b=false→WC P n c y Q l H):WC P n c (.cond o x y) Q l H:=
 λa w Z ha hw=>wp_cond_split (ha.eval ho) (λe=>h1 e a w Z ha hw) (λe=>h2 e a w Z ha hw)
theorem CG {o:Operand}(ho:ev l o=some (rB b))(hb:b=true)(h:WC P n c x Q l H):WC P n c (.cond o x y) Q l H:=
 λa w Z ha hw=>by subst hb;exact wp_cond_true (ha.eval ho) (h a w Z ha hw)
theorem CV {o:Operand}(ho:ev l o=some (rB b))(hb:b=false)(h:WC P n c y Q l H):WC P n c (.cond o x y) Q l H:=
 λa w Z ha hw=>by subst hb;exact wp_cond_false (ha.eval ho) (h a w Z ha hw)
theorem T0 (inv:S→Prop)(fr:S→Fr)(hp:S→List Ent)(μ:S→Nat)(s0:S)(h0:inv s0)(hl:Hw (fr s0) l)(hH:(hp s0).Sublist H)
  (round:∀s,inv s→WC P n c x (Exit.then (Ni n c (λs'=>inv s'∧μ s'<μ s) fr hp) Q) (fr s) (hp s)):WC P n c (.loop x) Q l H:=λa w Z ha hw=>by
 refine wp_loop_ghost (λk a w=>∃s Z,μ s=k∧inv s∧EB n (fr s) a Z∧St c (hp s) Z w) (μ s0) ⟨s0,Z,rfl,h0,ha.sub hl,hw.sub hH⟩ ?_;rintro k a w ⟨s,Z,rfl,hi,ha,hw⟩;refine wp_mono (round s hi a w Z ha hw) λe a' w' q=>?_
 cases e with
 | normal=>
  obtain⟨s',Z',⟨hi',hlt⟩,ha',hw'⟩:=q;exact⟨μ s',hlt,s',Z',rfl,hi',ha',hw'⟩
 | _=>exact q
theorem A4 {ops:List Oper}(h:WL P n c ops.toArray Q ops l H):WC P n c (.region id ops.toArray false) Q l H:=λa w Z ha hw=>wp_region_lit (h a w Z ha hw)
theorem Az (h:WK n c (Q .normal) l H):WL P n c ops Q [] l H:=λa w Z ha hw=>wpList_nil (h a w Z ha hw)
theorem sN:([]:List α).Sublist []:=List.Sublist.slnil
theorem sC {a:α}{l2:List α}(h:l1.Sublist l2):(a::l1).Sublist (a::l2):=List.Sublist.cons_cons a h
theorem sS {a:α}{l2:List α}(h:l1.Sublist l2):l1.Sublist (a::l2):=List.Sublist.cons a h
theorem Cy (h:WC P n c y Q l H):WK n c (Exit.then (λa w=>y.wp P Q a w) Q .normal) l H:=Ax (Cu h)
theorem AJ (h:WC P n c y Q l H):WL P n c ops (Exit.then (λa w=>y.wp P Q a w) Q) [] l H:=Az (Cy h)
theorem Ay {ops:List Oper}(h:WL P n c ops.toArray (Exit.then (λa w=>y.wp P Q a w) Q) ops l H):WC P n c ((Code.region id ops.toArray false).seq y) Q l H:=AV (A4 h)
theorem Dc {os:List Oper}(h:WL P n c os.toArray (Exit.then (λa w=>y.wp P Q a w) Q) os l H):WL P n c ops (Exit.then (λa w=>((Code.region id os.toArray false).seq y).wp P Q a w) Q) [] l H:=AJ (Ay h)
def rle:List (Nat×List Ent)→List (List Ent)
 | []=>[]
 | p::r=>List.replicate p.1 p.2++rle r
theorem Gv {a:Act}(ha:EB n l a Z)(hj:Ed ops j=some d)(hv:look l d=some (rB b)):yielded ops a.tmps j=some b:=by
 unfold Ed at hj;obtain⟨v,h1,h2⟩:=ha.tm d _ hv;rw[show v = .bool b from h2] at h1;simp[yielded,hj,h1]
theorem Jp {a:Act}(ha:EB n l a Z)(hj:Ed ops j=some d)(hv:look l d=some (rv undef)):yielded ops a.tmps j=none:=by
 unfold Ed at hj;obtain⟨v,h1,h2⟩:=ha.tm d _ hv;rw[show v=undef from h2] at h1;simp[yielded,hj,h1,undef]
theorem Dd {d:Option Nat}{dj:Nat}{want:Bool}(hj:Ed ops j=some dj)(hv:look l dj=some (rB b))(hb:b=want)
  (h:WL P n c ops Q ({ dst:=d,op:=op,type:=ty,pos:=pos,after:=af,guard:=none }::rest) l H) :
  WL P n c ops Q ({ dst:=d,op:=op,type:=ty,pos:=pos,after:=af,guard:=some (j,want) }::rest) l H:=λa w Z ha hw=>by
 have h1:=h a w Z ha hw;have hy:=Gv ha hj hv;subst hb;simp only[wpList,Region.wanted,hy,beq_self_eq_true,Aqp] at h1 ⊢;exact h1
theorem DL {dj:Nat}{want:Bool}(hj:Ed ops j=some dj)(hv:look l dj=some (rB b))(hb:b = !want)(hn:Nat.blt d n=true)
  (h:WL P n c ops Q rest ((d,rv undef)::l) H) :
  WL P n c ops Q ({ dst:=some d,op:=op,type:=ty,pos:=pos,after:=af,guard:=some (j,want) }::rest) l H:=λa w Z ha hw=>by
 have hy:=Gv ha hj hv;subst hb;refine wpList_skip ?_ (h _ w Z (ha.put hn rfl) hw);simp[Region.wanted,hy]
theorem Ef {dj:Nat}{want:Bool}(hj:Ed ops j=some dj)(hv:look l dj=some (rv undef))(hn:Nat.blt d n=true)
  (h:WL P n c ops Q rest ((d,rv undef)::l) H) :
  WL P n c ops Q ({ dst:=some d,op:=op,type:=ty,pos:=pos,after:=af,guard:=some (j,want) }::rest) l H:=λa w Z ha hw=>by
 have hy:=Jp ha hj hv;refine wpList_skip ?_ (h _ w Z (ha.put hn rfl) hw);simp[Region.wanted,hy]
theorem Cj (hr:Cd P n c l H { dst:=some d,op:=op,type:=ty,pos:=pos,after:=af,guard:=none } r)
  (hn:Nat.blt d n=true) (h:WL P n c ops Q rest ((d,r)::l) H):WL P n c ops Q ({ dst:=some d,op:=op,type:=ty,pos:=pos,after:=af,guard:=none }::rest) l H:=λa w Z ha hw=>
 wpList_plain rfl λK hK=>by
  obtain⟨v,hv,he⟩:=hr a w Z ha hw;unfold Oper.wp;rw[he];exact hK _ _ (h _ w Z (ha.put hn hv) hw)
theorem Pd
  (hr:∀a w Z,EB n l a Z→St c H Z w→∃v w' r H' Z',(execOp a.eval { dst:=some d,op:=op,type:=ty,pos:=pos,after:=af,guard:=none }).run P w = .ok (.value v) w'∧Fz.le Z Z'∧r.p Z' v∧St c H' Z' w'∧WL P n c ops Q rest ((d,r)::l) H')
  (hn:Nat.blt d n=true):WL P n c ops Q ({ dst:=some d,op:=op,type:=ty,pos:=pos,after:=af,guard:=none }::rest) l H:=λa w Z ha hw=>
 wpList_plain rfl λK hK=>by
  obtain⟨v,w',r,H',Z',h1,hz,hv,h2,h3⟩:=hr a w Z ha hw;unfold Oper.wp;rw[h1];exact hK _ _ (h3 _ w' Z' ((ha.mono hz).put hn hv) h2)
theorem AiF
  (hr:∀a w Z,EB n l a Z→St c H Z w→∃w' H',(execOp a.eval { dst:=none,op:=op,type:=ty,pos:=pos,after:=af,guard:=none }).run P w = .ok .skip w'∧St c H' Z w'∧WL P n c ops Q rest l H') :
  WL P n c ops Q ({ dst:=none,op:=op,type:=ty,pos:=pos,after:=af,guard:=none }::rest) l H:=λa w Z ha hw=>
 wpList_plain rfl λK hK=>by
  obtain⟨w',H',h1,h2,h3⟩:=hr a w Z ha hw;unfold Oper.wp;rw[h1];exact hK _ _ (h3 _ w' Z (ha.put_none _) h2)
theorem Oq {args:Act→Array Value}
  (hr:∀a w Z,EB n l a Z→St c H Z w→(execOp a.eval { dst:=some d,op:=op,type:=ty,pos:=pos,after:=af,guard:=none }).run P w = .ok (.enter f (args a)) w∧
   Calls P f (args a) w (λe w'=>∃v r H' Z',e = .returned v∧Fz.le Z Z'∧r.p Z' v∧St c H' Z' w'∧WL P n c ops Q rest ((d,r)::l) H'))
  (hn:Nat.blt d n=true):WL P n c ops Q ({ dst:=some d,op:=op,type:=ty,pos:=pos,after:=af,guard:=none }::rest) l H:=λa w Z ha hw=>
 wpList_plain rfl λK hK=>by
  obtain⟨h0,hc⟩:=hr a w Z ha hw;unfold Oper.wp;rw[h0];refine hc.mono ?_;rintro e w' ⟨v,r,H',Z',rfl,hz,hv,h2,h3⟩;exact hK _ _ (h3 _ w' Z' ((ha.mono hz).put hn hv) h2)
def Ph (l:Fr):List Operand→Option (List Rp)
 | []=>some []
 | x::r=>match ev l x,Ph l r with
  | some v,some vs=>some (v::vs)
  | _,_=>none
theorem H6 {a:Act}{Z:Fz}(ha:EB n l a Z):∀{xs:List Operand} {rs:List Rp},Ph l xs=some rs→B9 Z rs (xs.map a.eval)
 | [],rs,h=>by simp[Ph] at h;subst h;trivial
 | x::r,rs,h=>by
  simp only[Ph] at h
  split at h
  ·rename_i v vs' h1 h2
   simp at h;subst h;exact⟨ha.ev h1,H6 ha h2⟩
  ·cases h
theorem Ha {args:List Operand}{o:Oper}{a:Act}(ho:o.op = .call { callee:=.value (.func f),args:=args.toArray,argTypes:=ats })
  (hcall:∀(as1:Array Value) (w:World),(callFunc f as1).run P w = .ok (.enter f as1) w) (w:World):(execOp a.eval o).run P w = .ok (.enter f (args.map a.eval).toArray) w:=by
 simp[execOp,ho,resolve,Act.eval,Deferred.ofValue,invoke,hcall]
def KZ:List Rp→List Rp→Prop
 | [],[]=>True
 | r::rs,q::qs=>Hx r q∧KZ rs qs
 | _,_=>False
theorem KZ.refl:∀rs:List Rp,KZ rs rs
 | []=>trivial
 | r::rs=>⟨Hx.refl r,KZ.refl rs⟩
theorem KZ.all {Z:Fz}:∀{rs qs:List Rp} {vs:List Value},KZ rs qs→B9 Z rs vs→B9 Z qs vs
 | [],[],[],_,_=>trivial
 | r::rs,q::qs,v::vs,⟨h1,h2⟩,⟨h3,h4⟩=>⟨h1 Z v h3,h2.all h4⟩
theorem Fn.sub {args args':List Rp}{Φ':Rp→List Ent→Prop}(h:Fn P E f args' Hin Φ)(ha:KZ args args')(hΦ:∀r H,Φ r H→Φ' r H):Fn P E f args Hin Φ':=λw Z vs hv hs=>
 (h w Z vs (ha.all hv) hs).mono λe w' ⟨r,v,H,Z',he,hp,hr,ht⟩=>⟨r,v,H,Z',he,hΦ r H hp,hr,ht⟩
theorem DH {args:List Operand}{Hr:List Ent}(hcall:∀(as1:Array Value) (w:World),(callFunc f as1).run P w = .ok (.enter f as1) w)(hv:Ph l args=some rs)
  (hp:H.Perm (Hin++Hr)) (hc:Fn P c.E f rs Hin Φ) (hn:Nat.blt d n=true) (h:∀r Ho,Φ r Ho→WL P n c ops Q rest ((d,r)::l) (Ho++Hr)) :
  WL P n c ops Q ({ dst:=some d,op:=.call { callee:=.value (.func f),args:=args.toArray,argTypes:=ats },type:=ty,pos:=pos,after:=af,guard:=none }::rest) l H:=
 Oq (args:=λa=>(args.map a.eval).toArray) (λa w Z ha hw=>⟨Ha rfl hcall w,by
  have hw2:=hw.perm hp;refine(hc w Z _ (H6 ha hv) hw2.enter).mono ?_;rintro e w' ⟨r,v,Ho,Z',he,hΦ,hr,hs⟩;exact⟨v,r,Ho++Hr,Z',he,hs.le,hr,hw2.call hs,h r Ho hΦ⟩⟩) hn
theorem CC {args:List Operand}{r':Rp}(hcall:∀(as1:Array Value) (w:World),(callFunc f as1).run P w = .ok (.enter f as1) w)(hv:Ph l args=some rs)
  (hc:Fn0 P c.E f rs r') (hr:r'=r) (hn:Nat.blt d n=true) (h:WL P n c ops Q rest ((d,r)::l) H) :
  WL P n c ops Q ({ dst:=some d,op:=.call { callee:=.value (.func f),args:=args.toArray,argTypes:=ats },type:=ty,pos:=pos,after:=af,guard:=none }::rest) l H:=
 DH (Hin:=[]) (Hr:=H) hcall hv (Ap3 _) hc hn (by rintro _ _ ⟨rfl,rfl⟩;subst hr;exact h)
theorem KP:∀{Z:Fz} (rs:List Rp) (vs:List Value) (k:Nat),B9 Z rs vs→∀i r,look ((rs.zipIdx k).map λp=>(p.2,p.1)) i=some r→k≤i∧∃v,vs[i-k]? =some v∧r.p Z v
 | _,[],[],k,_,i,r,h=>by simp[look] at h
 | Z,q::rs,v::vs,k,⟨h1,h2⟩,i,r,h=>by
  simp only[List.zipIdx_cons,Aqj] at h;rw[Dp] at h
  split at h
  ·rename_i e;subst e;simp at h;subst h;exact⟨Ap8 _,v,by simp,h1⟩
  ·rename_i e
   obtain⟨h3,u,h4,h5⟩:=KP rs vs (k+1) h2 i r h;refine⟨by omega,u,?_,h5⟩;rw[show i-k=(i-(k+1))+1 from by omega];simpa using h4
def Ru (rs:List Rp):Fr:=(rs.zipIdx 0).map λp=>(p.2,p.1)
theorem enter {x:Code}{args:List Rp}(hf:P.funcs[f]? =some fn)(hb:fn.body=some x)(hn:fn.ntmps=n)(hle:Nat.ble args.length n=true)
  (h:∀w Z,WC P n ⟨w,Z,Hin.flatMap Ent.foot,E,Hin.flatMap Ent.gk⟩ x (bodyPost P fn (Ret ⟨w,Z,Hin.flatMap Ent.foot,E,Hin.flatMap Ent.gk⟩ Φ)) (Ru args) Hin):Fn P E f args Hin Φ:=λw Z vs hv hs=>by
 have hle':args.length≤n:=by simpa using hle
 have hl:=hv.length;refine calls_of_wp hf hb (h w Z _ w Z ⟨?_,rfl,λi r hi=>?_⟩ hs)
 ·simp[hn];omega
 ·obtain⟨_,v,h1,h2⟩:=KP args vs 0 hv i r hi;simp only[Nat.sub_zero] at h1;have hlt:i<vs.length:=(List.getElem?_eq_some_iff.1 h1).1;refine⟨v,?_,h2⟩;rw[Array.getElem?_append_left (by simpa using hlt)];simpa using h1
def AfE (P:Program)(n:Nat)(c:Cx)(l:Fr)(H:List Ent)(fn:Func)(r:Rp):Prop:=∀a w Z,EB n l a Z→St c H Z w→∃v,r.p Z v∧(results fn a.tmps).run P w = .ok v w
theorem Ap (hr:AfE P n c l H fn r)(hp:H2.Sublist H)(h:Φ r H2):WK n c (bodyPost P fn (Ret c Φ) .ret) l H:=
 λa w Z ha hw=>by
  obtain⟨v,hv,he⟩:=hr a w Z ha hw;exact⟨ha.defers,v,he,r,v,H2,Z,rfl,h,hv,hw.sub hp⟩
theorem H7 (hr:AfE P n c l H fn r)(hp:H2.Sublist H)(h:Φ r H2):WK n c (bodyPost P fn (Ret c Φ) .normal) l H:=
 λa w Z ha hw=>by
  obtain⟨v,hv,he⟩:=hr a w Z ha hw;exact⟨ha.defers,v,he,r,v,H2,Z,rfl,h,hv,hw.sub hp⟩
theorem AiG (hp:H.Perm H2)(h:WK n c K l H2):WK n c K l H:=λa w Z ha hw=>h a w Z ha (hw.perm hp)
def Ajb (P:Program)(a:Act):ResultVar→Sem Value
 | .tmp t=>pure (a.tmps.getD t undef)
 | .cell b t=>do loadVar t (← asAddr (a.tmps.getD b undef))
def RV (P:Program)(n:Nat)(c:Cx)(l:Fr)(H:List Ent)(x:ResultVar)(r:Rp):Prop:=∀a w Z,EB n l a Z→St c H Z w→∃v,r.p Z v∧(Ajb P a x).run P w = .ok v w
theorem AiY (h:look l i=some r):RV P n c l H (.tmp i) r:=λa w Z ha _=>by
 obtain⟨v,h1,h2⟩:=ha.tm i r h;exact⟨v,h2,by simp[Ajb,Array.getD_eq_getD_getElem?,h1]⟩
theorem PN (fn:Func)(a:Act):results fn a.tmps=(do
  let vs ← fn.results.mapM (Ajb P a)
  pure (if h:vs.size=1 then vs[0] else .tuple vs)):=by
 unfold results
 congr 1
theorem Y7 (hr:fn.results = #[]):AfE P n c l H fn (rv (.tuple #[])):=λa w Z ha _=>⟨_,rfl,by simp[results,hr]⟩
theorem Ct {x:ResultVar}(hr:fn.results = #[x])(h:RV P n c l H x r):AfE P n c l H fn r:=λa w Z ha hw=>by
 obtain⟨v,h1,h2⟩:=h a w Z ha hw;exact⟨v,h1,by simp[PN (P:=P),hr,h2]⟩
theorem LA {x y:ResultVar}{s:Rp}(hr:fn.results = #[x,y])(h:RV P n c l H x r)(h':RV P n c l H y s):AfE P n c l H fn (DW [r,s]):=λa w Z ha hw=>by
 obtain⟨v,h1,h2⟩:=h a w Z ha hw;obtain⟨u,h3,h4⟩:=h' a w Z ha hw;exact⟨.tuple #[v,u],⟨[v,u],rfl,h1,h3,trivial⟩,by simp[PN (P:=P),hr,h2,h4]⟩
theorem VK {x y z:ResultVar}{s t:Rp}(hr:fn.results = #[x,y,z])(h:RV P n c l H x r)(h':RV P n c l H y s)(h'':RV P n c l H z t):AfE P n c l H fn (DW [r,s,t]):=λa w Z ha hw=>by
 obtain⟨v,h1,h2⟩:=h a w Z ha hw;obtain⟨u,h3,h4⟩:=h' a w Z ha hw;obtain⟨q,h5,h6⟩:=h'' a w Z ha hw;exact⟨.tuple #[v,u,q],⟨[v,u,q],rfl,h1,h3,h5,trivial⟩,by simp[PN (P:=P),hr,h2,h4,h6]⟩
theorem Akz {l':Fr}{H':List Ent}(hl:l=l')(hH:H=H')(h:WC P n c x Q l' H'):WC P n c x Q l H:=by subst hl;subst hH;exact h
theorem Ami {l':Fr}{H':List Ent}(hl:l=l')(hH:H=H')(h:WK n c K l' H'):WK n c K l H:=by subst hl;subst hH;exact h
theorem AaZ {H':List Ent}(hH:H=H')(h:WL P n c ops Q rest l H'):WL P n c ops Q rest l H:=by subst hH;exact h
theorem PH {H':List Ent}(hH:H=H')(h:WK n c K l H'):WK n c K l H:=by subst hH;exact h
theorem AiJ (hp:H.Perm H2)(h:WC P n c x Q l H2):WC P n c x Q l H:=λa w Z ha hw=>h a w Z ha (hw.perm hp)
def Mid (n:Nat)(c:Cx)(l:Fr)(H:List Ent):Act→World→Prop:=λa w=>∃Z,EB n l a Z∧St c H Z w
theorem Ar (l1:Fr)(H1:List Ent)(h:WC P n c x (Exit.then (Mid n c l1 H1) Q) l H)(h2:WC P n c y Q l1 H1):WC P n c (x.seq y) Q l H:=λa w Z ha hw=>
 wp_seq (wp_mono (h a w Z ha hw) λe a w q=>by
  cases e with
  | normal=>obtain⟨Z,h3,h4⟩:=q;exact h2 a w Z h3 h4
  | _=>exact q)
theorem Ix {l1:Fr}{H1:List Ent}(hl:Hw l1 l)(hH:H1.Sublist H):WK n c (Mid n c l1 H1) l H:=λ_ _ Z ha hw=>⟨Z,ha.sub hl,hw.sub hH⟩
def Akf (id:Nat)(K:Act→World→Prop)(Q:Exit→Act→World→Prop):Exit→Act→World→Prop
 | .exit i,a,w=>if i=id then K a w else Q (.exit i) a w
 | e,a,w=>Q e a w
theorem AN (h:WK n c K l H):WK n c (Akf id K Q (.exit id)) l H:=λa w Z ha hw=>by
 show if id=id then _ else _
 rw[ApW rfl];exact h a w Z ha hw
theorem Bf (h:WK n c (Q .ret) l H):WK n c (Akf id K Q .ret) l H:=h
theorem Bk {V:Type}(id:Nat)(inv:S→Prop)(fr:S→Fr)(hp:S→List Ent)(μ:S→Nat)(s0:S)(h0:inv s0)(hl:Hw (fr s0) l)(hH:(hp s0).Sublist H)(iv:V→Prop)(fv:V→Fr)(hv:V→List Ent)
  (round:∀s,inv s→WC P n c x (Exit.then (Ni n c (λs'=>inv s'∧μ s'<μ s) fr hp) (Akf id (Ni n c iv fv hv) Q)) (fr s) (hp s)) (hexit:∀v,iv v→WK n c (Q (.exit id)) (fv v) (hv v)):WC P n c (.loop x) Q l H:=λa w Z ha hw=>
 wp_mono (T0 (Q:=Akf id (Ni n c iv fv hv) Q) inv fr hp μ s0 h0 hl hH round a w Z ha hw) λe a w q=>by
  cases e with
  | exit i=>
   by_cases hi:i=id
   ·subst hi;have q':if i=i then Ni n c iv fv hv a w else Q (.exit i) a w:=q
    rw[ApW rfl] at q';obtain⟨v,Z,h1,h2,h3⟩:=q';exact hexit v h1 a w Z h2 h3
   ·have q':if i=id then Ni n c iv fv hv a w else Q (.exit i) a w:=q
    rw[ApP hi] at q';exact q'
  | _=>exact q
theorem Age {lb:Nat}(h:WK n c (Q .normal) l H):WC P n c (.label lb) Q l H:=λa w Z ha hw=>wp_label (h a w Z ha hw)
theorem Agd (h:WC P n c x (Exit.noGoto Q) l H):WC P n c (.scope x) Q l H:=λa w Z ha hw=>wp_scope_straight (h a w Z ha hw)
theorem Q1 (h:WK n c (Q .ret) l H):WK n c (Exit.noGoto Q .ret) l H:=h
end
theorem Fn0.of_old {P:Program}{vs:List Value}(h:∀w Z,Frz Z w→E Z→Calls P f vs.toArray w (Pj w v)):Fn0 P E f (vs.map rv) (rv v):=λw Z us hu hs=>by
 rw[B9.eq_rv hu];refine(h w Z hs.frz hs.env).mono λe w' ⟨he,ht⟩=>⟨rv v,v,[],Z,he,⟨rfl,rfl⟩,rfl,⟨ht.os,ht.tape,ht.output,ht.size,ht.old,by simp,by simp,by simp,⟨λb o hb=>?_,λk i b hb=>Nat.lt_of_lt_of_le (hs.frz.nm k i b hb) ht.size⟩,Fz.le.refl _,λ_ _ e=>.inl e,by simp,hs.env,hs.emono,Ry.none rfl⟩⟩
 rw[ht.old b (hs.frz.lt hb) (by simp)];exact hs.frz b o hb
end Go.Proofs.YtphnhpcjnmmhiaaGreatDoor.Q
namespace Go.Proofs.YtphnhpcjnmmhiaaGreatDoor
def DT (c:Int):Bool:=decide (97≤c)&&decide (c≤122)
def G5 (c:Int):Bool:=decide (48≤c)&&decide (c≤57)
def ED (c:Int):Bool:=DT c||G5 c||(decide (65≤c)&&decide (c≤90))||decide (c=45)||decide (c=95)||decide (c=46)||decide (c=58)||decide (c=47)
def JN (n:Int):Bool:=decide (-1000000000000≤n)&&decide (n≤1000000000000)
def C0 (p:List UInt8)(i:Int):Int:=((p[i.toNat]?).getD 0).toNat
theorem AlR (p:List UInt8)(i:Int):0≤C0 p i∧C0 p i≤255:=by
 unfold C0;have:=((p[i.toNat]?).getD 0).toNat_lt;omega
variable{u:UInt8}{k:Nat}{p:List UInt8}
theorem V1 (h:p[k]? =some u):C0 p (k:Int)=u.toNat:=by simp[C0,h]
def BB (f:Nat→UInt8→Bool):Nat→List UInt8→Bool
 | _,[]=>true
 | i,u::r=>f i u&&BB f (i+1) r
def Gb (i:Nat)(u:UInt8):Bool:=DT u.toNat||(!decide (i=0)&&(G5 u.toNat||decide ((u.toNat:Int)=45)||decide ((u.toNat:Int)=95)))
def L3 (_:Nat)(u:UInt8):Bool:=ED u.toNat
def D0 (p:List UInt8):Bool:=BB Gb 0 p&&decide (1≤p.length)&&decide (p.length≤24)
def Mf (p:List UInt8):Bool:=BB L3 0 p&&decide (1≤p.length)&&decide (p.length≤64)
theorem Mp (h:p[k]? =some u):p.drop k=u::p.drop (k+1):=by
 obtain⟨h1,h2⟩:=List.getElem?_eq_some_iff.1 h;rw[List.drop_eq_getElem_cons h1,h2]
variable{f:Nat→UInt8→Bool}
theorem AgC (hi:k≤p.length∧BB f 0 p=BB f k (p.drop k))(h:p[k]? =some u)(ht:f k u=false):BB f 0 p=false:=by
 rw[hi.2,Mp h];simp[BB,ht]
theorem Zp (hi:k≤p.length∧BB f 0 p=BB f k (p.drop k))(h:p[k]? =some u)(ht:f k u=true) :
  (k+1≤p.length∧BB f 0 p=BB f (k+1) (p.drop (k+1)))∧p.length-(k+1)<p.length-k:=by
 have hk:k<p.length:=(List.getElem?_eq_some_iff.1 h).1;refine⟨⟨hk,?_⟩,by omega⟩;rw[hi.2,Mp h];simp[BB,ht]
theorem AcH (hi:k≤p.length∧BB f 0 p=BB f k (p.drop k))(h:p.length≤k):BB f 0 p=true:=by
 rw[hi.2,List.drop_of_length_le h];rfl
def UP (k c:Nat):Bool:=!(DT c)&&(decide ((k:Int)=0)||(!(G5 c)&&(!(decide ((c:Int)=45))&&!(decide ((c:Int)=95)))))
variable{wd c:Nat}
theorem WH (hl:u.toNat<128→c=u.toNat∧wd=1)(hh:128≤u.toNat→128≤c):UP k c = !Gb k u:=by
 rcases Nat.lt_or_ge u.toNat 128 with h | h
 ·rw[(hl h).1];have e:decide ((k:Int)=0)=decide (k=0):=by simp
  simp only[UP,Gb,e]
  cases DT u.toNat<;>cases decide (k=0)<;>cases G5 u.toNat<;>simp
 ·have h2:=hh h;have e:∀m:Nat,128≤m→UP k m=true:=λm hm=>by
   simp[UP,DT,G5];omega
  have e2:Gb k u=false:=by simp[Gb,DT,G5];omega
  rw[e c h2,e2];rfl
theorem AeS (hi:k≤p.length∧BB Gb 0 p=BB Gb k (p.drop k))(h:p[k]? =some u)(hl:u.toNat<128→c=u.toNat∧wd=1)(hh:128≤u.toNat→128≤c)
  (ht:UP k c=false):(k+wd≤p.length∧BB Gb 0 p=BB Gb (k+wd) (p.drop (k+wd)))∧p.length-(k+wd)<p.length-k:=by
 rcases Nat.lt_or_ge u.toNat 128 with hu | hu
 ·rw[(hl hu).2];rw[WH hl hh] at ht;exact Zp hi h (by simpa using ht)
 ·have h2:=hh hu;simp[UP,DT,G5] at ht;omega
theorem Aj1 (hi:k≤p.length∧BB Gb 0 p=BB Gb k (p.drop k))(h:p[k]? =some u)(hl:u.toNat<128→c=u.toNat∧wd=1)(hh:128≤u.toNat→128≤c)
  (ht:UP k c=true):D0 p=false:=by
 rw[WH hl hh] at ht;simp[D0,AgC hi h (by simpa using ht)]
theorem Ahm (hi:k≤p.length∧BB Gb 0 p=BB Gb k (p.drop k))(h:p.length≤k):D0 p=((decide ((1:Int)≤p.length))&&(decide ((p.length:Int)≤24))):=by
 simp[D0,AcH hi h];grind
theorem Ads (hl:u.toNat<128→c=u.toNat∧wd=1)(hh:128≤u.toNat→128≤c):ED c=L3 k u:=by
 rcases Nat.lt_or_ge u.toNat 128 with h | h
 ·rw[(hl h).1];rfl
 ·have h2:=hh h;have e:∀m:Nat,128≤m→ED m=false:=λm hm=>by
   simp[ED,DT,G5];omega
  rw[e c h2];exact(e _ h).symm
theorem AjP (hi:k≤p.length∧BB L3 0 p=BB L3 k (p.drop k))(h:p[k]? =some u)(hl:u.toNat<128→c=u.toNat∧wd=1)(hh:128≤u.toNat→128≤c)
  (ht:(!ED c)=false):(k+wd≤p.length∧BB L3 0 p=BB L3 (k+wd) (p.drop (k+wd)))∧p.length-(k+wd)<p.length-k:=by
 have ht':ED c=true:=by simpa using ht
 rcases Nat.lt_or_ge u.toNat 128 with hu | hu
 ·rw[(hl hu).2];rw[Ads (k:=k) hl hh] at ht';exact Zp hi h ht'
 ·have h2:=hh hu;simp[ED,DT,G5] at ht';omega
theorem AmD (hi:k≤p.length∧BB L3 0 p=BB L3 k (p.drop k))(h:p[k]? =some u)(hl:u.toNat<128→c=u.toNat∧wd=1)(hh:128≤u.toNat→128≤c)
  (ht:(!ED c)=true):Mf p=false:=by
 rw[Ads (k:=k) hl hh] at ht;simp[Mf,AgC hi h (by simpa using ht)]
theorem AlD (hi:k≤p.length∧BB L3 0 p=BB L3 k (p.drop k))(h:p.length≤k):Mf p=((decide ((1:Int)≤p.length))&&(decide ((p.length:Int)≤64))):=by
 simp[Mf,AcH hi h];grind
open Go
set_option linter.unusedVariables false
abbrev Ac:=List UInt8
def Jb (s:Ac):Bool:=decide (s.length≤1048576)
def GL (l:List UInt8):List Int:=l.map λc=>(c.toNat:Int)
def BT (k:IntKind)(x:Int):Bool:=decide (k.min≤x)&&decide (x≤k.max)
def Cn (i n:Int):Bool:=decide (0≤i)&&decide (i<n)
def IG (i n:Int):Bool:=decide (0≤i)&&decide (i≤n)
def Dl (b n:Nat):Bool:=decide (n*b≤140737488355328)
def imp (a b:Bool):Bool:=!a||b
def AM {α:Type}(p:Bool)(x:Option α):Option α:=bif p then x else none
def Bj {α:Type}(p:Bool)(x y:Option α):Option α:=bif p then x else y
def Nu {α β:Type}(a:α)(k:α→Option β):Option β:=k a
def Ba {α β:Type}(a:Option α)(k:α→Option β):Option β:=match a with
 | some x=>k x
 | none=>none
theorem MI {x:Int}(h:BT .i64 x=true) : -9223372036854775808≤x∧x≤9223372036854775807:=by simpa[BT,IntKind.min,IntKind.max,IntKind.signed,IntKind.bits] using h
theorem I6 {x:Int}(h:-9223372036854775808≤x)(h':x≤9223372036854775807):BT .i64 x=true:=by simpa[BT,IntKind.min,IntKind.max,IntKind.signed,IntKind.bits] using And.intro h h'
theorem Adq {x:Int}(h:0≤x)(h':x≤255):BT .u8 x=true:=by simpa[BT,IntKind.min,IntKind.max,IntKind.signed,IntKind.bits] using And.intro h h'
variable{i n:Int}
theorem Da (h:Cn i n=true):0≤i∧i<n:=by simpa[Cn] using h
theorem Me (h:0≤i)(h':i<n):Cn i n=true:=by simp[Cn,h,h']
theorem Gg (h:IG i n=true):0≤i∧i≤n:=by simpa[IG] using h
theorem Afn (h:0≤i)(h':i≤n):IG i n=true:=by simp[IG,h,h']
def ov {α:Type}[Inhabited α](a:Option α):α:=a.getD default
section
variable {α β : Type} {p q : Bool} {x y : Option α} {r : α} {s : β}
theorem Vy (h:AM p x=some r):p=true∧x=some r:=by
 cases p
 ·cases h
 ·exact⟨rfl,h⟩
theorem AmY (hp:p=true)(h:Bj p x y=some r):x=some r:=by subst hp;exact h
theorem AmZ (hp:p=false)(h:Bj p x y=some r):y=some r:=by subst hp;exact h
theorem Ang {a:β}{k:β→Option α}(h:Nu a k=some r):∃b,b=a∧k b=some r:=⟨a,rfl,h⟩
theorem Amx {a:Option β}{k:β→Option α}(h:Ba a k=some r):∃b,a=some b∧k b=some r:=by
 cases a with
 | none=>cases h
 | some b=>exact⟨b,rfl,h⟩
theorem Dr [Inhabited β]{a:Option β}(h:a.isSome=true):a=some (ov a):=by
 cases a with
 | none=>cases h
 | some b=>rfl
theorem Ag0 {a b:α}(h:some a=some b):a=b:=by cases h;rfl
theorem BL (h:imp p q=true)(hp:p=true):q=true:=by subst hp;simpa[imp] using h
theorem CM (h:imp (!p) q=true)(hp:p=false):q=true:=by subst hp;simpa[imp] using h
theorem BN (h:p=true):AM p x=x:=by subst h;rfl
theorem AO (h:p=true):Bj p x y=x:=by subst h;rfl
theorem AC (h:p=false):Bj p x y=y:=by subst h;rfl
theorem Ck {a:Option β}{k:β→Option α}{b:β}(h:a=some b):Ba a k=k b:=by subst h;rfl
theorem A8 {e:Int}(h:-9223372036854775808≤e)(h':e≤9223372036854775807):AM (BT .i64 e) x=x:=BN (I6 h h')
theorem AI (h:0≤i)(h':i<n):AM (Cn i n) x=x:=BN (Me h h')
theorem CU (h:0≤i)(h':i≤n):AM (IG i n) x=x:=BN (Afn h h')
end
inductive Out (R V:Type) where
 | ret (r:R)
 | go (v:V)
 deriving DecidableEq
inductive Stp (S O:Type) where
 | next (s:S)
 | out (o:O)
 deriving DecidableEq
def Cg {S O:Type}(body:S→Option (Stp S O)):Nat→S→Option O
 | 0,_=>none
 | n+1,s=>match body s with
  | none=>none
  | some (.next s')=>Cg body n s'
  | some (.out o)=>some o
def Cm {R V:Type}(K:V→Option R):Out R V→Option R
 | .ret r=>some r
 | .go v=>K v
def AdH {S O:Type}(body:S→Option (Stp S O))(m:Nat)(o:O):Stp S O→Prop
 | .next s'=>Cg body m s'=some o
 | .out o'=>o'=o
section
variable {S R V : Type} {body : S → Option (Stp S (Out R V))} {n m : Nat} {s s' : S} {o : Out R V} {t : Stp S (Out R V)} {K : V → Option R} {r q : R} {v : V}
theorem Cq {O:Type}{body:S→Option (Stp S O)}{o:O}(h:Cg body n s=some o):∃m,n=m+1∧∃t,body s=some t∧AdH body m o t:=by
 cases n with
 | zero=>cases h
 | succ m=>
  refine⟨m,rfl,?_⟩;rw[Cg] at h
  cases hb:body s with
  | none=>rw[hb] at h;cases h
  | some t=>
   rw[hb] at h;refine⟨t,rfl,?_⟩
   cases t with
   | next s'=>exact h
   | out o'=>exact Ag0 h
theorem Bd (h:some (Stp.next s')=some t)(ht:AdH body m o t):Cg body m s'=some o:=by cases h;exact ht
theorem BG (h:some (Stp.out (Out.go v))=some t)(ht:AdH body m o t)(hK:Cm K o=some r):K v=some r:=by
 cases h
 have e:Out.go v=o:=ht;subst e;exact hK
theorem BE (h:some (Stp.out (Out.ret q))=some t)(ht:AdH body m o t)(hK:Cm K o=some r):some q=some r:=by
 cases h
 have e:Out.ret q=o:=ht;subst e;exact hK
theorem H3 {O:Type}{body:S→Option (Stp S O)}(I:S→Prop)(μ:S→Nat)(Qo:O→Prop)(step:∀s,I s→(∃s',body s=some (.next s')∧I s'∧μ s'<μ s)∨∃o,body s=some (.out o)∧Qo o) :
  ∀(n:Nat) (s:S),I s→μ s<n→∃o,Cg body n s=some o∧Qo o
 | 0,s,_,h=>by omega
 | n+1,s,hi,h=>by
  rcases step s hi with⟨s',e,hi',hlt⟩ | ⟨o,e,ho⟩
  ·obtain⟨o,h1,h2⟩:=H3 I μ Qo step n s' hi' (by omega);exact⟨o,by rw[Cg,e];exact h1,h2⟩
  ·exact⟨o,by rw[Cg,e],ho⟩
theorem JW {b:Bool}(h:b=true):(!b)=false:=by subst h;rfl
theorem Add {b:Bool}(h:b=false):(!b)=true:=by subst h;rfl
end
def Af {α:Type}[Inhabited α](xs:List α)(i:Int):α:=(xs[i.toNat]?).getD default
theorem EE {α:Type}{j:Int}{xs ys:List α}{y:α}(h:Cn j (xs.length:Int)=true)(e:ys=xs.set k y):Cn j (ys.length:Int)=true:=by rw[e,List.length_set];exact h
abbrev Cr (a b:List UInt8):Bool:=Op.bytesLess a b
end Go.Proofs.YtphnhpcjnmmhiaaGreatDoor
namespace Go.Proofs.YtphnhpcjnmmhiaaGreatDoor.Q
open Go Go.RowKit
set_option linter.unusedVariables false
set_option linter.unusedSimpArgs false
theorem On:∀{k:IntKind} {x:Int},BT k x=true→k.wrap x=x
 | .i8,x,h=>IntWalk.i8_in x (by simpa[BT,IntKind.min,IntKind.max,IntKind.signed,IntKind.bits] using h)
 | .i16,x,h=>IntWalk.i16_in x (by simpa[BT,IntKind.min,IntKind.max,IntKind.signed,IntKind.bits] using h)
 | .i32,x,h=>IntWalk.i32_in x (by simpa[BT,IntKind.min,IntKind.max,IntKind.signed,IntKind.bits] using h)
 | .i64,x,h=>IntWalk.i64_in x (by simpa[BT,IntKind.min,IntKind.max,IntKind.signed,IntKind.bits] using h)
 | .u8,x,h=>IntWalk.u8_in x (by simpa[BT,IntKind.min,IntKind.max,IntKind.signed,IntKind.bits] using h)
 | .u16,x,h=>IntWalk.u16_in x (by simpa[BT,IntKind.min,IntKind.max,IntKind.signed,IntKind.bits] using h)
 | .u32,x,h=>IntWalk.u32_in x (by simpa[BT,IntKind.min,IntKind.max,IntKind.signed,IntKind.bits] using h)
 | .u64,x,h=>IntWalk.u64_in x (by simpa[BT,IntKind.min,IntKind.max,IntKind.signed,IntKind.bits] using h)
theorem Ev {P:Program}{Z:Fz}{v:Value}{f:Sem Next}{w:World}(h:f.run P w = .ok (.value v) w):∃u,(rv v).p Z u∧f.run P w = .ok (.value u) w:=⟨v,rfl,h⟩
variable{p:List UInt8}{k:IntKind}
section
variable {P : Program} {n : Nat} {c : Cx} {l : Fr} {H : List Ent} {d : Option Nat} {x y z3 : Operand} {ty t t' : TypeId} {pos : String} {af : Array Edge} {g : Option (Nat × Bool)} {v u : Value} {r : Rp}
theorem AE (h:ev l x=some r):Cd P n c l H { dst:=d,op:=.move x,type:=ty,pos:=pos,after:=af,guard:=g } r:=λa w Z ha _=>⟨a.eval x,ha.ev h,by simp[execOp]⟩
theorem BS (h:ev l x=some r):Cd P n c l H { dst:=d,op:=.assign x,type:=ty,pos:=pos,after:=af,guard:=g } r:=λa w Z ha _=>⟨a.eval x,ha.ev h,by simp[execOp]⟩
theorem E9 {b:Bool}(hc:ev l z3=some (rB b))(hb:b=true)(h:ev l x=some r):Cd P n c l H { dst:=d,op:=.pick z3 x y,type:=ty,pos:=pos,after:=af,guard:=g } r:=λa w Z ha _=>⟨a.eval x,ha.ev h,by
 subst hb;simp[execOp,ha.eval hc,asBool]⟩
theorem DX {b:Bool}(hc:ev l z3=some (rB b))(hb:b=false)(h:ev l y=some r):Cd P n c l H { dst:=d,op:=.pick z3 x y,type:=ty,pos:=pos,after:=af,guard:=g } r:=λa w Z ha _=>⟨a.eval y,ha.ev h,by
 subst hb;simp[execOp,ha.eval hc,asBool]⟩
theorem DZ {rs:List Rp}{i:Nat}(h:ev l x=some (DW rs))(hi:rs[i]? =some r):Cd P n c l H { dst:=d,op:=.extract x i,type:=ty,pos:=pos,after:=af,guard:=g } r:=λa w Z ha _=>by
 obtain⟨us,hu,hus⟩:=ha.ev h;obtain⟨v,hv,hp⟩:=hus.at hi;exact⟨v,hp,by simp[execOp,hu,Instr.extract,hv]⟩
theorem Nd {b:Bool}(h:ev l x=some (rB b)):Cd P n c l H { dst:=d,op:=.unOp .not t x,type:=ty,pos:=pos,after:=af,guard:=g } (rB (!b)):=λa w Z ha _=>Ev<|by
 simp[execOp,ha.eval h,Op.unary]
theorem Am1 {m:Int}(h:ev l x=some (rI k m))(hz:BT k (-m)=true):Cd P n c l H { dst:=d,op:=.unOp .neg t x,type:=ty,pos:=pos,after:=af,guard:=g } (rI k (-m)):=λa w Z ha _=>Ev<|by
 simp[execOp,ha.eval h,Op.unary,Op.intArith,On hz]
section
variable {k : IntKind} {p q : Int} (hx : ev l x = some (rI k p)) (hy : ev l y = some (rI k q))
include hx hy
theorem ZL (hz:BT k (p+q)=true):Cd P n c l H { dst:=d,op:=.binOp .add t x y t',type:=ty,pos:=pos,after:=af,guard:=g } (rv (.int k (p+q))):=λa w Z ha _=>Ev<|by
 simp[execOp,ha.eval hx,ha.eval hy,CH,binOp,Op.intArith,On hz]
theorem AcY (hz:BT k (p-q)=true):Cd P n c l H { dst:=d,op:=.binOp .sub t x y t',type:=ty,pos:=pos,after:=af,guard:=g } (rv (.int k (p-q))):=λa w Z ha _=>Ev<|by
 simp[execOp,ha.eval hx,ha.eval hy,CH,binOp,Op.intArith,On hz]
theorem Ahf (hz:BT k (p*q)=true):Cd P n c l H { dst:=d,op:=.binOp .mul t x y t',type:=ty,pos:=pos,after:=af,guard:=g } (rv (.int k (p*q))):=λa w Z ha _=>Ev<|by
 simp[execOp,ha.eval hx,ha.eval hy,CH,binOp,Op.intArith,On hz]
theorem AbC:Cd P n c l H { dst:=d,op:=.binOp .add t x y t',type:=ty,pos:=pos,after:=af,guard:=g } (rI k (k.wrap (p+q))):=λa w Z ha _=>Ev<|by
 simp[execOp,ha.eval hx,ha.eval hy,CH,binOp,Op.intArith]
theorem Ahc:Cd P n c l H { dst:=d,op:=.binOp .sub t x y t',type:=ty,pos:=pos,after:=af,guard:=g } (rI k (k.wrap (p-q))):=λa w Z ha _=>Ev<|by
 simp[execOp,ha.eval hx,ha.eval hy,CH,binOp,Op.intArith]
theorem WE (hq:q≠0)(hz:BT k (p.tdiv q)=true):Cd P n c l H { dst:=d,op:=.binOp .quo t x y t',type:=ty,pos:=pos,after:=af,guard:=g } (rI k (p.tdiv q)):=λa w Z ha _=>Ev<|by
 simp[execOp,ha.eval hx,ha.eval hy,CH,binOp,Op.intDiv,hq,On hz]
theorem Am0 (hq:q≠0):Cd P n c l H { dst:=d,op:=.binOp .rem t x y t',type:=ty,pos:=pos,after:=af,guard:=g } (rI k (p.tmod q)):=λa w Z ha _=>Ev<|by
 simp[execOp,ha.eval hx,ha.eval hy,CH,binOp,Op.intDiv,hq]
theorem AnI:Cd P n c l H { dst:=d,op:=.binOp .lss t x y t',type:=ty,pos:=pos,after:=af,guard:=g } (rv (.bool (decide (p<q)))):=λa w Z ha _=>Ev<|by
 simp[execOp,ha.eval hx,ha.eval hy,CH,binOp,Op.intCmp]
theorem AbA:Cd P n c l H { dst:=d,op:=.binOp .leq t x y t',type:=ty,pos:=pos,after:=af,guard:=g } (rv (.bool (decide (p≤q)))):=λa w Z ha _=>Ev<|by
 simp[execOp,ha.eval hx,ha.eval hy,CH,binOp,Op.intCmp]
theorem AnJ:Cd P n c l H { dst:=d,op:=.binOp .gtr t x y t',type:=ty,pos:=pos,after:=af,guard:=g } (rv (.bool (decide (q<p)))):=λa w Z ha _=>Ev<|by
 simp[execOp,ha.eval hx,ha.eval hy,CH,binOp,Op.intCmp]
theorem Ajy:Cd P n c l H { dst:=d,op:=.binOp .geq t x y t',type:=ty,pos:=pos,after:=af,guard:=g } (rv (.bool (decide (q≤p)))):=λa w Z ha _=>Ev<|by
 simp[execOp,ha.eval hx,ha.eval hy,CH,binOp,Op.intCmp]
theorem Alu:Cd P n c l H { dst:=d,op:=.binOp .eql t x y t',type:=ty,pos:=pos,after:=af,guard:=g } (rv (.bool (decide (p=q)))):=λa w Z ha _=>Ev<|by
 have e:(p ==q)=decide (p=q):=by rw[ApM];simp
 simp[execOp,ha.eval hx,ha.eval hy,CH,binOp,Op.intCmp,e]
theorem Qa:Cd P n c l H { dst:=d,op:=.binOp .neq t x y t',type:=ty,pos:=pos,after:=af,guard:=g } (rv (.bool (!decide (p=q)))):=λa w Z ha _=>Ev<|by
 have e:(p !=q) = !decide (p=q):=by rw[ApM];simp
 simp[execOp,ha.eval hx,ha.eval hy,CH,binOp,Op.intCmp,e]
end
section
variable {p q : List UInt8} (hx : ev l x = some (rS p)) (hy : ev l y = some (rS q))
include hx hy
theorem Als (hz:BT .i64 ((p.length:Int)+(q.length:Int))=true):Cd P n c l H { dst:=d,op:=.binOp .add t x y t',type:=ty,pos:=pos,after:=af,guard:=g } (rv (.string (B (p++q)))):=λa w Z ha _=>Ev<|by
 have : ¬ ((((B p).size+(B q).size:Nat):Int) > IntKind.i64.max):=by rw[Ie,Ie];have:=(MI hz).2;simp[IntKind.max,IntKind.signed,IntKind.bits];omega
 simp only[execOp,ha.eval hx,ha.eval hy,Sem.run_bind,JI,binOp,Op.stringOp,this,Aqe,Ai3];simp
theorem Ahd:Cd P n c l H { dst:=d,op:=.binOp .lss t x y t',type:=ty,pos:=pos,after:=af,guard:=g } (rv (.bool (Op.bytesLess p q))):=λa w Z ha _=>Ev<|by
 simp[execOp,ha.eval hx,ha.eval hy,JI,binOp,Op.stringOp,La]
theorem WD:Cd P n c l H { dst:=d,op:=.binOp .leq t x y t',type:=ty,pos:=pos,after:=af,guard:=g } (rv (.bool (Op.bytesLess p q||decide (p=q)))):=λa w Z ha _=>Ev<|by
 have e:(p ==q)=decide (p=q):=by rw[ApM];simp
 simp[execOp,ha.eval hx,ha.eval hy,JI,binOp,Op.stringOp,La,e]
theorem Ahe:Cd P n c l H { dst:=d,op:=.binOp .eql t x y t',type:=ty,pos:=pos,after:=af,guard:=g } (rv (.bool (decide (p=q)))):=λa w Z ha _=>Ev<|by
 have e:(p ==q)=decide (p=q):=by rw[ApM];simp
 simp[execOp,ha.eval hx,ha.eval hy,JI,binOp,Op.stringOp,La,e]
theorem JB:Cd P n c l H { dst:=d,op:=.binOp .neq t x y t',type:=ty,pos:=pos,after:=af,guard:=g } (rv (.bool (!decide (p=q)))):=λa w Z ha _=>Ev<|by
 have e:(p ==q)=decide (p=q):=by rw[ApM];simp
 simp[execOp,ha.eval hx,ha.eval hy,JI,binOp,Op.stringOp,La,e]
end
theorem AkA {p q:Bool}(ht:P.underlying t=some .bool)(hx:ev l x=some (rB p))(hy:ev l y=some (rB q)):Cd P n c l H { dst:=d,op:=.binOp .eql t x y t',type:=ty,pos:=pos,after:=af,guard:=g } (rv (.bool (p ==q))):=λa w Z ha _=>Ev<|by
 have h1:∀dd:Nat,(Op.equalIn (dd+1) t (.bool p) (.bool q)).run P w = .ok (p ==q) w:=λdd=>by simp[Op.equalIn,run_underlying ht]
 have h2:(Op.equal t (.bool p) (.bool q)).run P w = .ok (p ==q) w:=h1 9999;simp only[execOp,ha.eval hx,ha.eval hy,Sem.run_bind,Yv,Result.andThen_ok,binOp,h2,Sem.run_pure]
theorem AbB {k':IntKind}{m:Int}(hs:∃s,P.underlying t=some s)(hd:P.underlying t'=some (.int k'))(h:ev l x=some (rI k m))(hz:BT k' m=true) :
  Cd P n c l H { dst:=d,op:=.convert t t' x,type:=ty,pos:=pos,after:=af,guard:=g } (rI k' m):=λa w Z ha _=>Ev<|by
 obtain⟨s,hs⟩:=hs;simp[execOp,ha.eval h,convert,run_underlying hs,run_underlying hd,Conv.intToInt,On hz]
theorem OD (ht:P.underlying t=some .string)(h:ev l x=some (rS p)):Cd P n c l H { dst:=d,op:=.call { callee:=.builtin .len,args:=#[x],argTypes:=#[t] },type:=ty,pos:=pos,after:=af,guard:=g } (rv (.int .i64 p.length)):=λa w Z ha _=>Ev<|by
 simp[execOp,resolve,invoke,builtin,ha.eval h,Builtin.len_,run_underlying ht,goInt,Ie]
theorem LV {i:Int}(ht:P.underlying t=some .string)(h:ev l x=some (rS p))(hi:ev l y=some (rI k i))(hg:Cn i (p.length:Int)=true) :
  Cd P n c l H { dst:=d,op:=.index t x y,type:=ty,pos:=pos,after:=af,guard:=g } (rI .u8 (C0 p i)):=λa w Z ha _=>Ev<|by
 have h0:=(Da hg).1;have hl:i.toNat<p.length:=by have:=(Da hg).2;omega
 have hc:p[i.toNat]? =some p[i.toNat]:=Apw hl;have e:C0 p i=p[i.toNat].toNat:=by simp[C0,hc]
 simp[execOp,ha.eval h,ha.eval hi,Instr.index,asIntOf,run_underlying ht,h0,Ant,hc,e]
theorem Gy {i:Int}(ht:P.underlying t=some .string)(h:ev l x=some (rS p))(hi:ev l y=some (rI k i))(hg:IG i (p.length:Int)=true) :
  Cd P n c l H { dst:=d,op:=.slice t x (some y) none none,type:=ty,pos:=pos,after:=af,guard:=g } (rv (.string (B (p.drop i.toNat)))):=λa w Z ha _=>Ev<|by
 have h0:=(Gg hg).1;have h1:=(Gg hg).2;have e:List.take ((B p).size-i.toNat) (List.drop i.toNat p)=List.drop i.toNat p:=by rw[List.take_of_length_le];simp[Ie]
 simp[execOp,ha.eval h,ha.eval hi,Instr.sliceAt,Instr.slice,run_underlying ht,Instr.sliceBounds,Ds (m:=(B p).size) _ _ h0 (by rw[Ie];exact h1),SB,e]
theorem HZ {i:Int}(ht:P.underlying t=some .string)(h:ev l x=some (rS p))(hi:ev l y=some (rI k i))(hg:IG i (p.length:Int)=true) :
  Cd P n c l H { dst:=d,op:=.slice t x none (some y) none,type:=ty,pos:=pos,after:=af,guard:=g } (rv (.string (B (p.take i.toNat)))):=λa w Z ha _=>Ev<|by
 have h0:=(Gg hg).1;have h1:=(Gg hg).2;simp[execOp,ha.eval h,ha.eval hi,Instr.sliceAt,Instr.slice,run_underlying ht,Instr.sliceBounds,Ds (m:=(B p).size) _ _ h0 (by rw[Ie];exact h1),SB]
theorem HY {k':IntKind}{i j:Int}(ht:P.underlying t=some .string)(h:ev l x=some (rS p))(hi:ev l y=some (rI k i))(hj:ev l z3=some (rI k' j))(hg1:IG i j=true)(hg2:IG j (p.length:Int)=true) :
  Cd P n c l H { dst:=d,op:=.slice t x (some y) (some z3) none,type:=ty,pos:=pos,after:=af,guard:=g } (rv (.string (B ((p.drop i.toNat).take (j.toNat-i.toNat))))):=λa w Z ha _=>Ev<|by
 have h0:=(Gg hg1).1;have h1:=(Gg hg1).2;have h2:=(Gg hg2).2;have hj0:0≤j:=by omega
 simp[execOp,ha.eval h,ha.eval hi,ha.eval hj,Instr.sliceAt,Instr.slice,run_underlying ht,Instr.sliceBounds,Ds (m:=(B p).size) _ _ hj0 (by rw[Ie];exact h2),Ds (m:=j.toNat) _ _ h0 (by omega),SB]
theorem Ajv {sz:Nat}{xs:List (List Rp)}{e:TypeId}(ht:P.underlying t=some (.slice e))(h:ev l x=some (B4 sz xs)):Cd P n c l H { dst:=d,op:=.call { callee:=.builtin .len,args:=#[x],argTypes:=#[t] },type:=ty,pos:=pos,after:=af,guard:=g } (rI .i64 xs.length):=λa w Z ha _=>by
 obtain⟨A,cap,e1,_⟩:=ha.ev h;exact Ev<|by simp[execOp,resolve,invoke,builtin,e1,Builtin.len_,run_underlying ht,goInt]
end
end Go.Proofs.YtphnhpcjnmmhiaaGreatDoor.Q
namespace Go.Proofs.YtphnhpcjnmmhiaaGreatDoor
open Go Go.RowKit
set_option linter.unusedVariables false
theorem AkH (p:List UInt8)(i:Nat)(u:UInt8)(h:p[i]? =some u):(B p).get! i=u:=by
 have h':i<p.length:=(List.getElem?_eq_some_iff.1 h).1;have h2:p[i]=u:=(List.getElem?_eq_some_iff.1 h).2;subst h2;show(B p).data[i]! =_;simp[B,getElem!_pos,h']
theorem Xf (p:List UInt8)(i:Nat)(u:UInt8)(h:p[i]? =some u)(hu:u.toNat<128):Utf8.decode (B p) i=(u.toNat,1):=by
 have e:=AkH p i u h;simp[Utf8.decode,e,hu]
theorem Xg (p:List UInt8)(i:Nat)(u:UInt8)(h:p[i]? =some u)(hu:128≤u.toNat):128≤(Utf8.decode (B p) i).1∧1≤(Utf8.decode (B p) i).2:=by
 have e:=AkH p i u h;simp only[Utf8.decode,Nat.add_zero,e];rw[ApP (by omega)]
 split
 ·split
  ·exact⟨by assumption,by simp⟩
  ·exact⟨by decide,by decide⟩
 ·split
  ·split
   ·rename_i h1;simp at h1;exact⟨by have:=h1.1;simp only;omega,by simp⟩
   ·exact⟨by decide,by decide⟩
  ·split
   ·split
    ·rename_i h1;simp at h1;exact⟨by have:=h1.1;simp only;omega,by simp⟩
    ·exact⟨by decide,by decide⟩
   ·exact⟨by decide,by decide⟩
variable{w:World}
section
variable {P : Program} {n : Nat} {w0 : World} {M : List Nat} {ops : Array Oper} {Q : Exit → Act → World → Prop} {rest : List Oper} {l : Fr} {H H' : List Ent} {d : Nat} {x y c : Operand} {ty t t' e : TypeId} {pos : String} {af : Array Edge} {g : Option (Nat × Bool)} {v u : Value}
theorem Wk {p:List UInt8}(hu:P.underlying t=some .string)(hx:ev l x=some (.string (B p)))(hn:Nat.blt d n=true)
  (h:∀b,WL P n w0 M ops Q rest ((d,.pointer (some ⟨b,0,none⟩))::l) (.blk b (.stringIter (B p) 0)::H)) :
  WL P n w0 M ops Q ({ dst:=some d,op:=.range t x,type:=ty,pos:=pos,after:=af,guard:=none }::rest) l H:=
 Pd (λa w ha hw=>⟨_,w.alloc (.stringIter (B p) 0),_,by simp[execOp,ha.eval hx,Instr.range,run_underlying hu],hw.alloc _,h w.heap.size⟩) hn
theorem St.setObj (h:St w0 M H w){i b:Nat}{o o':Obj}(hi:H[i]? =some (.blk b o)):St w0 M (H.set i (.blk b o')) { w with heap:=w.heap.setIfInBounds b o' }:=by
 have hb:w.heap[b]? =some o:=h.ent hi;have hlt:b<w.heap.size:=(Array.getElem?_eq_some_iff.1 hb).1;refine h.set hi rfl rfl rfl (by simp) (λk _ hk=>?_) ?_ (by simp[Ent.foot])
 ·simp only[Ent.foot,ApF] at hk;simp only[Array.getElem?_setIfInBounds];rw[ApP (λe=>hk e.symm)]
 ·show(w.heap.setIfInBounds b o')[b]? =some o';simp[hlt]
theorem YT {p:List UInt8}{i b k:Nat}(hx:ev l x=some (.pointer (some ⟨b,0,none⟩)))(hi:H[i]? =some (.blk b (.stringIter (B p) k)))(hn:Nat.blt d n=true)
  (hend:p.length≤k→WL P n w0 M ops Q rest ((d,.tuple #[.bool false])::l) H)
  (hgo:∀(u:UInt8) (c wd:Nat),p[k]? =some u→(u.toNat<128→c=u.toNat∧wd=1)→(128≤u.toNat→128≤c)→1≤wd→
   WL P n w0 M ops Q rest ((d,.tuple #[.bool true,.int .i64 k,.int .i32 c])::l) (H.set i (.blk b (.stringIter (B p) (k+wd))))) :
  WL P n w0 M ops Q ({ dst:=some d,op:=.next x true,type:=ty,pos:=pos,after:=af,guard:=none }::rest) l H:=
 Pd (λa w ha hw=>by
  have hb:w.heap[b]? =some (.stringIter (B p) k):=hw.ent hi
  by_cases hlt:k<p.length
  ·have hu:p[k]? =some p[k]:=Apw hlt;have hs:k<(B p).size:=by rw[Ie];exact hlt
   refine⟨_,{ w with heap:=w.heap.setIfInBounds b (.stringIter (B p) (k+(Utf8.decode (B p) k).2)) },_,?_,hw.setObj hi,hgo p[k] (Utf8.decode (B p) k).1 (Utf8.decode (B p) k).2 hu ?_ ?_ ?_⟩
   ·simp[execOp,ha.eval hx,Instr.next,getObj,setObj,Sem.run,hb,hs,goInt]
   ·intro h;rw[Xf p k _ hu h];exact⟨rfl,rfl⟩
   ·intro h;exact(Xg p k _ hu h).1
   ·rcases Nat.lt_or_ge (p[k]).toNat 128 with h | h
    ·rw[Xf p k _ hu h];exact Ap8 1
    ·exact(Xg p k _ hu h).2
  ·have hs : ¬ k<(B p).size:=by rw[Ie];exact hlt
   exact⟨_,w,H,by simp[execOp,ha.eval hx,Instr.next,getObj,Sem.run,hb,hs],hw,hend (by omega)⟩) hn
end
variable{d:Option Nat}{ms:Array (String×TypeId)}
section
variable {P : Program} {n : Nat} {w0 : World} {M : List Nat} {ops : Array Oper} {Q : Exit → Act → World → Prop} {rest : List Oper} {l : Fr} {H H' : List Ent} {x y c : Operand} {ty t t' e : TypeId} {pos : String} {af : Array Edge} {g : Option (Nat × Bool)} {v u : Value}
theorem Am4 {f:FuncId}{args:List Operand}{ats:Array TypeId}{vs:List Value}(hv:Ph l args=some vs)(hcall:∀w,(callFunc f vs.toArray).run P w = .ok (.value v) w) :
  Cd P n w0 M l H { dst:=d,op:=.call { callee:=.value (.func f),args:=args.toArray,argTypes:=ats },type:=ty,pos:=pos,after:=af,guard:=g } v:=λa w ha hw=>by
 have e:(args.toArray.map a.eval)=vs.toArray:=by simp[Rr ha hv]
 simp only[execOp,resolve,Sem.run_bind,Sem.run_pure,Result.andThen_ok,e,Act.eval,Deferred.ofValue,invoke];simpa using hcall w
theorem Wa {f : FuncId} {fn : Func} (hf : P.funcs[f]? = some fn) (hname : (fn.name == "runtime.NumGoroutine") = false) (hb : fn.body.isNone = true) (hn : Extern.findNext fn = none) (he : Extern.find fn = some Extern.BytealgIndexByte.indexByte)
  (p:List UInt8) (m:Int) (w:World):(callFunc f [.string (B p),.int .u8 m].toArray).run P w = .ok (.value (.int .i64 (Lib.indexByte p m.toNat.toUInt8))) w:=by
 rw[run_callFunc_extern hf hname hb hn he,Lib.run_indexByteString];rfl
theorem Ajx {ti:TypeId}{u:Value}(ht:P.underlying t=some (.interface ms))(hx:ev l x=some (.iface ti u)) :
  Cd P n w0 M l H { dst:=d,op:=.binOp .neq t x (.const .nilIface) t',type:=ty,pos:=pos,after:=af,guard:=g } (.bool true):=λa w ha hw=>by
 have h1:∀dd:Nat,(Op.equalIn (dd+1) t (.iface ti u) .nilIface).run P w = .ok false w:=λdd=>by simp[Op.equalIn,run_underlying ht]
 have h2:(Op.equal t (.iface ti u) .nilIface).run P w = .ok false w:=h1 9999;have h3:(eqGuard .neq t x (.const .nilIface) (.iface ti u) .nilIface).run P w = .ok () w:=by simp[eqGuard]
 have hy:a.eval (.const .nilIface) = .nilIface:=rfl;simp only[execOp,ha.eval hx,hy,Sem.run_bind,h3,Result.andThen_ok,binOp,h2,Sem.run_pure];rfl
theorem ZJ (ht:P.underlying t=some (.interface ms))(hx:ev l x=some .nilIface) :
  Cd P n w0 M l H { dst:=d,op:=.binOp .neq t x (.const .nilIface) t',type:=ty,pos:=pos,after:=af,guard:=g } (.bool false):=λa w ha hw=>by
 have h1:∀dd:Nat,(Op.equalIn (dd+1) t .nilIface .nilIface).run P w = .ok true w:=λdd=>by simp[Op.equalIn,run_underlying ht]
 have h2:(Op.equal t .nilIface .nilIface).run P w = .ok true w:=h1 9999;have h3:(eqGuard .neq t x (.const .nilIface) .nilIface .nilIface).run P w = .ok () w:=by simp[eqGuard]
 have hy:a.eval (.const .nilIface) = .nilIface:=rfl;simp only[execOp,ha.eval hx,hy,Sem.run_bind,h3,Result.andThen_ok,binOp,h2,Sem.run_pure];rfl
variable (P n w0 M) in
def WQ (opsA:Array Oper)(K:Act→World→Prop)(rest:List Oper)(l:Fr)(H:List Ent):Prop:=∀a,EB n l a→wpQuiet P opsA (St w0 M H) (λa'=>∀w',St w0 M H w'→K a' w') rest a
variable {K : Act → World → Prop}
end
def SlR (sz:Nat)(w:World)(v:Value)(vs:List (List Value)):Prop:=
 ∃A cap,v = .slice A vs.length cap∧vs.length≤cap∧(cap≤maxLen∧(A=none→cap=0))∧∀i c,vs[i]? =some c→c.length=sz∧∃a:Addr,A=some a∧a.spot=none∧a.block<w.heap.size∧∀j u,c[j]? =some u→w.cell? ⟨a.block,a.off+(i*sz+j),none⟩=some u
def Off (M:List Nat)(v:Value):Prop:=∀a n c,v = .slice (some a) n c→a.block ∉ M
theorem Off.nil (v:Value):Off [] v:=λ_ _ _ _=>by simp
theorem SlR.nil (sz:Nat)(w:World):SlR sz w (.slice none 0 0) []:=⟨none,0,rfl,Ap8 _,⟨by simp[maxLen],λ_=>rfl⟩,λi c h=>by simp at h⟩
variable{vs:List (List Value)}
theorem SlR.st {sz:Nat}{w0:World}{M:List Nat}{H:List Ent}{v:Value}(h:SlR sz w0 v vs)(ho:Off M v)(hw:St w0 M H w):SlR sz w v vs:=by
 obtain⟨A,cap,rfl,hc,hm,hi⟩:=h;refine⟨A,cap,rfl,hc,hm,λi c hic=>?_⟩;obtain⟨hl,a,rfl,hs,hb,hcell⟩:=hi i c hic;refine⟨hl,a,rfl,hs,Nat.lt_of_lt_of_le hb hw.size,λj u hj=>?_⟩;have h1:w.cell? ⟨a.block,a.off+(i*sz+j),none⟩=w0.cell? ⟨a.block,a.off+(i*sz+j),none⟩:=World.cell?_of_block (hw.old a.block hb (ho a _ _ rfl));rw[h1];exact hcell j u hj
theorem SlR.st0 {sz:Nat}{w0:World}{H:List Ent}{v:Value}(h:SlR sz w0 v vs)(hw:St w0 [] H w):SlR sz w v vs:=h.st (Off.nil _) hw
def flat (vs:List (List Value)):List Value:=vs.flatten
theorem Ad2 {sz:Nat}:∀{vs:List (List Value)} (hs:∀c∈vs,c.length=sz) {i:Nat} {c:List Value} (hi:vs[i]? =some c) {j:Nat} {u:Value} (hj:c[j]? =some u),(flat vs)[i*sz+j]? =some u
 | [],hs,i,c,hi,j,u,hj=>by simp at hi
 | x::r,hs,0,c,hi,j,u,hj=>by
  simp at hi;subst hi;simp only[flat,List.flatten_cons,Nat.zero_mul,ApQ];rw[Aqf (by have:=(List.getElem?_eq_some_iff.1 hj).1;exact this)];exact hj
 | x::r,hs,i+1,c,hi,j,u,hj=>by
  have hx:x.length=sz:=hs x (by simp);simp only[flat,List.flatten_cons];rw[List.getElem?_append_right (by rw[hx,Nat.succ_mul];omega)];have e:(i+1)*sz+j-x.length=i*sz+j:=by rw[hx,Nat.succ_mul];omega
  rw[e];exact Ad2 (vs:=r) (λc hc=>hs c (by simp[hc])) (by simpa using hi) hj
theorem SlR.of_row {sz:Nat}{v:Value}{e:TypeId}(h:(Ent.row v e sz vs.length (flat vs)).holds w)(hs:∀c∈vs,c.length=sz):SlR sz w v vs:=by
 obtain⟨hl,h2⟩:=h;rcases h2 with⟨rfl,hn⟩ | ⟨g,cap,cur,rfl,_,hg,hc,hm,hsz,htake⟩
 ·have:vs=[]:=ApK hn;subst this;exact SlR.nil _ _
 ·refine⟨some ⟨g,0,none⟩,cap,rfl,hc,⟨hm,λh=>by cases h⟩,λi c hi=>⟨hs c (Ap4 hi),⟨g,0,none⟩,rfl,rfl,(Array.getElem?_eq_some_iff.1 hg).1,λj u hj=>?_⟩⟩;have h3:=Ad2 hs hi hj;rw[← htake,ApS] at h3
  split at h3
  ·show w.cell? ⟨g,0+(i*sz+j),none⟩=_;rw[cell_of_row w g _ cur e (0,0) hg,ApQ];simpa using h3
  ·cases h3
def Nr (sz:Nat)(v:Value)(i off:Nat):Value:=match v with
 | .slice (some a) _ _=>.pointer (some ⟨a.block,a.off+(i*sz+off),none⟩)
 | _=>undef
section
variable {P : Program} {n : Nat} {w0 : World} {M : List Nat} {ops : Array Oper} {Q : Exit → Act → World → Prop} {rest : List Oper} {l : Fr} {H H' : List Ent} {d : Option Nat} {x y c : Operand} {ty t t' e : TypeId} {pos : String} {af : Array Edge} {g : Option (Nat × Bool)} {v u : Value} {sz : Nat} {vs : List (List Value)}
theorem Ac6 {d i:Nat}{en:Ent}{f:FuncId}{args:List Operand}{ats:Array TypeId}{vs:List Value}{Φ:Value→List Ent→Prop}(hcall:∀(as1:Array Value) (w:World),(callFunc f as1).run P w = .ok (.enter f as1) w)(hv:Ph l args=some vs)
  (hi:H[i]? =some en) (hc:∀w,St w0 M H w→en.holds w→Calls P f vs.toArray w (Ret w en.foot Φ)) (hn:Nat.blt d n=true) (h:∀u Ho,Φ u Ho→WL P n w0 M ops Q rest ((d,u)::l) (Ho++H.eraseIdx i)) :
  WL P n w0 M ops Q ({ dst:=some d,op:=.call { callee:=.value (.func f),args:=args.toArray,argTypes:=ats },type:=ty,pos:=pos,after:=af,guard:=none }::rest) l H:=
 Oq (λa w ha hw=>Ha (vs:=vs) rfl hcall (by simp[Rr ha hv]) w) (λw hw=>(hc w hw (hw.ent hi)).mono λe w' ⟨v,Ho,he,hs,hf⟩=>
  ⟨v,Ho++H.eraseIdx i,he,(St.call (Hin:=[en]) (Hr:=H.eraseIdx i) (hw.front hi) hs (λk hk=>⟨en,by simp,hk⟩)),h v Ho hf⟩) hn
end
def Ze (s:List UInt8):List Value:=[.string (B s)]
abbrev V4 (w:World)(v:Value)(ss:List (List UInt8)):Prop:=SlR 1 w v (ss.map Ze)
def V7 (ss:List (List UInt8))(i:Int):List UInt8:=(ss[i.toNat]?).getD []
set_option linter.unusedSimpArgs false
section
variable {P : Program} {n : Nat} {w0 : World} {M : List Nat} {ops : Array Oper} {Q : Exit → Act → World → Prop} {rest : List Oper} {l : Fr} {H H' : List Ent} {x y : Operand} {ty t t' e : TypeId} {pos : String} {af : Array Edge} {g : Option (Nat × Bool)} {v u : Value} {i sz m : Nat} {xs : List Value}
theorem W0 (h:(Ent.row v e sz m xs).holds w):xs.length=m*sz∧((v = .slice none 0 0∧m=0)∨∃b cap cur,v = .slice (some ⟨b,0,none⟩) m cap∧w.heap[b]? =some (.cells cur e (0,0))∧m≤cap∧cap≤maxLen∧cur.size=cap*sz∧cur.toList.take (m*sz)=xs):=by
 obtain⟨h1,h2⟩:=h;refine⟨h1,?_⟩;rcases h2 with h2 | ⟨b,cap,cur,e1,_,e2,e3,e4,e5,e6⟩
 ·exact .inl h2
 ·exact .inr ⟨b,cap,cur,e1,e2,e3,e4,e5,e6⟩
theorem AgB {b c j:Nat}(h:(Ent.row (.slice (some ⟨b,0,none⟩) m c) e sz m xs).holds w)(hj:xs[j]? =some u):w.cell? ⟨b,j,none⟩=some u:=by
 obtain⟨h1,h2⟩:=W0 h;rcases h2 with⟨h2,_⟩ | ⟨b',cap,cur,e1,e2,_,_,_,e6⟩
 ·cases h2
 ·simp only[Value.slice.injEq,Option.some.injEq,Addr.mk.injEq,and_true,true_and] at e1;obtain⟨rfl,rfl⟩:=e1;rw[cell_of_row w b j cur e (0,0) e2];rw[← e6,ApS] at hj
  split at hj
  ·simpa using hj
  ·cases hj
def Rds (sz:Nat)(w:World)(v:Value)(m:Nat)(ys:List Value):Prop:=
 ys.length=m*sz∧((v = .slice none 0 0∧m=0)∨∃ (a:Addr) (c:Nat),v = .slice (some a) m c∧∀j u,ys[j]? =some u→w.cell? (a.add j)=some u)
theorem Rds.of_row (h:(Ent.row v e sz m xs).holds w):Rds sz w v m xs:=by
 obtain⟨h1,h2⟩:=W0 h;refine⟨h1,?_⟩;rcases h2 with⟨rfl,rfl⟩ | ⟨b,cap,cur,rfl,_⟩
 ·exact .inl ⟨rfl,rfl⟩
 ·refine .inr ⟨_,_,rfl,λj u hj=>?_⟩;rw[Pi,ApQ];exact AgB h hj
theorem Pv {z:Value}{inf:TypeInfo}{bytes:Nat}{ys:List Value}{k:Nat}(ty:TypeId)(ht:P.underlying t=some (.slice e))(hinf:P.info? e=some inf)(hz:inf.zero=some z)(hsize:inf.size=sz)(hby:inf.bytes=bytes)(hzs:z.cells.size=sz)(hsz:0<sz)
  (hown:w.ownsRow 0 e sz v m xs) (hr:Rds sz w u k ys) (h1:∀y∈ys,y.oneCell'=true) (hb:(m+k)*bytes≤140737488355328) (hd:m+k≤maxLen) :
  ∃v' w',(Builtin.append_ #[t,t] ty #[v,u]).run P w = .ok v' w'∧w'.ownsRow 0 e sz v' (m+k) (xs++ys)∧w.grownBy w' v.ownBlock∧(v'.ownBlock=v.ownBlock∨∀b,v'.ownBlock=some b→w.heap.size≤b):=by
 obtain⟨hl,hr⟩:=hr;rcases hr with⟨rfl,rfl⟩ | ⟨a,c,rfl,hnews⟩
 ·have:ys=[]:=ApK (by simpa using hl);subst this;exact⟨v,w,run_append_owned_none (w:=w) (base:=0) t ty e inf sz ht hinf v m xs hown,by simpa using hown,⟨rfl,rfl,rfl,Ap8 _,λ_ _ _=>rfl⟩,.inl rfl⟩
 ·rcases hown.2 with⟨rfl,rfl⟩ | ⟨b,cap,cur,rfl,_,hg,hnc,hcm,hcs,htake⟩
  ·have hx:xs=[]:=ApK (by simpa using hown.1);subst hx;obtain⟨v',w',e1,e2,e3,_⟩:=run_append_own (P:=P) w w.heap.size t ty e inf z sz bytes ht hinf hz hsize hby hzs hsz (.slice none 0 0) 0 [] (World.ownsRow_nil w _ e sz) a k c ys hl hnews h1 hd hb (Ap8 _);refine⟨v',w',e1,?_,e3,.inr λb hb=>(e2.lt b hb).1⟩;refine⟨e2.1,?_⟩;rcases e2.2 with h | ⟨g,cap,cur,h,_,rest⟩
   ·exact .inl h
   ·exact .inr ⟨g,cap,cur,h,ApY _,rest⟩
  ·by_cases hroom:m+k≤cap
   ·obtain⟨w',e1,e2,e3⟩:=run_append_fits (P:=P) w 0 t ty e inf sz ht hinf hsize b m cap xs hown a k c ys hl hnews h1 hroom;exact⟨_,w',e1,e2,e3,.inl rfl⟩
   ·subst hsize hby;have holds:∀j u,xs[j]? =some u→w.cell? ((⟨b,0,none⟩:Addr).add j)=some u:=hown.cells (g:=b) rfl;have hs:m+k≤9223372036854775807:=by simp only[maxLen] at hd;omega
    have e1:=run_append_grow (P:=P) w t ty e inf z ht hinf hz ⟨b,0,none⟩ m cap xs hown.1 holds a k c ys hl hnews (by omega) (by omega) (growslice_fits (by omega) hb);have hge:=grownCap_ge w (m+k) cap e;have hcm:=grownCap_le_maxLen w (m+k) cap e hd;have hlen:(xs++ys).length=(m+k)*inf.size:=by rw[Apz,hown.1,hl,Nat.add_mul]
    refine⟨_,_,e1,⟨hlen,.inr ⟨w.heap.size,_,_,rfl,ApY _,heap_alloc_new w.drew _,hge,hcm,?_,?_⟩⟩,⟨rfl,rfl,rfl,by simp,λq hq _=>Below.heap_alloc w.drew _ q hq⟩,.inr λb hb=>?_⟩
    ·simp only[Array.size_append,List.size_toArray,size_zeroCells,hzs,hown.1,hl,← Nat.add_mul]
     congr 1
     omega
    ·simp only[Array.toList_append,ApR];rw[← ApR,← hlen];exact List.take_left
    ·simp[Value.ownBlock] at hb;omega
end
end Go.Proofs.YtphnhpcjnmmhiaaGreatDoor
namespace Go.Proofs.YtphnhpcjnmmhiaaGreatDoor.Q
open Go Go.RowKit
set_option linter.unusedVariables false
set_option linter.unusedSimpArgs false
def AtZ (cs:List Rp)(Z:Fz)(v:Value):Prop:=∃b o,v = .pointer (some ⟨b,o,none⟩)∧∀j r,cs[j]? =some r→∃u,LB Z b (o+j)=some u∧r.p Z u
def JV (cs:List Rp):Rp:=⟨AtZ cs,λh ⟨b,o,e,hc⟩=>⟨b,o,e,λj r hj=>let ⟨u,hu,hr⟩:=hc j r hj;⟨u,TR h hu,r.mono h hr⟩⟩,true,λ_ Z v ⟨b,o,e,_⟩=>by rw[e];rfl⟩
def Wh (H:List Ent)(r:Rp):Prop:=∀(c:Cx) Z w v,St c H Z w→r.p Z v→v.oneCell'=true
variable{H:List Ent}{r:Rp}
theorem Cl (h:r.one=true):Wh H r:=λ_ Z _ v _ hp=>r.hone h Z v hp
variable{xs:List (List Rp)}
theorem DA (i:Nat){v:Value}{e:TypeId}{sz:Nat}(hi:H[i]? =some (.row v e sz xs)):Wh H (rv v):=λc Z w u hw hp=>by
 obtain⟨_,us,⟨_,h2⟩,_⟩:=hw.ent hi;rw[show u=v from hp];rcases h2 with⟨rfl,_⟩ | ⟨b,cap,cur,rfl,_⟩<;>rfl
def Bn (H:List Ent):List Rp→Prop
 | []=>True
 | r::rs=>Wh H r∧Bn H rs
theorem Bn.c {H:List Ent}:∀{rs:List Rp},rs.all (·.one)=true→Bn H rs
 | [],_=>trivial
 | r::rs,h=>by simp only[List.all_cons,Aps] at h;exact⟨Cl h.1,Bn.c h.2⟩
theorem Bn.at {H:List Ent}{c:Cx}{Z:Fz}{w:World}(hw:St c H Z w):∀{rs:List Rp} {vs:List Value},Bn H rs→B9 Z rs vs→∀v∈vs,v.oneCell'=true
 | [],[],_,_,_,h=>by simp at h
 | r::rs,v::vs,⟨h1,h2⟩,⟨h3,h4⟩,u,h=>by
  rcases List.mem_cons.1 h with rfl | h
  ·exact h1 c Z w _ hw h3
  ·exact h2.at hw h4 u h
variable{α:Type}{off:Nat}{k:IntKind}{b:Nat}{enc:α→List Rp}{rs:List Rp}{fs:Array Field}{cs:List Rp}{i:Nat}{cs':List Rp}{ys:List α}{e':TypeId}{j:Nat}
section
variable {P : Program} {n : Nat} {c : Cx} {ops : Array Oper} {Q : Exit → Act → World → Prop} {rest : List Oper} {l : Fr} {H H' : List Ent} {d : Nat} {d' : Option Nat} {x y : Operand} {ty t t' e : TypeId} {pos : String} {af : Array Edge} {g : Option (Nat × Bool)} {v u : Value} {r : Rp} {sz : Nat}
theorem B9.rvs (Z:Fz):∀us:List Value,B9 Z (us.map rv) us
 | []=>trivial
 | u::us=>⟨rfl,B9.rvs Z us⟩
theorem BY {z:Value}(hz:∀w,(zeroValue e).run P w = .ok z w)(hcs:z.cells.toList.map rv=cs)(hn:Nat.blt d n=true)
  (h:∀b,WL P n c ops Q rest ((d,rv (.pointer (some ⟨b,0,none⟩)))::l) (.blk b cs e::H)) :
  WL P n c ops Q ({ dst:=some d,op:=.alloc e,type:=ty,pos:=pos,after:=af,guard:=none }::rest) l H:=
 Pd (λa w Z ha hw=>⟨_,w.alloc (.cells z.cells e),_,_,Z,by simp[execOp,Instr.alloc,hz,newVar,newRow,newObj,Sem.run,Sem.run_bind],Fz.le.refl _,rfl,
  hw.alloc _ (e:=.blk w.heap.size cs e) ⟨z.cells.toList,by simpa using heap_alloc_new w _,by subst hcs;exact B9.rvs Z _⟩ rfl,h w.heap.size⟩) hn
theorem Cb (hx:ev l x=some (Cz cs))(hn:Nat.blt d n=true)
  (h:∀b,WL P n c ops Q rest ((d,rv (.pointer (some ⟨b,0,none⟩)))::l) (.blk b cs e::H)) :
  WL P n c ops Q ({ dst:=some d,op:=.box e x,type:=ty,pos:=pos,after:=af,guard:=none }::rest) l H:=
 Pd (λa w Z ha hw=>by
  obtain⟨us,e1,hu⟩:=ha.ev hx;exact⟨_,w.alloc (.cells us.toArray e),_,_,Z,by simp[execOp,e1,Instr.box,newVar,newRow,newObj,Sem.run,Value.cells],Fz.le.refl _,rfl,
   hw.alloc _ (e:=.blk w.heap.size cs e) ⟨us,by simpa using heap_alloc_new w _,hu⟩ rfl,h w.heap.size⟩) hn
theorem K6 {v:Value}(h:v.oneCell'=true):v.cells = #[v]:=by cases v<;>first | rfl | simp[Value.oneCell'] at h
theorem Wl {r:Rp}(hx:ev l x=some r)(ho:Wh H r)(hn:Nat.blt d n=true)
  (h:∀b,WL P n c ops Q rest ((d,rv (.pointer (some ⟨b,0,none⟩)))::l) (.blk b [r] e::H)) :
  WL P n c ops Q ({ dst:=some d,op:=.box e x,type:=ty,pos:=pos,after:=af,guard:=none }::rest) l H:=
 Pd (λa w Z ha hw=>by
  have hr:=ha.ev hx;have hc:=K6 (ho c Z w _ hw hr);exact⟨_,w.alloc (.cells #[a.eval x] e),_,_,Z,by simp[execOp,Instr.box,newVar,newRow,newObj,Sem.run,hc],Fz.le.refl _,rfl,
   hw.alloc _ (e:=.blk w.heap.size [r] e) ⟨[a.eval x],by simpa using heap_alloc_new w _,hr,trivial⟩ rfl,h w.heap.size⟩) hn
theorem AY (i:Nat)(hag:∀w,(isAgg t).run P w = .ok false w)(hx:ev l x=some (rv (.pointer (some ⟨b,off,none⟩))))(hi:H[i]? =some (.blk b cs e))(hc:cs[off]? =some r) :
  Cd P n c l H { dst:=d',op:=.load t x,type:=ty,pos:=pos,after:=af,guard:=g } r:=λa w Z ha hw=>by
 obtain⟨us,h1,h2⟩:=hw.ent hi;obtain⟨u,hu,hp⟩:=h2.at hc;have hcell:w.cell? ⟨b,off,none⟩=some u:=by rw[cell_of_row w b off _ e (0,0) h1];simpa using hu
 exact⟨u,hp,by simp[execOp,ha.eval hx,Instr.loadAt,Instr.sureAddr,loadVar,hag,hcell]⟩
theorem BP (i:Nat){r:List Rp}(hag:∀w,(isAgg t).run P w = .ok true w)(hsz:∀w,(sizeOf t).run P w = .ok sz w)
  (hx:ev l x=some (rv (.pointer (some ⟨b,off,none⟩)))) (hi:H[i]? =some (.blk b cs e)) (hr:(cs.drop off).take sz=r) (hl:r.length=sz) :
  Cd P n c l H { dst:=d',op:=.load t x,type:=ty,pos:=pos,after:=af,guard:=g } (Cz r):=λa w Z ha hw=>by
 obtain⟨us,h1,h2⟩:=hw.ent hi;have h3:=(h2.drop off).take sz;rw[hr] at h3;have hlen:=h3.length;have h4:=run_loadCells_list (P:=P) w ⟨b,off,none⟩ ((us.drop off).take sz) (λj u hj=>by
  rw[Pi,cell_of_row w b _ _ e (0,0) h1];rw[ApS] at hj
  split at hj
  ·simpa using hj
  ·cases hj)
 rw[hlen,hl] at h4;exact⟨.agg ((us.drop off).take sz).toArray,⟨_,rfl,h3⟩,by simp[execOp,ha.eval hx,Instr.loadAt,Instr.sureAddr,loadVar,hag,hsz,h4]⟩
theorem BZ (hag:∀w,(isAgg t).run P w = .ok false w)(hx:ev l x=some (JV cs))(hc:cs[0]? =some r) :
  Cd P n c l H { dst:=d',op:=.load t x,type:=ty,pos:=pos,after:=af,guard:=g } r:=λa w Z ha hw=>by
 obtain⟨b,o,e1,hcs⟩:=ha.ev hx;obtain⟨u,hu,hp⟩:=hcs 0 r hc;have hcell:=PE hw.frz hu;rw[Nat.add_zero] at hcell;exact⟨u,hp,by simp[execOp,e1,Instr.loadAt,Instr.sureAddr,loadVar,hag,hcell]⟩
theorem S8 {Z:Fz}:∀{cs:List Rp} {f:Nat→Option Value},(∀j r,cs[j]? =some r→∃u,f j=some u∧r.p Z u)→∃us:List Value,B9 Z cs us∧∀(j:Nat) u,us[j]? =some u→f j=some u
 | [],f,_=>⟨[],trivial,by simp⟩
 | r::rs,f,h=>by
  obtain⟨u,hu,hp⟩:=h 0 r rfl;obtain⟨us,h1,h2⟩:=S8 (cs:=rs) (f:=λj=>f (j+1)) (λj r' hj=>h (j+1) r' (by simpa using hj));refine⟨u::us,⟨hp,h1⟩,λj u' hj=>?_⟩
  cases j with
  | zero=>simp at hj;subst hj;exact hu
  | succ j=>exact h2 j u' (by simpa using hj)
theorem AeQ {r:List Rp}(hag:∀w,(isAgg t).run P w = .ok true w)(hsz:∀w,(sizeOf t).run P w = .ok sz w)(hx:ev l x=some (JV cs))(hr:cs.take sz=r)(hl:r.length=sz) :
  Cd P n c l H { dst:=d',op:=.load t x,type:=ty,pos:=pos,after:=af,guard:=g } (Cz r):=λa w Z ha hw=>by
 obtain⟨b,o,e1,hcs⟩:=ha.ev hx;obtain⟨us,h1,h2⟩:=S8 (cs:=r) (f:=λj=>LB Z b (o+j)) (λj q hj=>hcs j q (by
  subst hr;rw[ApS] at hj
  split at hj
  ·exact hj
  ·cases hj))
 have h4:=run_loadCells_list (P:=P) w ⟨b,o,none⟩ us (λj u hj=>by rw[Pi];exact PE hw.frz (h2 j u hj));rw[h1.length,hl] at h4;exact⟨.agg us.toArray,⟨_,rfl,h1⟩,by simp[execOp,e1,Instr.loadAt,Instr.sureAddr,loadVar,hag,hsz,h4]⟩
theorem Ac8 (hag:∀w,(sizeOf t).run P w = .ok 1 w)(hx:ev l x=some (rv (.pointer (some ⟨b,off,none⟩))))(hy:ev l y=some r)(hv:Wh H r)
  (hi:H[i]? =some (.blk b cs e)) (hlt:Nat.blt off cs.length=true) {cs':List Rp} (hcs:cs.set off r=cs') (hH:H.set i (.blk b cs' e)=H')
  (h:WL P n c ops Q rest l H'):WL P n c ops Q ({ dst:=none,op:=.store t x y,type:=ty,pos:=pos,after:=af,guard:=none }::rest) l H:=
 AiF λa w Z ha hw=>by
  obtain⟨us,hb,h2⟩:=hw.ent hi;have hr:=ha.ev hy;have hone:=hv c Z w _ hw hr;have hlen:=h2.length;have hlt':off<us.length:=by rw[hlen];simpa using hlt
  have h1:=run_storeCells_at P b off e [a.eval y] 0 us.toArray w hb (by simp;omega) (by simpa using hone);have hcv:=K6 hone;have h3:us.take off++[a.eval y]++us.drop (off+1)=us.set off (a.eval y):=by
   simp[List.set_eq_take_append_cons_drop,hlt']
  simp only[Nat.add_zero,Ap2,Aqh,ApQ] at h1;rw[h3] at h1;refine⟨w.setRow b (us.set off (a.eval y)).toArray,H',?_,?_,h⟩
  ·simp[execOp,ha.eval hx,Instr.storeAt,Instr.sureAddr,storeVar,hag,hcv,h1]
  ·subst hH;subst hcs;refine hw.set hi rfl rfl rfl (by simp[World.setRow]) (λk _ hk=>?_) ⟨us.set off (a.eval y),setRow_heap w b _ _ e (0,0) hb,h2.set off hr⟩ (by simp[Ent.foot]);simp only[Ent.foot,ApF] at hk;simp only[World.setRow,Array.getElem?_modify];rw[ApP (λe=>hk e.symm)]
theorem Zb (hsz:∀w,(sizeOf t).run P w = .ok sz w)(hx:ev l x=some (rv (.pointer (some ⟨b,off,none⟩))))(hy:ev l y=some (Cz rs))
  (hl:rs.length=sz) (hv:Bn H rs) (hi:H[i]? =some (.blk b cs e)) (hlt:Nat.ble (off+sz) cs.length=true) {cs':List Rp}
  (hcs:cs.take off++rs++cs.drop (off+sz)=cs') (hH:H.set i (.blk b cs' e)=H')
  (h:WL P n c ops Q rest l H'):WL P n c ops Q ({ dst:=none,op:=.store t x y,type:=ty,pos:=pos,after:=af,guard:=none }::rest) l H:=
 AiF λa w Z ha hw=>by
  obtain⟨us,hb,h2⟩:=hw.ent hi;obtain⟨vs,e1,h4⟩:=ha.ev hy;have hlen:=h2.length;have hvl:=h4.length;have hlt':off+sz≤us.length:=by rw[hlen];simpa using hlt
  have h1:=run_storeCells_at P b off e vs 0 us.toArray w hb (by simp;omega) (λv hv'=>hv.at hw h4 v hv');simp only[Nat.add_zero] at h1;refine⟨w.setRow b (us.take off++vs++us.drop (off+sz)).toArray,H',?_,?_,h⟩
  ·have h5:vs.length=sz:=by omega
   rw[h5] at h1;simp only[ApR] at h1 ⊢;simp[execOp,ha.eval hx,e1,Instr.storeAt,Instr.sureAddr,storeVar,hsz,Value.cells,h5,h1]
  ·subst hH;subst hcs;refine hw.set hi rfl rfl rfl (by simp[World.setRow]) (λk _ hk=>?_) ⟨us.take off++vs++us.drop (off+sz),setRow_heap w b _ _ e (0,0) hb,((h2.take off).append h4).append (h2.drop (off+sz))⟩ (by simp[Ent.foot]);simp only[Ent.foot,ApF] at hk;simp only[World.setRow,Array.getElem?_modify];rw[ApP (λe=>hk e.symm)]
theorem BK {p:Addr}(hx:ev l x=some (rv (.pointer (some p)))):Cd P n c l H { dst:=d',op:=.nilCheck x,type:=ty,pos:=pos,after:=af,guard:=g } (rv (.pointer (some p))):=λa w Z ha hw=>Ev<|by
 simp[execOp,ha.eval hx]
theorem Aq {off':Nat}{f:Field}(hu:P.underlying t=some (.struct fs))(hf:fs[i]? =some f)(hsz:∀w,(sizeOf f.type).run P w = .ok (sz+1) w)
  (hx:ev l x=some (rv (.pointer (some ⟨b,off,none⟩)))) (ho:off+f.offset=off'):Cd P n c l H { dst:=d',op:=.fieldAddr t x i,type:=ty,pos:=pos,after:=af,guard:=g } (rv (.pointer (some ⟨b,off',none⟩))):=λa w Z ha hw=>Ev<|by
 subst ho;simp[execOp,ha.eval hx,Instr.fieldAt,run_underlying hu,hf,Instr.sureAddr,fieldPlace,hsz,Pi]
theorem Bv {f:Field}(hu:P.underlying t=some (.struct fs))(hf:fs[i]? =some f)(hsz:∀w,(sizeOf f.type).run P w = .ok (sz+1) w)
  (hx:ev l x=some (JV cs)) (ho:cs.drop f.offset=cs'):Cd P n c l H { dst:=d',op:=.fieldAddr t x i,type:=ty,pos:=pos,after:=af,guard:=g } (JV cs'):=λa w Z ha hw=>by
 subst ho;obtain⟨b,o,e1,hcs⟩:=ha.ev hx;refine⟨.pointer (some ⟨b,o+f.offset,none⟩),⟨b,o+f.offset,rfl,λj r hj=>?_⟩,by simp[execOp,e1,Instr.fieldAt,run_underlying hu,hf,Instr.sureAddr,fieldPlace,hsz,Pi]⟩;obtain⟨u,hu,hr⟩:=hcs (f.offset+j) r (by simpa using hj);exact⟨u,by rw[Nat.add_assoc];exact hu,hr⟩
theorem CJ [Inhabited α]{i:Int}(ht:P.underlying t=some (.slice e))(hz:∀w,(sizeOf e).run P w = .ok sz w)(h:ev l x=some (B4 sz (ys.map enc)))(hi:ev l y=some (rI k i))(hg:Cn i (ys.length:Int)=true) :
  Cd P n c l H { dst:=d',op:=.indexAddr t x y,type:=ty,pos:=pos,after:=af,guard:=g } (JV (enc (Af ys i))):=λa w Z ha hw=>by
 obtain⟨A,cap,e1,_,_,_,hc⟩:=ha.ev h;have h0:=(Da hg).1;have h1:i.toNat<ys.length:=by have:=(Da hg).2;omega
 have hlt:i<(ys.length:Int):=(Da hg).2;obtain⟨hl,ad,rfl,hs,hcs⟩:=hc i.toNat (enc ys[i.toNat]) (by simp[h1]);obtain⟨b,off,spot⟩:=ad;simp only at hs;subst hs;have eat:Af ys i=ys[i.toNat]:=by simp[Af,h1]
 refine⟨.pointer (some ⟨b,off+i.toNat*sz,none⟩),⟨b,off+i.toNat*sz,rfl,λj r hj=>?_⟩,?_⟩
 ·obtain⟨u,hu,hr⟩:=hcs j r (by rw[← eat];exact hj);exact⟨u,by rw[Nat.add_assoc];exact hu,hr⟩
 ·simp only[Ap9] at e1;simp[execOp,e1,ha.eval hi,Instr.indexAt,asIntOf,run_underlying ht,h0,hlt,hz,Pi]
theorem WL.nilrow {e:TypeId}{sz:Nat}(h:WL P n c ops Q rest l (.row (.slice none 0 0) e sz []::H)):WL P n c ops Q rest l H:=λa w Z ha hw=>
 h a w Z ha (hw.add rfl rfl rfl (Ap8 _) (λ_ _=>rfl) ⟨by simp,[],⟨by simp,.inl ⟨rfl,rfl⟩⟩,trivial⟩ (by simp[Ent.foot,Value.ownBlock]))
theorem WC.nilrow {xx:Code}{e:TypeId}{sz:Nat}(h:WC P n c xx Q l (.row (.slice none 0 0) e sz []::H)):WC P n c xx Q l H:=λa w Z ha hw=>
 h a w Z ha (hw.add rfl rfl rfl (Ap8 _) (λ_ _=>rfl) ⟨by simp,[],⟨by simp,.inl ⟨rfl,rfl⟩⟩,trivial⟩ (by simp[Ent.foot,Value.ownBlock]))
theorem WK.nilrow {K:Act→World→Prop}{e:TypeId}{sz:Nat}(h:WK n c K l (.row (.slice none 0 0) e sz []::H)):WK n c K l H:=λa w Z ha hw=>
 h a w Z ha (hw.add rfl rfl rfl (Ap8 _) (λ_ _=>rfl) ⟨by simp,[],⟨by simp,.inl ⟨rfl,rfl⟩⟩,trivial⟩ (by simp[Ent.foot,Value.ownBlock]))
theorem Ajw (ht:P.underlying t=some (.slice e))(h:ev l x=some (rv v))(hi:H[i]? =some (.row v e' sz xs)):Cd P n c l H { dst:=d',op:=.call { callee:=.builtin .len,args:=#[x],argTypes:=#[t] },type:=ty,pos:=pos,after:=af,guard:=g } (rI .i64 xs.length):=λa w Z ha hw=>Ev<|by
 obtain⟨_,us,⟨_,h2⟩,_⟩:=hw.ent hi;rcases h2 with⟨rfl,hz⟩ | ⟨b,cap,cur,rfl,_⟩
 ·simp[execOp,resolve,invoke,builtin,ha.eval h,Builtin.len_,run_underlying ht,goInt,hz]
 ·simp[execOp,resolve,invoke,builtin,ha.eval h,Builtin.len_,run_underlying ht,goInt]
theorem Dj (i:Nat){j:Int}(ht:P.underlying t=some (.slice e))(hz:∀w,(sizeOf e).run P w = .ok sz w)(h:ev l x=some (rv v))(hy:ev l y=some (rI k j))(hi:H[i]? =some (.row v e' sz xs))(hg:Cn j (xs.length:Int)=true) :
  Cd P n c l H { dst:=d',op:=.indexAddr t x y,type:=ty,pos:=pos,after:=af,guard:=g } (rv (Nr sz v j.toNat 0)):=λa w Z ha hw=>Ev<|by
 obtain⟨_,us,⟨_,h2⟩,_⟩:=hw.ent hi;have h0:=(Da hg).1;have h1:=(Da hg).2;rcases h2 with⟨rfl,hz⟩ | ⟨b,cap,cur,rfl,_⟩
 ·omega
 ·simp[execOp,ha.eval h,ha.eval hy,Instr.indexAt,asIntOf,run_underlying ht,h0,h1,hz,Pi,Nr]
theorem DU [Inhabited α](i:Nat){j:Int}(hag:∀w,(isAgg t).run P w = .ok false w)(hx:ev l x=some (rv (Nr sz v j.toNat off)))(hi:H[i]? =some (.row v e sz (ys.map enc)))(hg:Cn j (ys.length:Int)=true)(hc:(enc (Af ys j))[off]? =some r) :
  Cd P n c l H { dst:=d',op:=.load t x,type:=ty,pos:=pos,after:=af,guard:=g } r:=λa w Z ha hw=>by
 obtain⟨hs,us,⟨h1,h2⟩,h3⟩:=hw.ent hi;have h0:=(Da hg).1;have hlt:j.toNat<ys.length:=by have:=(Da hg).2;omega
 have eat:Af ys j=ys[j.toNat]:=by simp[Af,hlt]
 have hfl:=Ro hs (i:=j.toNat) (c:=enc ys[j.toNat]) (by simp[hlt]) (j:=off) (u:=r) (by rw[← eat];exact hc);obtain⟨u,hu,hp⟩:=h3.at hfl;rcases h2 with⟨rfl,hz⟩ | ⟨b,cap,cur,rfl,_,hg',hcap,hm,hsz,htk⟩
 ·simp at hz;subst hz;simp at hlt
 ·have hcell:w.cell? ⟨b,j.toNat*sz+off,none⟩=some u:=by
   rw[cell_of_row w b _ cur e (0,0) hg'];rw[← htk,ApS] at hu
   split at hu
   ·simpa using hu
   ·cases hu
  exact⟨u,hp,by simp[execOp,ha.eval hx,Nr,Instr.loadAt,Instr.sureAddr,loadVar,hag,hcell]⟩
theorem Bz {j:Int}(h:Cn j (ys.length:Int)=true):Cn j ((ys.map enc).length:Int)=true:=by rw[Ap9];exact h
theorem UI (ht:P.underlying t=some (.slice e))(h:ev l x=some (B4 sz (ys.map enc))):Cd P n c l H { dst:=d',op:=.call { callee:=.builtin .len,args:=#[x],argTypes:=#[t] },type:=ty,pos:=pos,after:=af,guard:=g } (rI .i64 ys.length):=by
 have:=Ajv (P:=P) (n:=n) (c:=c) (H:=H) (d:=d') (ty:=ty) (pos:=pos) (af:=af) (g:=g) ht h
 rwa [Ap9] at this
theorem CS (i:Nat)(ht:P.underlying t=some (.slice e))(h:ev l x=some (rv v))(hi:H[i]? =some (.row v e' sz (ys.map enc))):Cd P n c l H { dst:=d',op:=.call { callee:=.builtin .len,args:=#[x],argTypes:=#[t] },type:=ty,pos:=pos,after:=af,guard:=g } (rI .i64 ys.length):=by
 have:=Ajw (P:=P) (n:=n) (c:=c) (d':=d') (ty:=ty) (pos:=pos) (af:=af) (g:=g) ht h hi
 rwa [Ap9] at this
theorem DO {k:Nat}{jj:Int}(hk:H[k]? =some (.row v e' sz xs))(hg:Cn jj (xs.length:Int)=true)(hj:jj.toNat=j)(hx:ev l x=some (rv (Nr sz v j off))):Cd P n c l H { dst:=d',op:=.nilCheck x,type:=ty,pos:=pos,after:=af,guard:=g } (rv (Nr sz v j off)):=λa w Z ha hw=>Ev<|by
 obtain⟨hs,us,⟨h1,h2⟩,h3⟩:=hw.ent hk;rcases h2 with⟨rfl,hz⟩ | ⟨b,cap,cur,rfl,_⟩
 ·have:=Da hg;omega
 ·simp[execOp,ha.eval hx,Nr]
theorem DI {off' fsz:Nat}{f:Field}(hu:P.underlying t=some (.struct fs))(hf:fs[i]? =some f)(hsz:∀w,(sizeOf f.type).run P w = .ok (fsz+1) w){k:Nat}{jj:Int}(hk:H[k]? =some (.row v e' sz xs))(hg:Cn jj (xs.length:Int)=true)(hj:jj.toNat=j)
  (hx:ev l x=some (rv (Nr sz v j off))) (ho:off+f.offset=off'):Cd P n c l H { dst:=d',op:=.fieldAddr t x i,type:=ty,pos:=pos,after:=af,guard:=g } (rv (Nr sz v j off')):=λa w Z ha hw=>Ev<|by
 obtain⟨hs,us,⟨h1,h2⟩,h3⟩:=hw.ent hk;subst ho hj;rcases h2 with⟨rfl,hz⟩ | ⟨b,cap,cur,rfl,_⟩
 ·have:=Da hg;omega
 ·simp[execOp,ha.eval hx,Nr,Instr.fieldAt,run_underlying hu,hf,Instr.sureAddr,fieldPlace,hsz,Pi,Nat.add_assoc]
theorem N8 [Inhabited α]{j:Int}{y':α}(hsz:∀w,(sizeOf t).run P w = .ok 1 w)(hx:ev l x=some (rv (Nr sz v j.toNat off)))(hy:ev l y=some r)(hv:Wh H r)(hi:H[i]? =some (.row v e sz (ys.map enc)))(hg:Cn j (ys.length:Int)=true)
  (hy':(enc (Af ys j)).set off r=enc y') (hlt:Nat.blt off sz=true) (hH:H.set i (.row v e sz ((ys.set j.toNat y').map enc))=H') (h:WL P n c ops Q rest l H') :
  WL P n c ops Q ({ dst:=none,op:=.store t x y,type:=ty,pos:=pos,after:=af,guard:=none }::rest) l H:=
 AiF λa w Z ha hw=>by
  obtain⟨hs,us,⟨h1,h2⟩,h3⟩:=hw.ent hi;have h0:=(Da hg).1;have hlj:j.toNat<ys.length:=by have:=(Da hg).2;omega
  have hlt':off<sz:=by simpa using hlt
  have eat:Af ys j=ys[j.toNat]:=by simp[Af,hlj]
  have hr:=ha.ev hy;have hone:=hv c Z w _ hw hr;rcases h2 with⟨rfl,hz⟩ | ⟨b,cap,cur,rfl,_,hg',hcap,hm,hcs,htk⟩
  ·simp at hz;subst hz;simp at hlj
  ·simp only[Ap9] at h1 hcap htk;have hin:j.toNat*sz+off<ys.length*sz:=by
    have:(j.toNat+1)*sz≤ys.length*sz:=Nat.mul_le_mul_right _ hlj;rw[Nat.succ_mul] at this;omega
   have hlc:j.toNat*sz+off<cur.size:=by
    have:ys.length*sz≤cap*sz:=Nat.mul_le_mul_right _ hcap;omega
   have h4:=run_storeCells_at P b (j.toNat*sz+off) e [a.eval y] 0 cur w hg' (by simp;omega) (by simpa using hone);have hcv:=K6 hone;have h5:(cur.toList.take (j.toNat*sz+off)++[a.eval y]++cur.toList.drop (j.toNat*sz+off+1)).toArray=cur.setIfInBounds (j.toNat*sz+off) (a.eval y):=by
    apply Array.ext';simp[Array.toList_setIfInBounds,List.set_eq_take_append_cons_drop,hlc]
   simp only[Nat.add_zero,Ap2,Aqh,ApQ] at h4;rw[h5] at h4;have hset:((ys.set j.toNat y').map enc).flatten=(ys.map enc).flatten.set (j.toNat*sz+off) r:=by
    clear h3 h1 hcs htk hin hlc h4 h5 hi hH;have key:∀(xs:List (List Rp)) (k:Nat) (cl:List Rp),(∀c∈xs,c.length=sz)→xs[k]? =some cl→(xs.set k (cl.set off r)).flatten=xs.flatten.set (k*sz+off) r:=by
     intro xs
     induction xs with
     | nil=>intro k cl _ hk;simp at hk
     | cons z zs ih=>
      intro k cl hsz hk;have hzl:z.length=sz:=hsz z (by simp)
      cases k with
      | zero=>
       simp at hk;subst hk;simp only[List.set_cons_zero,List.flatten_cons,Nat.zero_mul,ApQ];rw[List.set_append_left _ _ (by omega)]
      | succ k=>
       simp only[List.set_cons_succ,List.flatten_cons];rw[ih k cl (λc hc=>hsz c (by simp[hc])) (by simpa using hk)];rw[List.set_append_right _ _ (by rw[hzl,Nat.succ_mul];omega)]
       congr 2
       rw[hzl,Nat.succ_mul];omega
    have:=key (ys.map enc) j.toNat (enc ys[j.toNat]) hs (by simp[hlj]);rw[← this,List.map_set,← hy',eat]
   refine⟨w.setRow b (cur.setIfInBounds (j.toNat*sz+off) (a.eval y)),H',?_,?_,h⟩
   ·simp[execOp,ha.eval hx,Nr,Instr.storeAt,Instr.sureAddr,storeVar,hsz,hcv,h4]
   ·subst hH;refine hw.set hi rfl rfl rfl (by simp[World.setRow]) (λk _ hk=>?_) ⟨?_,us.set (j.toNat*sz+off) (a.eval y),⟨by simpa using h1,.inr ⟨b,cap,_,by simp,ApY _,setRow_heap w b cur _ e (0,0) hg',by simpa using hcap,hm,by simpa using hcs,?_⟩⟩,?_⟩ (by simp[Ent.foot,Value.ownBlock])
    ·simp only[Ent.foot,Value.ownBlock,Option.mem_toList,Option.mem_def,Option.some.injEq] at hk;simp only[World.setRow,Array.getElem?_modify];rw[ApP hk]
    ·intro cl hcl;rw[List.map_set] at hcl;rcases List.mem_or_eq_of_mem_set hcl with h' | rfl
     ·exact hs cl h'
     ·rw[← hy',List.length_set,eat];exact hs _ (List.mem_map_of_mem (List.getElem_mem hlj))
    ·simp only[Ap9,List.length_set];rw[Array.toList_setIfInBounds,List.take_set,htk]
    ·rw[hset];exact h3.set _ hr
end
theorem AgA {P:Program}{t e:TypeId}{sz len:Nat}{z:Value}{parts:Array (Nat×Value)}{cs:List Value}(ht:P.underlying t=some (.slice e))(hz:∀w,(sizeOf e).run P w = .ok sz w)(hzv:∀w,(zeroValue e).run P w = .ok z w)
  (hle:Nat.ble (len*sz) 16777216=true) (w:World) (hf:Instr.fill (λi=>some (i*sz,sz)) ((Array.range (len*sz)).map ((if len*sz=0 then #[] else z.cells)[· % (if len*sz=0 then #[] else z.cells).size]!)) parts.toList=some cs.toArray) :
  (Instr.buildSlice t len parts).run P w = .ok (.slice (some ⟨w.heap.size,0,none⟩) len len) (w.alloc (.cells cs.toArray e)):=by
 have hle' : ¬ 16777216<len*sz:=by simpa using hle
 unfold Instr.buildSlice
 by_cases h0:len*sz=0
 ·have er:Array.range 0 = #[]:=rfl;simp only[h0,Aqp,er] at hf;have hf:Instr.fill (λi=>some (i*sz,sz)) #[] parts.toList=some cs.toArray:=by simpa using hf
  simp[run_underlying ht,hz,hle',h0,er,hf,newRow,newObj,Sem.run,Sem.run_bind]
 ·simp only[h0,Aqe] at hf;simp[run_underlying ht,hz,hzv,hle',h0,hf,newRow,newObj,Sem.run,Sem.run_bind]
variable{inf:TypeInfo}{parts:Array (Nat×Operand)}{f:FuncId}{caps:List Value}
section
variable {P : Program} {n : Nat} {c : Cx} {ops : Array Oper} {Q : Exit → Act → World → Prop} {rest : List Oper} {l : Fr} {H H' : List Ent} {d : Nat} {d' : Option Nat} {x y z3 : Operand} {ty t t' e : TypeId} {pos : String} {af : Array Edge} {g : Option (Nat × Bool)} {v u : Value} {r : Rp} {sz : Nat}
theorem C7 {k:Nat}(hag:∀w,(isAgg t).run P w = .ok true w)(hsz:∀w,(sizeOf t).run P w = .ok sz w)(hx:look l k=some (rv (.pointer (some ⟨b,0,none⟩))))(hi:H[i]? =some (.blk b cs e))(hl:cs.length=sz):RV P n c l H (.cell k t) (Cz cs):=λa w Z ha hw=>by
 obtain⟨us,h1,h2⟩:=hw.ent hi;obtain⟨p,hp1,hp2⟩:=ha.tm k _ hx;rw[show p=_ from hp2] at hp1;have h4:=run_loadCells_list (P:=P) w ⟨b,0,none⟩ us (λj u hj=>by
  rw[Pi,cell_of_row w b _ _ e (0,0) h1,ApQ];simpa using hj)
 rw[h2.length,hl] at h4;exact⟨.agg us.toArray,⟨us,rfl,h2⟩,by simp[Ajb,Array.getD_eq_getD_getElem?,hp1,asAddr,loadVar,hag,hsz,h4]⟩
def Cel (H:List Ent)(r:Rp)(cs:List Rp):Prop:=∀(c:Cx) Z w v,St c H Z w→r.p Z v→B9 Z cs v.cells.toList
theorem Cel.one {q:Rp}(h:r.one=true)(hu:Up H r q):Cel H r [q]:=λc Z w v hw hp=>by
 rw[K6 (r.hone h Z v hp)];exact⟨hu c Z w v hw hp,trivial⟩
theorem Cel.agg (h:Mr H cs cs'):Cel H (Cz cs) cs':=λc Z w v hw ⟨us,e,hu⟩=>by subst e;exact h.all hw hu
def Jo (H:List Ent):List Rp→List (List Rp)→Prop
 | [],[]=>True
 | r::rs,cs::css=>Cel H r cs∧Jo H rs css
 | _,_=>False
theorem Jo.all {c:Cx}{Z:Fz}{w:World}(hw:St c H Z w):∀{rs:List Rp} {css:List (List Rp)} {vs:List Value},Jo H rs css→B9 Z rs vs→B9 Z css.flatten (vs.flatMap λv=>v.cells.toList)∧css.length=vs.length∧∀(i:Nat) cs v,css[i]? =some cs→vs[i]? =some v→v.cells.size=cs.length
 | [],[],[],_,_=>⟨trivial,rfl,by simp⟩
 | r::rs,cs::css,v::vs,⟨h1,h2⟩,⟨h3,h4⟩=>by
  obtain⟨a1,a2,a3⟩:=h2.all hw h4;have h5:=h1 c Z w v hw h3;refine⟨by simpa using h5.append a1,by simp[a2],λi cs' v' hi hv=>?_⟩
  cases i with
  | zero=>simp at hi hv;subst hi hv;have:=h5.length;simpa using this
  | succ i=>exact a3 i cs' v' (by simpa using hi) (by simpa using hv)
theorem Xt {len:Nat}{xs:List Operand}{css:List (List Rp)}{zz:Value}(ht:P.underlying t=some (.slice e))(hz:∀w,(sizeOf e).run P w = .ok sz w)(hzv:∀w,(zeroValue e).run P w = .ok zz w)
  (hparts:parts.toList=(xs.zipIdx 0).map λp=>(p.2,p.1)) (hlen:ys.length=len) (hv:Ph l xs=some rs) (hc:Jo H rs css) (hcs:css=ys.map enc) (henc:∀z,(enc z).length=sz) (hsz:Nat.blt 0 sz=true) (hle:Nat.ble (len*sz) 16777216=true) (hn:Nat.blt d n=true)
  (h:∀b,WL P n c ops Q rest ((d,rv (.slice (some ⟨b,0,none⟩) len len))::l) (.row (.slice (some ⟨b,0,none⟩) len len) e sz (ys.map enc)::H)) :
  WL P n c ops Q ({ dst:=some d,op:=.buildSlice t len parts,type:=ty,pos:=pos,after:=af,guard:=none }::rest) l H:=
 Pd (λa w Z ha hw=>by
  have hall:=H6 ha hv;obtain⟨h1,h2,h3⟩:=hc.all hw hall;have hsz':0<sz:=by simpa using hsz
  have hle' : ¬ 16777216<len*sz:=by simpa using hle
  have hxl:(xs.map a.eval).length=len:=by rw[← h2,hcs,Ap9,hlen]
  have hcell:∀v∈xs.map a.eval,v.cells.size=sz:=λv hv'=>by
   obtain⟨i,hi⟩:=List.getElem?_of_mem hv';have hil:=(List.getElem?_eq_some_iff.1 hi).1;have hil2:i<css.length:=by omega
   rw[h3 i css[i] v (Apw hil2) hi];have:css[i]∈ys.map enc:=by rw[← hcs];exact List.getElem_mem hil2
   obtain⟨z,_,hz'⟩:=List.mem_map.1 this;rw[← hz'];exact henc z
  have hflen:((xs.map a.eval).flatMap λv=>v.cells.toList).length=len*sz:=by
   rw[h1.length,Mo (sz:=sz) (λc hc'=>by rw[hcs] at hc';obtain⟨z,_,hz'⟩:=List.mem_map.1 hc';rw[← hz'];exact henc z),hcs,Ap9,hlen]
  have hpe:(parts.map λ(i,x)=>(i,a.eval x)).toList=((xs.map a.eval).zipIdx 0).map λp=>(p.2,p.1):=by
   rw[Array.toList_map,hparts,List.zipIdx_map,Aqo,Aqo];rfl
  have hrun:(Instr.buildSlice t len (parts.map λ(i,x)=>(i,a.eval x))).run P w = .ok (.slice (some ⟨w.heap.size,0,none⟩) len len) (w.alloc (.cells ((xs.map a.eval).flatMap λv=>v.cells.toList).toArray e)):=by
   refine AgA ht hz hzv hle w ?_;rw[hpe]
   by_cases h0:len*sz=0
   ·have:len=0:=by
     rcases Nat.mul_eq_zero.1 h0 with h | h
     ·exact h
     ·omega
    subst this;have hx0:xs=[]:=by simpa using ApK (by simpa using hxl)
    subst hx0;simp[Instr.fill]
   ·simp only[h0,Aqe];exact Great.fill_whole hsz' (xs.map a.eval) _ hcell (by rw[hxl];simp)
  refine⟨_,w.alloc (.cells ((xs.map a.eval).flatMap λv=>v.cells.toList).toArray e),_,_,Z,by simp[execOp,hrun],Fz.le.refl _,rfl,
   hw.alloc _ (e:=.row (.slice (some ⟨w.heap.size,0,none⟩) len len) e sz (ys.map enc)) ⟨?_,(xs.map a.eval).flatMap (λv=>v.cells.toList),⟨?_,.inr ⟨w.heap.size,len,_,?_,ApY _,heap_alloc_new w _,?_,?_,?_,?_⟩⟩,?_⟩ (by simp[Ent.foot,Value.ownBlock]),h w.heap.size⟩
  ·intro cl hcl;obtain⟨z,_,hz'⟩:=List.mem_map.1 hcl;rw[← hz'];exact henc z
  ·rw[hflen,Ap9,hlen]
  ·rw[Ap9,hlen]
  ·rw[Ap9,hlen];exact Ap8 _
  ·have:len≤len*sz:=Nat.le_mul_of_pos_right _ hsz';simp only[maxLen];omega
  ·simpa using hflen
  ·rw[Ap9,hlen,← hflen];exact Aqi
  ·rw[← hcs];exact h1) hn
theorem SlZ.rds {Z:Fz}{w:World}(hf:Frz Z w)(h:SlZ sz (ys.map enc) Z v)(hsz:0<sz):∃us:List Value,B9 Z (ys.map enc).flatten us∧Rds sz w v ys.length us:=by
 obtain⟨A,cap,rfl,_,_,hA,hc⟩:=h;have hl:∀c∈ys.map enc,c.length=sz:=λc hm=>by
  obtain⟨i,hi⟩:=List.getElem?_of_mem hm;exact(hc i c hi).1
 cases A with
 | none=>
  have:ys=[]:=by
   cases ys with
   | nil=>rfl
   | cons y r=>obtain⟨_,a,h,_⟩:=hc 0 (enc y) (by simp);cases h
  subst this;rw[hA rfl];exact⟨[],trivial,by simp,.inl ⟨rfl,rfl⟩⟩
 | some a=>
  obtain⟨us,h1,h2⟩:=S8 (Z:=Z) (cs:=(ys.map enc).flatten) (f:=λj=>LB Z a.block (a.off+j)) (λj r hj=>by
   have hjl:j<ys.length*sz:=by
    have:=Mo hl;rw[Ap9] at this;rw[← this];exact(List.getElem?_eq_some_iff.1 hj).1
   have hq:j/sz<(ys.map enc).length:=by rw[Ap9,Nat.div_lt_iff_lt_mul hsz];exact hjl
   have hr:j % sz<sz:=Nat.mod_lt _ hsz;obtain⟨hcl,a',e1,hsp,hcell⟩:=hc (j/sz) (ys.map enc)[j/sz] (Apw hq);simp only[Option.some.injEq] at e1;subst e1;have hdm:j/sz*sz+j % sz=j:=by rw[Nat.mul_comm];exact Nat.div_add_mod j sz
   have hlt:j % sz<((ys.map enc)[j/sz]).length:=by omega
   have h3:=Ro hl (Apw hq) (Apw hlt);rw[hdm,hj] at h3;simp only[Option.some.injEq] at h3;obtain⟨u,hu,hp⟩:=hcell (j % sz) _ (Apw hlt);rw[hdm] at hu;exact⟨u,hu,by rw[h3];exact hp⟩)
  refine⟨us,h1,?_,.inr ⟨a,cap,by simp,λj u hj=>?_⟩⟩
  ·rw[h1.length,Mo hl,Ap9]
  ·have hjl:j<us.length:=(List.getElem?_eq_some_iff.1 hj).1;have h3:=PE hf (h2 j u hj);have hsp:a.spot=none:=by
    cases ys with
    | nil=>have:=h1.length;simp at this;subst this;simp at hjl
    | cons y r=>obtain⟨_,a',e1,hs,_⟩:=hc 0 (enc y) (by simp);simp at e1;subst e1;exact hs
   obtain⟨b,off,spot⟩:=a;simp only at hsp;subst hsp;rw[Pi];exact h3
def K8 (P:Program)(n:Nat)(c:Cx)(l:Fr)(H:List Ent)(y:Operand)(sz k:Nat)(cs:List Rp):Prop:=∀a w Z,EB n l a Z→St c H Z w→∃us,B9 Z cs us∧Rds sz w (a.eval y) k us
theorem K8.z (h:ev l y=some (B4 sz (ys.map enc)))(hsz:Nat.blt 0 sz=true):K8 P n c l H y sz ys.length (ys.map enc).flatten:=λa w Z ha hw=>SlZ.rds hw.frz (ha.ev h) (by simpa using hsz)
theorem K8.w {α:Type}{ys:List α}{enc:α→List Rp}(i:Nat)(h:ev l y=some (rv v))(hi:H[i]? =some (.row v e sz (ys.map enc))):K8 P n c l H y sz ys.length (ys.map enc).flatten:=λa w Z ha hw=>by
 obtain⟨h0,us,h1,h2⟩:=hw.ent hi;refine⟨us,h2,?_⟩;rw[ha.eval h];have:=Rds.of_row (w:=w) (v:=v) (e:=e) (sz:=sz) (m:=(ys.map enc).length) (xs:=us) h1;simpa using this
theorem Agf {xs:List α}{z:Value}{bytes:Nat}(ht:P.underlying t=some (.slice e))(hinf:P.info? e=some inf)(hz:inf.zero=some z)(hsize:inf.size=sz)(hby:inf.bytes=bytes)(hzs:z.cells.size=sz)(hsz:Nat.blt 0 sz=true)(hbp:Nat.blt 0 bytes=true)
  (hx:ev l x=some (rv v)) (hi:H[i]? =some (.row v e sz (xs.map enc))) (hy:K8 P n c l H y sz ys.length (ys.map enc).flatten) (henc:∀z,(enc z).length=sz) (hone:∀z,(enc z).all (·.one)=true) (hg:Dl bytes (xs.length+ys.length)=true) (hn:Nat.blt d n=true)
  (h:∀v',WL P n c ops Q rest ((d,rv v')::l) (.row v' e sz ((xs++ys).map enc)::H.eraseIdx i)) :
  WL P n c ops Q ({ dst:=some d,op:=.call { callee:=.builtin .append,args:=#[x,y],argTypes:=#[t,t] },type:=ty,pos:=pos,after:=af,guard:=none }::rest) l H:=
 Pd (λa w Z ha hw=>by
  obtain⟨h0,us,h1,h2⟩:=hw.ent hi;obtain⟨ws,h3,h4⟩:=hy a w Z ha hw;have hsz':0<sz:=by simpa using hsz
  have hbp':0<bytes:=by simpa using hbp
  have hb:(xs.length+ys.length)*bytes≤140737488355328:=by simpa[Dl] using hg
  have hle:xs.length+ys.length≤(xs.length+ys.length)*bytes:=Nat.le_mul_of_pos_right _ hbp';have hws:∀y∈ws,y.oneCell'=true:=B9.one (rs:=(ys.map enc).flatten) (by
   rw[ApV];intro r hr;obtain⟨cl,hcl,hrc⟩:=List.mem_flatten.1 hr;obtain⟨z',_,rfl⟩:=List.mem_map.1 hcl;exact List.all_eq_true.1 (hone z') r hrc) h3
  have hxl:(xs.map enc).length=xs.length:=Ap9 ..;rw[hxl] at h1;obtain⟨v',w',e1,e2,e3,e4⟩:=Pv (P:=P) ty ht hinf hz hsize hby hzs hsz' h1 h4 hws hb (by simp only[maxLen];omega);have hent:(Ent.row v' e sz ((xs++ys).map enc)).holds Z w':=⟨λcl hcl=>by obtain⟨z',_,rfl⟩:=List.mem_map.1 hcl;exact henc z',us++ws,by simpa using e2,by rw[List.map_append,List.flatten_append];exact h2.append h3⟩
  have hst:=hw.callF hi (St.one (e':=.row v' e sz ((xs++ys).map enc)) (M:=(Ent.row v e sz (xs.map enc)).foot) hw.frz hw.env hw.emono e3.os e3.tape e3.output e3.size (λk hk hne=>e3.block k hk (λe1=>hne (by simp[Ent.foot,← e1])))
   (hw.zdis _ (Ap4 hi)) hent (λk hk=>by
    simp only[Ent.foot,Option.mem_toList] at hk ⊢;rcases e4 with e4 | e4
    ·exact .inl (e4▸hk)
    ·exact .inr (e4 k hk)))
  exact⟨v',w',rv v',_,Z,by simp[execOp,resolve,invoke,builtin,ha.eval hx,e1],Fz.le.refl _,rfl,hst,h v'⟩) hn
theorem KK {i:Int}(ht:P.underlying t=some (.slice e))(hz:∀w,(sizeOf e).run P w = .ok sz w)(h:ev l x=some (B4 sz (ys.map enc)))(hi:ev l y=some (rI k i))(hg:IG i (ys.length:Int)=true) :
  Cd P n c l H { dst:=d',op:=.slice t x (some y) none none,type:=ty,pos:=pos,after:=af,guard:=g } (B4 sz ((ys.drop i.toNat).map enc)):=λa w Z ha hw=>by
 obtain⟨A,cap,e1,hc1,hc2,hA,hc⟩:=ha.ev h;have h0:=(Gg hg).1;have h1:=(Gg hg).2;simp only[Ap9] at e1 hc1;refine⟨.slice (if cap=i.toNat then A else A.map (·.add (i.toNat*sz))) (ys.length-i.toNat) (cap-i.toNat),⟨if cap=i.toNat then A else A.map (·.add (i.toNat*sz)),cap-i.toNat,?_,?_,by omega,?_,λq cl hq=>?_⟩,by simp[execOp,e1,ha.eval hi,Instr.sliceAt,Instr.slice,run_underlying ht,Instr.sliceBounds,Ds (m:=ys.length) _ _ h0 h1,hz]⟩
 ·congr 1
  simp
 ·simp;omega
 ·intro hn
  split at hn
  ·have:=hA hn;omega
  ·have:=hA (by simpa using hn);omega
 ·rw[ApI,List.getElem?_drop] at hq
  cases hq':ys[i.toNat+q]? with
  | none=>rw[hq'] at hq;cases hq
  | some yy=>
   rw[hq'] at hq;simp only[Option.map_some,Option.some.injEq] at hq;subst hq;have hlt:=(List.getElem?_eq_some_iff.1 hq').1;obtain⟨hl,ad,rfl,hs,hcs⟩:=hc (i.toNat+q) (enc yy) (by simp[hq']);obtain⟨b,off,spot⟩:=ad;simp only at hs;subst hs;have hne : ¬ cap=i.toNat:=by omega
   refine⟨hl,⟨b,off+i.toNat*sz,none⟩,by simp[hne,Pi],rfl,λq' r' hr'=>?_⟩;obtain⟨u,hu,hp⟩:=hcs q' r' hr';refine⟨u,?_,hp⟩;have:off+i.toNat*sz+(q*sz+q')=off+((i.toNat+q)*sz+q'):=by rw[Nat.add_mul];omega
   simp only;rw[this];exact hu
theorem Ak0 {j:Int}(ht:P.underlying t=some (.slice e))(hz:∀w,(sizeOf e).run P w = .ok sz w)(hx:ev l x=some (rv v))(hy:ev l y=some (rI k j))(hi:H[i]? =some (.row v e sz (ys.map enc)))(hg:IG j (ys.length:Int)=true)(hn:Nat.blt d n=true)
  (h:∀v',WL P n c ops Q rest ((d,rv v')::l) (H.set i (.row v' e sz ((ys.take j.toNat).map enc)))) :
  WL P n c ops Q ({ dst:=some d,op:=.slice t x none (some y) none,type:=ty,pos:=pos,after:=af,guard:=none }::rest) l H:=
 Pd (λa w Z ha hw=>by
  obtain⟨h0,us,⟨h1,h2⟩,h3⟩:=hw.ent hi;have g0:=(Gg hg).1;have g1:=(Gg hg).2;rcases h2 with⟨rfl,hz0⟩ | ⟨b,cap,cur,rfl,_,hb,hcap,hm,hcs,htk⟩
  ·simp at hz0;subst hz0;obtain rfl:j=0:=by simp at g1;omega
   refine⟨.slice none 0 0,w,_,_,Z,by simp[execOp,ha.eval hx,ha.eval hy,Instr.sliceAt,Instr.slice,run_underlying ht,Instr.sliceBounds,Ds (m:=0) _ _ (ApA 0) (ApA 0),hz],Fz.le.refl _,rfl,?_,h _⟩;exact hw.set hi rfl rfl rfl (Ap8 _) (λ_ _ _=>rfl) ⟨by simp,[],⟨by simp,.inl ⟨rfl,by simp⟩⟩,trivial⟩ (by simp[Ent.foot,Value.ownBlock])
  ·simp only[Ap9] at h1 hcap htk;have hjc:j≤(cap:Int):=by omega
   have hjl:j.toNat≤ys.length:=by omega
   refine⟨.slice (some ⟨b,0,none⟩) j.toNat cap,w,_,_,Z,by simp[execOp,ha.eval hx,ha.eval hy,Instr.sliceAt,Instr.slice,run_underlying ht,Instr.sliceBounds,Ds (m:=cap) _ _ g0 hjc,hz];intro _;rfl,Fz.le.refl _,rfl,?_,h _⟩;refine hw.set hi rfl rfl rfl (Ap8 _) (λ_ _ _=>rfl) ⟨λcl hcl=>?_,us.take (j.toNat*sz),⟨?_,.inr ⟨b,cap,cur,?_,ApY _,hb,?_,hm,hcs,?_⟩⟩,?_⟩ (by simp[Ent.foot,Value.ownBlock])
   ·rw[List.map_take] at hcl;exact h0 cl (List.mem_of_mem_take hcl)
   ·rw[Aqq,h1,Ap9,Aqq,Nat.min_eq_left hjl];exact Nat.min_eq_left (Nat.mul_le_mul_right _ hjl)
   ·simp[Nat.min_eq_left hjl]
   ·simp;omega
   ·rw[Ap9,Aqq,Nat.min_eq_left hjl,← htk,List.take_take,Nat.min_eq_left (Nat.mul_le_mul_right _ hjl)]
   ·have:((ys.take j.toNat).map enc).flatten=(ys.map enc).flatten.take (j.toNat*sz):=by
     rw[List.map_take];clear h3 h1 htk hcs hcap g1 hjc;generalize ys.map enc=zs at h0;have key:∀(zs:List (List Rp)) (k:Nat),(∀c∈zs,c.length=sz)→(zs.take k).flatten=zs.flatten.take (k*sz):=by
      intro zs
      induction zs with
      | nil=>intro k _;simp
      | cons z zs ih=>
       intro k hk
       cases k with
       | zero=>simp
       | succ k=>
        have hzl:=hk z (by simp);simp only[List.take_succ_cons,List.flatten_cons];rw[ih k (λc hc=>hk c (by simp[hc]))];have e1:(k+1)*sz=z.length+k*sz:=by rw[hzl,Nat.succ_mul];omega
        rw[e1,List.take_length_add_append]
     exact key zs _ h0
    rw[this];exact h3.take _) hn
theorem UH {z4:Operand}{k' k'':IntKind}{i j:Int}(ht:P.underlying t=some (.slice e))(hz:∀w,(sizeOf e).run P w = .ok sz w)(h:ev l x=some (B4 sz (ys.map enc)))(hi:ev l y=some (rI k i))(hj:ev l z3=some (rI k' j))(hm:ev l z4=some (rI k'' j))(hg1:IG i j=true)(hg2:IG j (ys.length:Int)=true) :
  Cd P n c l H { dst:=d',op:=.slice t x (some y) (some z3) (some z4),type:=ty,pos:=pos,after:=af,guard:=g } (B4 sz (((ys.drop i.toNat).take (j.toNat-i.toNat)).map enc)):=λa w Z ha hw=>by
 obtain⟨A,cap,e1,hc1,hc2,hA,hc⟩:=ha.ev h;have h0:=(Gg hg1).1;have h1:=(Gg hg1).2;have h2:=(Gg hg2).2;have hj0:0≤j:=by omega
 simp only[Ap9] at e1 hc1;have h3:j≤(cap:Int):=by omega
 refine⟨.slice (if j.toNat=i.toNat then A else A.map (·.add (i.toNat*sz))) (j.toNat-i.toNat) (j.toNat-i.toNat),⟨if j.toNat=i.toNat then A else A.map (·.add (i.toNat*sz)),j.toNat-i.toNat,?_,?_,by omega,?_,λq cl hq=>?_⟩,by simp[execOp,e1,ha.eval hi,ha.eval hj,ha.eval hm,Instr.sliceAt,Instr.slice,run_underlying ht,Instr.sliceBounds,Ds (m:=cap) _ _ hj0 h3,Ds (m:=j.toNat) _ _ hj0 (by omega),Ds (m:=j.toNat) _ _ h0 (by omega),hz]⟩
 ·congr 1
  simp;omega
 ·simp;omega
 ·intro hn
  split at hn
  ·omega
  ·have:=hA (by simpa using hn);omega
 ·rw[ApI] at hq
  cases hq':(List.take (j.toNat-i.toNat) (List.drop i.toNat ys))[q]? with
  | none=>rw[hq'] at hq;cases hq
  | some yy=>
   rw[hq'] at hq;simp only[Option.map_some,Option.some.injEq] at hq;subst hq;rw[ApS] at hq'
   split at hq'
   ·rename_i hlt
    rw[List.getElem?_drop] at hq';obtain⟨hl,ad,rfl,hs,hcs⟩:=hc (i.toNat+q) (enc yy) (by simp[hq']);obtain⟨b,off,spot⟩:=ad;simp only at hs;subst hs;have hne : ¬ j.toNat=i.toNat:=by omega
    refine⟨hl,⟨b,off+i.toNat*sz,none⟩,by simp[hne,Pi],rfl,λq' r' hr'=>?_⟩;obtain⟨u,hu,hp⟩:=hcs q' r' hr';refine⟨u,?_,hp⟩;have:off+i.toNat*sz+(q*sz+q')=off+((i.toNat+q)*sz+q'):=by rw[Nat.add_mul];omega
    simp only;rw[this];exact hu
   ·cases hq'
theorem Ahj {p q:Int}(ht:P.underlying t=some (.int k))(hx:ev l x=some (rI k p))(hy:ev l y=some (rI k q)):Cd P n c l H { dst:=d',op:=.call { callee:=.builtin .max,args:=#[x,y],argTypes:=#[t,t] },type:=ty,pos:=pos,after:=af,guard:=g } (rI k (max p q)):=λa w Z ha _=>Ev<|by
 have e:(if p<q then q else p)=max p q:=by split<;>omega
 simp[execOp,resolve,invoke,builtin,ha.eval hx,ha.eval hy,Builtin.max_,Builtin.max2,run_underlying ht,e]
theorem Am2 {p q:Int}(ht:P.underlying t=some (.int k))(hx:ev l x=some (rI k p))(hy:ev l y=some (rI k q)):Cd P n c l H { dst:=d',op:=.call { callee:=.builtin .min,args:=#[x,y],argTypes:=#[t,t] },type:=ty,pos:=pos,after:=af,guard:=g } (rI k (min p q)):=λa w Z ha _=>Ev<|by
 have e:(if q<p then q else p)=min p q:=by split<;>omega
 simp[execOp,resolve,invoke,builtin,ha.eval hx,ha.eval hy,Builtin.min_,Builtin.min2,run_underlying ht,e]
theorem KL {parts:Array Operand}(h:Ph l parts.toList=some (caps.map rv)):Cd P n c l H { dst:=d',op:=.makeFunc (.func f) #[] parts,type:=ty,pos:=pos,after:=af,guard:=g } (rv (.func (.func f) #[] caps.toArray)):=λa w Z ha _=>Ev<|by
 have h1:=B9.eq_rv (H6 ha h);have h2:parts.map a.eval=caps.toArray:=by apply Array.ext';simpa using h1
 simp[execOp,Instr.makeFunc,h2]
theorem Hk {p:Addr}(hu:∃e',P.underlying t=some (.pointer e'))(hx:ev l x=some (rv (.pointer (some p)))):Cd P n c l H { dst:=d',op:=.binOp .eql t x (.const (.pointer none)) t',type:=ty,pos:=pos,after:=af,guard:=g } (rB false):=λa w Z ha _=>Ev<|by
 obtain⟨e',hu⟩:=hu;have h1:∀dd:Nat,(Op.equalIn (dd+1) t (.pointer (some p)) (.pointer none)).run P w = .ok false w:=λdd=>by simp[Op.equalIn,run_underlying hu]
 have h2:(Op.equal t (.pointer (some p)) (.pointer none)).run P w = .ok false w:=h1 9999;have h3:(eqGuard .eql t x (.const (.pointer none)) (.pointer (some p)) (.pointer none)).run P w = .ok () w:=by unfold eqGuard;split<;>simp
 have hy:a.eval (.const (.pointer none)) = .pointer none:=rfl;simp only[execOp,ha.eval hx,hy,Sem.run_bind,h3,Result.andThen_ok,binOp,h2,Sem.run_pure]
@[reducible] def Aij (x:Int):List Rp:=[rI .i64 x]
@[reducible] def D5 (x:Int):List Rp:=[rI .u8 x]
theorem OW (x:Int):(D5 x).length=1:=rfl
theorem Xd (x:Int):(D5 x).all (·.one)=true:=rfl
@[reducible] def eS (x:Ac):List Rp:=[rS x]
theorem CK (x:Ac):(eS x).length=1:=rfl
theorem G3 (x:Ac):(eS x).all (·.one)=true:=rfl
@[reducible] def eB (x:Bool):List Rp:=[rB x]
end
section
variable (P : Program) (n : Nat) (c : Cx) (ops : Array Oper) (Q : Exit → Act → World → Prop)
def EV (l:Fr)(H:List Ent)(o:Oper)(r:Rp)(H':List Ent):Prop:=
 ∀a w Z (K:Act→World→Prop),EB n l a Z→St c H Z w→(∀v w' Z',Fz.le Z Z'→r.p Z' v→St c H' Z' w'→K (a.put o.dst v) w')→
  (Region.wanted o (yielded ops a.tmps)=true→o.wp P a w K Q)∧(Region.wanted o (yielded ops a.tmps)=false→K (a.put o.dst undef) w)
end
def AaO (l' l:Fr):Prop:=∀i v,look l' i=some v→∃q,look l i=some q∧Hx q v
theorem EB.subL {n:Nat}{a:Act}{Z:Fz}{l l':Fr}(h:EB n l a Z)(hs:AaO l' l):EB n l' a Z:=⟨h.size,h.defers,λi v hi=>by
 obtain⟨q,hq,hle⟩:=hs i v hi;obtain⟨u,hu,hp⟩:=h.tm i q hq;exact⟨u,hu,hle Z u hp⟩⟩
structure Kp (ks:List Nat) (l l':Fr):Prop where
 one:AaO l' l
 two:∀i v,look l' i=some v→ks.contains i=true
variable{ks:List Nat}
theorem RX:Kp ks [] []:=⟨λi v h=>by simp[look] at h,λi v h=>by simp[look] at h⟩
theorem Pf {l l':Fr}(h:ks.contains i=true)(t:Kp ks l l'):Kp ks ((i,r)::l) ((i,r)::l'):=by
 refine⟨λj v hj=>?_,λj v hj=>?_⟩
 ·rw[Dp] at hj ⊢
  split at hj
  ·rename_i e;rw[ApW e];simp at hj;subst hj;exact⟨r,rfl,Hx.refl r⟩
  ·rename_i e;rw[ApP e];exact t.one j v hj
 ·rw[Dp] at hj
  split at hj
  ·rename_i e;subst e;exact h
  ·exact t.two j v hj
theorem QY {l l':Fr}(h:ks.contains i=false)(t:Kp ks l l'):Kp ks ((i,r)::l) l':=by
 refine⟨λj v hj=>?_,t.two⟩;rw[Dp]
 by_cases e:i=j
 ·subst e;rw[t.two i v hj] at h;cases h
 ·rw[ApP e];exact t.one j v hj
structure Sp where
 deps:List Nat
 r:Rp
 kd:Nat
def GB (sp:List Sp)(i:Nat):Sp:=sp.getD i ⟨[],rv undef,0⟩
def Di (ops:List Oper)(i:Nat):Option Nat:=(ops[i]?).bind (·.dst)
def CT (ops:List Oper)(sp:List Sp):List Nat→Fr→Fr
 | [],l=>l
 | j::r,l=>match Di ops j with
  | some d=>(d,(GB sp j).r)::CT ops sp r l
  | none=>CT ops sp r l
def Ei (o:Oper):List Nat:=(o.after.toList.filter (Region.binds .any)).map (·.on)
def Qt:List Oper→List Nat→List Nat
 | [],acc=>acc
 | o::rest,acc=>Qt rest (acc++[(Ei o).foldl (λs e=>s||| 2 ^ e||| acc.getD e 0) 0])
def Hp (l:Fr):List Nat:=l.map (·.1)
def okB (n:Nat)(ops:List Oper)(N:Nat)(keys:List Nat)(deps:List (List Nat))(kds:List Nat):Bool:=
 let cl:=Qt ops []
 (List.range ops.length).all (λi=>(Ei (ops.getD i default)).all (·<i))&&
 (List.range N).all (λi=>match Di ops i with
  | some d=>decide (d<n)&&!keys.contains d&&(List.range N).all (λj=>j ==i||Di ops j !=some d)
  | none=>true)&&
 (List.range N).all (λi=>(deps.getD i []).all (λj=>(Ei (ops.getD i default)).contains j))&&
 (List.range N).all (λi=>kds.getD i 0 ==0||kds.getD i 0 ==3||(List.range N).all (λj=>kds.getD j 0 !=2||j ==i||(if j<i then(cl.getD i 0).testBit j else(cl.getD j 0).testBit i)))&&
 (List.range ops.length).all (λi=>i<N||(List.range N).all (λj=>(cl.getD i 0).testBit j))&&ops.length≤N+1&&kds.all (·≤3)
variable{l0 l1:Fr}{want:Bool}{op:Op}{H1:List Ent}{os:List Oper}{dj:Nat}{args:List Operand}{id:Nat}{g:Option (Nat×Bool)}{ats:Array TypeId}{pos:String}{af:Array Edge}
section
variable {P : Program} {n : Nat} {c : Cx} {opsA : Array Oper} {Q : Exit → Act → World → Prop}
theorem Jm (ops:List Oper)(F:Nat→Prop):∀(rest:List Oper) (acc:List Nat),(∀(t:Nat) o,rest[t]? =some o→∀e∈Ei o,F (acc.length+t)→F e)→
  (∀(j i:Nat),(acc.getD j 0).testBit i=true→F j→F i)→∀(j i:Nat),((Qt rest acc).getD j 0).testBit i=true→F j→F i
 | [],acc,_,h=>h
 | o::rest,acc,hr,h=>by
  unfold Qt;refine Jm ops F rest _ (λt o' ht e he hF=>hr (t+1) o' (by simpa using ht) e he (by simpa[Nat.add_assoc,Nat.add_comm 1 t] using hF)) (λj i hb hF=>?_)
  by_cases hj:j<acc.length
  ·refine h j i ?_ hF;simpa[Aqf hj] using hb
  ·by_cases hj2:j=acc.length
   ·subst hj2;simp only[Apy,List.getElem?_append_right (Ap8 _),Nat.sub_self,List.getElem?_cons_zero,ApE] at hb;have key:∀(es:List Nat) (s0:Nat),(es.foldl (λs e=>s||| 2 ^ e||| acc.getD e 0) s0).testBit i=true→s0.testBit i=true∨∃e∈es,e=i∨(acc.getD e 0).testBit i=true:=by
     intro es
     induction es with
     | nil=>intro s0 h0;exact .inl h0
     | cons e es ih=>
      intro s0 h0;rcases ih _ h0 with h1 | ⟨e',he',h1⟩
      ·simp only[Nat.testBit_or,ApD,Nat.testBit_two_pow,Apt] at h1;rcases h1 with(h1 | h1) | h1
       ·exact .inl h1
       ·exact .inr ⟨e,by simp,.inl h1⟩
       ·exact .inr ⟨e,by simp,.inr h1⟩
      ·exact .inr ⟨e',by simp[he'],h1⟩
    rcases key (Ei o) 0 hb with h0 | ⟨e,he,h1 | h1⟩
    ·simp at h0
    ·subst h1;exact hr 0 o rfl e he (by simpa using hF)
    ·exact h e i h1 (hr 0 o rfl e he (by simpa using hF))
   ·have:(acc++[(Ei o).foldl (λs e=>s||| 2 ^ e||| acc.getD e 0) 0]).getD j 0=0:=by
     rw[Apy,List.getElem?_eq_none (by simp;omega)];rfl
    rw[this] at hb;simp at hb
def Wi (P:Program)(n:Nat)(c:Cx)(opsA:Array Oper)(Q:Exit→Act→World→Prop)(ops:List Oper)(sp:List Sp)(l0:Fr)(All:List (List Ent)):Nat→List Oper→List (List Ent)→Prop
 | i,o::rest,H::H'::Hs=>
  (match (GB sp i).kd with
   | 0=>H'=H∧∀H,EV P n c opsA Q (CT ops sp (GB sp i).deps l0) H o (GB sp i).r H
   | 1=>H'=H∧EV P n c opsA Q (CT ops sp (GB sp i).deps l0) H o (GB sp i).r H
   | 3=>H'=H∧∀H∈All,EV P n c opsA Q (CT ops sp (GB sp i).deps l0) H o (GB sp i).r H
   | _=>EV P n c opsA Q (CT ops sp (GB sp i).deps l0) H o (GB sp i).r H')∧Wi P n c opsA Q ops sp l0 All (i+1) rest (H'::Hs)
 | _,[],[_]=>True
 | _,_,_=>False
theorem Wi.at {ops:List Oper}{sp:List Sp}{l0:Fr}{All:List (List Ent)}:∀{k:Nat} {rest:List Oper} {Hs:List (List Ent)},Wi P n c opsA Q ops sp l0 All k rest Hs→Hs.length=rest.length+1∧∀(t:Nat) o,rest[t]? =some o→
  (match (GB sp (k+t)).kd with
   | 0=>Hs.getD (t+1) []=Hs.getD t []∧∀H,EV P n c opsA Q (CT ops sp (GB sp (k+t)).deps l0) H o (GB sp (k+t)).r H
   | 1=>Hs.getD (t+1) []=Hs.getD t []∧EV P n c opsA Q (CT ops sp (GB sp (k+t)).deps l0) (Hs.getD t []) o (GB sp (k+t)).r (Hs.getD t [])
   | 3=>Hs.getD (t+1) []=Hs.getD t []∧∀H∈All,EV P n c opsA Q (CT ops sp (GB sp (k+t)).deps l0) H o (GB sp (k+t)).r H
   | _=>EV P n c opsA Q (CT ops sp (GB sp (k+t)).deps l0) (Hs.getD t []) o (GB sp (k+t)).r (Hs.getD (t+1) []))
 | k,o::rest,H::H'::Hs,⟨h1,h2⟩=>by
  obtain⟨hl,ih⟩:=Wi.at h2;refine⟨by simp at hl ⊢;omega,λt o' ht=>?_⟩
  cases t with
  | zero=>simp at ht;subst ht;simpa using h1
  | succ t=>
   have:=ih t o' (by simpa using ht);rw[show k+(t+1)=k+1+t from by omega];simpa using this
 | _,[],[_],_=>⟨rfl,λt o h=>by simp at h⟩
theorem NV:∀{l:Fr} {i:Nat} {r:Rp},look l i=some r→i∈Hp l
 | [],i,r,h=>by simp[look] at h
 | p::l,i,r,h=>by
  obtain⟨j,u⟩:=p;rw[Dp] at h
  split at h
  ·rename_i e;subst e;simp[Hp]
  ·simp only[Hp,Aqj,Aqb];exact .inr (NV h)
theorem OY {ops:List Oper}{sp:List Sp}{l0:Fr}{a:Act}{Z:Fz}(h0:EB n l0 a Z):∀{ds:List Nat},(∀j∈ds,∀d,Di ops j=some d→∃v,a.tmps[d]? =some v∧(GB sp j).r.p Z v)→EB n (CT ops sp ds l0) a Z
 | [],_=>h0
 | j::ds,h=>by
  have ih:=OY h0 (ds:=ds) (λj' hj'=>h j' (by simp[hj']));unfold CT
  cases hd:Di ops j with
  | none=>exact ih
  | some d=>
   refine⟨ih.size,ih.defers,λi r hi=>?_⟩;rw[Dp] at hi
   split at hi
   ·rename_i e;subst e;simp at hi;subst hi;exact h j (by simp) d hd
   ·exact ih.tm i r hi
theorem SK {pre last:List Oper}(sp:List Sp)(Hs:List (List Ent)){l:Fr}(hm:P.follows .mixedOrders=true)
  (hB:okB n (pre++last) pre.length (Hp l0) (sp.map (·.deps)) (sp.map (·.kd))=true) (hl0:AaO l0 l) (hsp:sp.length=pre.length) (hH:Hs.getD 0 []=H)
  (hob:Wi P n c (pre++last).toArray Q (pre++last) sp l0 Hs 0 pre Hs)
  (h:WL P n c (pre++last).toArray Q last (CT (pre++last) sp (List.range pre.length) l0) (Hs.getD pre.length [])):WC P n c (.region id (pre++last).toArray true) Q l H:=by
 intro a w Z ha hw;generalize hops:pre++last=ops at *;obtain⟨hHl,hat⟩:=hob.at;simp only[okB,Aps,ApV,List.mem_range,Apt] at hB;obtain⟨⟨⟨⟨⟨⟨b1,b2⟩,b3⟩,b4⟩,b5⟩,b6⟩,b7⟩:=hB;have hN:pre.length≤ops.length:=by rw[← hops];simp
 have hget:∀i,i<pre.length→ops[i]? =pre[i]?:=λi hi=>by rw[← hops,Aqf hi]
 have hkd:∀i,i<pre.length→(sp.map (·.kd)).getD i 0=(GB sp i).kd:=λi hi=>by
  simp[GB,Apy,ApI,Apw (show i<sp.length by omega)]
 have hdp:∀i,i<pre.length→(sp.map (·.deps)).getD i []=(GB sp i).deps:=λi hi=>by
  simp[GB,Apy,ApI,Apw (show i<sp.length by omega)]
 have hconst:∀(k b:Nat),b+k≤pre.length→(∀j,b≤j→j<b+k→(GB sp j).kd≠2)→Hs.getD (b+k) []=Hs.getD b []:=by
  intro k
  induction k with
  | zero=>intro b _ _;rfl
  | succ k ih=>
   intro b hb hj;have hlt:b+k<pre.length:=by omega
   have h1:=hat (b+k) pre[b+k] (Apw hlt);rw[ApQ] at h1;have hk2:(GB sp (b+k)).kd≤3:=by
    have:=b7 ((sp.map (·.kd)).getD (b+k) 0) (by
     rw[Apy,Apw (by simp;omega)];exact List.getElem_mem _)
    rw[hkd _ hlt] at this;exact this
   have hne:=hj (b+k) (by omega) (by omega);have e1:Hs.getD (b+k+1) []=Hs.getD (b+k) []:=by
    match hq:(GB sp (b+k)).kd,h1 with
    | 0,h1=>exact h1.1
    | 1,h1=>exact h1.1
    | 2,_=>exact absurd hq hne
    | 3,h1=>exact h1.1
    | q+4,_=>omega
   rw[show b+(k+1)=b+k+1 from by omega,e1];exact ih b (by omega) (λj h1 h2=>hj j h1 (by omega))
 refine wp_region_any hm ?_;have main:∀(fuel:Nat) (listed:Array Bool) (a:Act) (w:World) (Z:Fz) (m:Nat),listed.size=ops.length→listed.toList.count false=fuel→m≤pre.length→
   St c (Hs.getD m []) Z w→EB n l0 a Z→(∀j,j<pre.length→listed.getD j true=true→∀d,Di ops j=some d→∃v,a.tmps[d]? =some v∧(GB sp j).r.p Z v)→
   (∀j,j<pre.length→(GB sp j).kd=2→(listed.getD j true=true↔j<m))→(∀j o,ops[j]? =some o→listed.getD j true=true→∀e∈Ei o,listed.getD e true=true)→
   (∀j,pre.length≤j→j<ops.length→listed.getD j true=false)→wpAny P .any ops.toArray Q fuel listed a w:=by
  have rdy:∀(listed:Array Bool),listed.size=ops.length→Region.ready .any ops.toArray listed=[]→∀j,j<ops.length→listed.getD j true=true:=by
   intro listed hsz hr j
   induction j using Nat.strongRecOn with
   | ind j ih=>
    intro hj
    cases hb:listed.getD j true with
    | true=>rfl
    | false=>
     have:j∈Region.ready .any ops.toArray listed:=mem_ready.2 ⟨hb,ops[j],by simp[hj],λe he hbn=>by
      have h1:=b1 j hj;rw[Apy,Apw hj] at h1;have hlt:e.on<j:=h1 e.on (by
       simp only[Ei,ApE,List.mem_map,List.mem_filter];exact⟨e,⟨by simpa using he,hbn⟩,rfl⟩)
      have:=ih e.on hlt (by omega);rw[Array.getD_eq_getD_getElem?] at this ⊢;rw[Array.getElem?_eq_getElem (by omega)] at this ⊢;simpa using this⟩
     rw[hr] at this;cases this
  have fin:∀(listed:Array Bool) (a:Act) (w:World) (Z:Fz) (m:Nat),listed.size=ops.length→m≤pre.length→St c (Hs.getD m []) Z w→EB n l0 a Z→(∀j,j<pre.length→listed.getD j true=true)→
    (∀j,j<pre.length→listed.getD j true=true→∀d,Di ops j=some d→∃v,a.tmps[d]? =some v∧(GB sp j).r.p Z v)→
    (∀j,j<pre.length→(GB sp j).kd=2→(listed.getD j true=true↔j<m))→wpList P ops.toArray Q last a w:=by
   intro listed a w Z m hsz hmN hst hag hall hv hloud;refine h a w Z (OY hag (λj hj d hd=>hv j (by simpa using hj) (hall j (by simpa using hj)) d hd)) ?_;have:=hconst (pre.length-m) m (by omega) (λj h1 h2 h3=>by
    have:=(hloud j (by omega) h3).1 (hall j (by omega));omega)
   rw[show m+(pre.length-m)=pre.length from by omega] at this;rw[this];exact hst
  intro fuel
  induction fuel with
  | zero=>
   intro listed a w Z m hsz hcnt hmN hst hag hv hloud hcl hlast;have hall:∀j,j<ops.length→listed.getD j true=true:=λj hj=>by
    cases hb:listed.getD j true with
    | true=>rfl
    | false=>
     have:false∈listed.toList:=by
      rw[Array.getD_eq_getD_getElem?,Array.getElem?_eq_getElem (by omega)] at hb;simp at hb;rw[← hb];simp
     have:=List.count_pos_iff.2 this;omega
   have hl0':last=[]:=by
    cases last with
    | nil=>rfl
    | cons o r=>
     have hlt:pre.length<ops.length:=by rw[← hops];simp
     have:=hall pre.length hlt;rw[hlast pre.length (Ap8 _) hlt] at this;cases this
   subst hl0';refine⟨?_,fin listed a w Z m hsz hmN hst hag (λj hj=>hall j (by omega)) hv hloud⟩
   cases hr:Region.ready .any ops.toArray listed with
   | nil=>rfl
   | cons i r=>
    have hi:i∈Region.ready .any ops.toArray listed:=by rw[hr];simp
    obtain⟨h1,o,ho,_⟩:=mem_ready.1 hi;rw[hall i (by have:=(Array.getElem?_eq_some_iff.1 ho).1;simpa using this)] at h1;cases h1
  | succ fuel ih=>
   intro listed a w Z m hsz hcnt hmN hst hag hv hloud hcl hlast;have clo:∀(j i:Nat),((Qt ops []).getD j 0).testBit i=true→listed.getD j true=true→listed.getD i true=true:=
    Jm ops (λi=>listed.getD i true=true) ops [] (λt o ht e he hF=>hcl t o ht (by simpa using hF) e he) (λj i hb=>by simp at hb)
   refine⟨λhr=>?_,λi hi=>?_⟩
   ·have hall:=rdy listed hsz hr;have:listed.toList.count false=0:=by
     rw[List.count_eq_zero];intro hmem;obtain⟨k,hk⟩:=List.getElem?_of_mem hmem;have hkl:=(List.getElem?_eq_some_iff.1 hk).1;have:=hall k (by simpa[hsz] using hkl);rw[Array.getD_eq_getD_getElem?] at this;simp at hk this;rw[hk] at this;simp at this
    omega
   ·obtain⟨hun,o,ho,haft⟩:=mem_ready.1 hi;have ho':ops[i]? =some o:=by simpa using ho
    have hil:i<ops.length:=(List.getElem?_eq_some_iff.1 ho').1;have hbl:∀e∈Ei o,listed.getD e true=true:=λe he=>by
     simp only[Ei,List.mem_map,List.mem_filter] at he;obtain⟨x,⟨hx1,hx2⟩,rfl⟩:=he;have h3:=haft x (by simpa using hx1) hx2;rw[Array.getD_eq_getD_getElem?] at h3 ⊢
     cases hq:listed[x.on]? with
     | none=>rw[hq] at h3;cases h3
     | some b=>rw[hq] at h3;simpa using h3
    have hset:∀j,(listed.setIfInBounds i true).getD j true=true↔(j=i∨listed.getD j true=true):=λj=>by
     by_cases hj:i=j
     ·subst hj;have:i<listed.size:=by omega
      simp[this]
     ·rw[getD_set_ne true hj];constructor
      ·exact .inr
      ·rintro(h1 | h1)
       ·exact absurd h1.symm hj
       ·exact h1
    have hsz':(listed.setIfInBounds i true).size=ops.length:=by simpa using hsz
    have hcnt':(listed.setIfInBounds i true).toList.count false=fuel:=by
     have hlt:i<listed.size:=by omega
     have hfi:listed.toList[i]? =some false:=by
      rw[Array.getD_eq_getD_getElem?,Array.getElem?_eq_getElem hlt] at hun;simp at hun;simp[hlt,hun]
     rw[Array.toList_setIfInBounds];have h1:=List.count_set (a:=true) (b:=false) (l:=listed.toList) (i:=i) (by simpa using hlt);have h2:listed.toList[i]'(by simpa using hlt)=false:=by
      have:=List.getElem?_eq_some_iff.1 hfi;exact this.2
     rw[h1,h2,hcnt];rfl
    have hcl':∀j o,ops[j]? =some o→(listed.setIfInBounds i true).getD j true=true→∀e∈Ei o,(listed.setIfInBounds i true).getD e true=true:=λj o' hj hl e he=>by
     rw[hset] at hl ⊢;rcases hl with rfl | hl
     ·rw[ho'] at hj;simp at hj;subst hj;exact .inr (hbl e he)
     ·exact .inr (hcl j o' hj hl e he)
    unfold wpOp;have hoA:ops.toArray[i]? =some o:=ho;simp only[hoA]
    by_cases hiN:i<pre.length
    · -- one of those at the front
     have hpre:pre[i]? =some o:=by rw[← hget i hiN];exact ho'
     have h1:=hat i o hpre;rw[ApQ] at h1;have hag':EB n (CT ops sp (GB sp i).deps l0) a Z:=OY hag (λj hj d hd=>by
      have h3:=b3 i hiN;rw[hdp i hiN] at h3;have h4:=h3 j hj;rw[Apy,ho',ApE,List.contains_iff_mem] at h4;have hlj:=hbl j h4;have hji:j<i:=by
       have:=b1 i hil;rw[Apy,ho',ApE] at this;exact this j h4
      exact hv j (by omega) hlj d hd)
     have hdst:∀d,o.dst=some d→(d<n∧d ∉ Hp l0)∧∀j,j<pre.length→j≠i→Di ops j≠some d:=λd hd=>by
      have h3:=b2 i hiN;have:Di ops i=some d:=by simp[Di,ho',hd]
      rw[this] at h3;simp only[Aps,Ap6,ApV,List.mem_range,Apt] at h3;refine⟨⟨h3.1.1,λhmem=>by rw[← List.contains_iff_mem] at hmem;rw[hmem] at h3;cases h3.1.2⟩,λj hj hne he=>?_⟩;have:=h3.2 j hj;simp[hne,he] at this
     have after:∀(v:Value) (w':World) (Z':Fz) (m':Nat),m'≤pre.length→Fz.le Z Z'→(o.dst≠none→(GB sp i).r.p Z' v)→St c (Hs.getD m' []) Z' w'→
       (∀j,j<pre.length→(GB sp j).kd=2→((listed.setIfInBounds i true).getD j true=true↔j<m'))→wpAny P .any ops.toArray Q fuel (listed.setIfInBounds i true) (a.put o.dst v) w':=by
      intro v w' Z' m' hm' hz hp hst' hloud';have hput:∀k u,a.tmps[k]? =some u→o.dst≠some k→(a.put o.dst v).tmps[k]? =some u:=λk u hk hne=>by
       cases hd:o.dst with
       | none=>simpa[Act.put] using hk
       | some d=>
        simp only[Act.put,Array.getElem?_setIfInBounds];rw[ApP (λe=>hne (by rw[hd,e]))];exact hk
      refine ih _ _ _ Z' m' hsz' hcnt' hm' hst' ⟨?_,?_,λk r hk=>?_⟩ (λj hj hl d hd=>?_) hloud' hcl' (λj h1 h2=>?_)
      ·cases o.dst<;>simp[Act.put,hag.size]
      ·cases o.dst<;>simp[Act.put,hag.defers]
      ·obtain⟨u,hu,hpu⟩:=hag.tm k r hk;exact⟨u,hput k u hu (λe=>(hdst k e).1.2 (NV hk)),r.mono hz hpu⟩
      ·by_cases hji:j=i
       ·subst hji;have hod:o.dst=some d:=by simpa[Di,ho'] using hd
        refine⟨v,?_,hp (by simp[hod])⟩;have hdn:d<a.tmps.size:=by rw[hag.size];exact(hdst d hod).1.1
        simp[Act.put,hod,hdn]
       ·rw[hset] at hl;rcases hl with hl | hl
        ·exact absurd hl hji
        ·obtain⟨u,hu,hpu⟩:=hv j hj hl d hd;exact⟨u,hput d u hu (λe=>(hdst d e).2 j hj hji hd),(GB sp j).r.mono hz hpu⟩
      ·rw[getD_set_ne true (by omega)];exact hlast j h1 h2
     have loudSame:(GB sp i).kd≠2→∀j,j<pre.length→(GB sp j).kd=2→((listed.setIfInBounds i true).getD j true=true↔j<m):=λhne j hj hk=>by
      rw[hset,← hloud j hj hk];constructor
      ·rintro(h1 | h1)
       ·subst h1;exact absurd hk hne
       ·exact h1
      ·exact .inr
     have level:(GB sp i).kd≠0∧(GB sp i).kd≠3→Hs.getD i []=Hs.getD m []∧∀j,j<pre.length→(GB sp j).kd=2→j≠i→(listed.getD j true=true↔j<i):=λhne=>by
      have ord:∀j,j<pre.length→(GB sp j).kd=2→j≠i→(listed.getD j true=true↔j<i):=λj hj hk hji=>by
       have h3:=b4 i hiN;rw[hkd i hiN,ApD,ApD,beq_iff_eq,beq_iff_eq] at h3;rcases h3 with(h3 | h3) | h3
       ·exact absurd h3 hne.1
       ·exact absurd h3 hne.2
       ·rw[ApV] at h3;have h4:=h3 j (by simpa using hj);rw[hkd j hj,hk] at h4;simp only[bne_self_eq_false,ApJ,ApD,beq_iff_eq,hji,false_or] at h4
        by_cases hlt:j<i
        ·rw[ApW hlt] at h4;have:listed.getD j true=true:=by
          have hcl2:∀(k q:Nat),((Qt ops []).getD k 0).testBit q=true→(k=i∨listed.getD k true=true)→(q=i∨listed.getD q true=true):=
           Jm ops (λk=>k=i∨listed.getD k true=true) ops [] (λt o' ht e he hF=>by
            rcases hF with hF | hF
            ·simp at hF;subst hF;rw[ho'] at ht;simp at ht;subst ht;exact .inr (hbl e he)
            ·exact .inr (hcl t o' ht (by simpa using hF) e he)) (λj i hb=>by simp at hb)
          rcases hcl2 i j h4 (.inl rfl) with h5 | h5
          ·exact absurd h5 hji
          ·exact h5
         exact⟨λ_=>hlt,λ_=>this⟩
        ·rw[ApP hlt] at h4;refine⟨λh5=>?_,λh5=>absurd h5 hlt⟩;have:=clo j i h4 h5;rw[this] at hun;cases hun
      refine⟨?_,ord⟩;rcases Nat.le_total m i with hmi | hmi
      ·have:=hconst (i-m) m (by omega) (λj h1 h2 h3=>by
        have h4:=(ord j (by omega) h3 (by omega)).2 (by omega);have:=(hloud j (by omega) h3).1 h4;omega)
       rw[show m+(i-m)=i from by omega] at this;exact this
      ·have:=hconst (m-i) i (by omega) (λj h1 h2 h3=>by
        have h4:=(hloud j (by omega) h3).2 (by omega)
        by_cases hji:j=i
        ·subst hji;rw[h4] at hun;cases hun
        ·have:=(ord j (by omega) h3 hji).1 h4;omega)
       rw[show i+(m-i)=m from by omega] at this;exact this.symm
     have step:∀H',EV P n c ops.toArray Q (CT ops sp (GB sp i).deps l0) (Hs.getD m []) o (GB sp i).r H'→(∃m',m'≤pre.length∧H'=Hs.getD m' []∧∀j,j<pre.length→(GB sp j).kd=2→((listed.setIfInBounds i true).getD j true=true↔j<m'))→
       (if Region.wanted o (yielded ops.toArray a.tmps) then o.wp P a w (wpAny P .any ops.toArray Q fuel (listed.setIfInBounds i true)) Q∨(o.asks P a w∧LetsOut Q) else wpAny P .any ops.toArray Q fuel (listed.setIfInBounds i true) (a.put o.dst undef) w):=λH' hok ⟨m',hm',hHm,hl'⟩=>by
      obtain⟨k1,k2⟩:=hok a w Z (wpAny P .any ops.toArray Q fuel (listed.setIfInBounds i true)) hag' hst (λv w' Z' hz hp hs=>after v w' Z' m' hm' hz (λ_=>hp) (by rw[← hHm];exact hs) hl')
      split
      ·rename_i hw';exact .inl (k1 hw')
      ·rename_i hw';exact k2 (by simpa using hw')
     have hk2:(GB sp i).kd≤3:=by
      have:=b7 ((sp.map (·.kd)).getD i 0) (by
       rw[Apy,Apw (by simp;omega)];exact List.getElem_mem _)
      rw[hkd _ hiN] at this;exact this
     match hq:(GB sp i).kd,h1 with
     | 0,h1=>exact step _ (h1.2 _) ⟨m,hmN,rfl,loudSame (by omega)⟩
     | 1,h1=>
      obtain⟨e1,e2⟩:=level ⟨by omega,by omega⟩;refine step _ (by rw[← e1];exact h1.2) ⟨m,hmN,e1,loudSame (by omega)⟩
     | 2,h1=>
      obtain⟨e1,e2⟩:=level ⟨by omega,by omega⟩;refine step _ (by rw[← e1];exact h1) ⟨i+1,by omega,rfl,λj hj hk=>?_⟩;rw[hset]
      by_cases hji:j=i
      ·subst hji;simp
      ·rw[e2 j hj hk hji];simp[hji];omega
     | 3,h1=>exact step _ (h1.2 _ (by
      rw[Apy,Apw (by omega)];exact List.getElem_mem _)) ⟨m,hmN,rfl,loudSame (by omega)⟩
     | q+4,_=>omega
    · -- the last one
     have hNi:i=pre.length:=by omega
     have hlast1:∃r,last=o::r:=by
      cases last with
      | nil=>rw[← hops] at hil;simp at hil;omega
      | cons o' r=>
       rw[← hops,hNi] at ho';simp at ho';exact⟨r,by rw[ho']⟩
     obtain⟨r,rfl⟩:=hlast1;have hr:r=[]:=by
      have:=b6;rw[← hops] at this;simp at this
      cases r with
      | nil=>rfl
      | cons _ _=>simp at this
     subst hr;have hall:∀j,j<pre.length→listed.getD j true=true:=λj hj=>by
      have hcl2:∀(k q:Nat),((Qt ops []).getD k 0).testBit q=true→(k=i∨listed.getD k true=true)→(q=i∨listed.getD q true=true):=
       Jm ops (λk=>k=i∨listed.getD k true=true) ops [] (λt o' ht e he hF=>by
        rcases hF with hF | hF
        ·simp at hF;subst hF;rw[ho'] at ht;simp at ht;subst ht;exact .inr (hbl e he)
        ·exact .inr (hcl t o' ht (by simpa using hF) e he)) (λj i hb=>by simp at hb)
      have h5:=b5 i hil;simp only[ApD,Apt,ApV,List.mem_range] at h5;rcases h5 with h5 | h5
      ·omega
      ·rcases hcl2 i j (h5 j hj) (.inl rfl) with h6 | h6
       ·omega
       ·exact h6
     have hf:=fin listed a w Z m hsz hmN hst hag hall hv hloud;have kk:∀a' w',Q .normal a' w'→wpAny P .any ops.toArray Q fuel (listed.setIfInBounds i true) a' w':=λa' w' hq=>by
      have hall':∀j,j<ops.length→(listed.setIfInBounds i true).getD j true=true:=λj hj=>by
       rw[hset]
       by_cases hji:j=i
       ·exact .inl hji
       ·refine .inr (hall j ?_);have:ops.length=pre.length+1:=by rw[← hops];simp
        omega
      have hnr:Region.ready .any ops.toArray (listed.setIfInBounds i true)=[]:=by
       cases hr:Region.ready .any ops.toArray (listed.setIfInBounds i true) with
       | nil=>rfl
       | cons k r=>
        have hk:k∈Region.ready .any ops.toArray (listed.setIfInBounds i true):=by rw[hr];simp
        obtain⟨h1,o2,ho2,_⟩:=mem_ready.1 hk;rw[hall' k (by have:=(Array.getElem?_eq_some_iff.1 ho2).1;simpa using this)] at h1;cases h1
      cases fuel with
      | zero=>exact⟨hnr,hq⟩
      | succ f=>exact⟨λ_=>hq,λk hk=>by rw[hnr] at hk;cases hk⟩
     simp only[wpList] at hf
     split
     ·rename_i hw'
      rw[ApW hw'] at hf;exact hf.imp (λh=>Oper.wp_mono kk h) (λh=>h)
     ·rename_i hw'
      rw[ApP hw'] at hf;exact kk _ _ hf
 have e0:∀j,j<ops.length→(Array.replicate ops.length false).getD j true=false:=λj hj=>by simp[hj]
 have hsz0:ops.toArray.size=ops.length:=by simp
 rw[hsz0];refine main ops.length (Array.replicate ops.length false) a _ Z 0 (by simp) (by simp) (ApY _) (by rw[hH];exact hw.drawn _) (ha.subL hl0) (λj hj hl=>?_) (λj hj _=>?_) (λj o hj hl=>?_) (λj _ h2=>e0 j h2)
 ·rw[e0 j (by omega)] at hl;cases hl
 ·rw[e0 j (by omega)];simp
 ·rw[e0 j (List.getElem?_eq_some_iff.1 hj).1] at hl;cases hl
section
variable {ops : List Oper} {sp : List Sp} {l0 l : Fr} {H H' : List Ent} {Hs All : List (List Ent)} {i : Nat} {o : Oper} {rest all : List Oper}
theorem LT (hk:(GB sp i).kd=0)(h:∀H,EV P n c opsA Q (CT all sp (GB sp i).deps l0) H o (GB sp i).r H)(hr:Wi P n c opsA Q all sp l0 All (i+1) rest (H::Hs)):Wi P n c opsA Q all sp l0 All i (o::rest) (H::H::Hs):=by
 refine⟨?_,hr⟩;rw[hk];exact⟨rfl,h⟩
theorem Amy (hk:(GB sp i).kd=1)(h:EV P n c opsA Q (CT all sp (GB sp i).deps l0) H o (GB sp i).r H)(hr:Wi P n c opsA Q all sp l0 All (i+1) rest (H::Hs)):Wi P n c opsA Q all sp l0 All i (o::rest) (H::H::Hs):=by
 refine⟨?_,hr⟩;rw[hk];exact⟨rfl,h⟩
theorem Gu (hk:(GB sp i).kd=2)(h:EV P n c opsA Q (CT all sp (GB sp i).deps l0) H o (GB sp i).r H')(hr:Wi P n c opsA Q all sp l0 All (i+1) rest (H'::Hs)):Wi P n c opsA Q all sp l0 All i (o::rest) (H::H'::Hs):=by
 refine⟨?_,hr⟩;rw[hk];exact h
theorem E8:Wi P n c opsA Q all sp l0 All i [] [H]:=trivial
theorem all_nil {p:List Ent→Prop}:∀H∈rle [],p H:=λ_ h=>by cases h
theorem all_cons {p:List Ent→Prop}{k:Nat}{A:List Ent}{l:List (Nat×List Ent)}(h:p A)(hr:∀H∈rle l,p H):∀H∈rle ((k,A)::l),p H:=λH hH=>by
 rcases List.mem_append.1 hH with h' | h'
 ·rw[List.eq_of_mem_replicate h'];exact h
 ·exact hr H h'
theorem ZH (hk:(GB sp i).kd=3)(h:∀H∈All,EV P n c opsA Q (CT all sp (GB sp i).deps l0) H o (GB sp i).r H)(hr:Wi P n c opsA Q all sp l0 All (i+1) rest (H::Hs)):Wi P n c opsA Q all sp l0 All i (o::rest) (H::H::Hs):=by
 refine⟨?_,hr⟩;rw[hk];exact⟨rfl,h⟩
def SD:List Oper→List Sp→Fr→Fr
 | o::os,s::sp,l=>match o.dst with
  | some d=>(d,s.r)::SD os sp l
  | none=>SD os sp l
 | _,_,l=>l
theorem YA {all:List Oper}{sp:List Sp}{l0:Fr}:∀(os:List Oper) (ss:List Sp) (k:Nat),os=all.drop k→ss=sp.drop k→ss.length=os.length→CT all sp (List.range' k os.length) l0=SD os ss l0
 | [],_,_,_,_,_=>by cases ‹List Sp›<;>rfl
 | o::os,[],_,_,_,h=>by simp at h
 | o::os,s::ss,k,ho,hs,h=>by
  have e1:all[k]? =some o:=by
   have:=congrArg (·[0]?) ho;simp at this;exact this.symm
  have e2:sp[k]? =some s:=by
   have:=congrArg (·[0]?) hs;simp at this;exact this.symm
  have ih:=YA (l0:=l0) os ss (k+1) (by have:=congrArg List.tail ho;simpa using this) (by have:=congrArg List.tail hs;simpa using this) (by simpa using h);simp only[Ap2,List.range'_succ];unfold CT SD;rw[ih];simp only[Di,GB,e1,e2,Option.bind_some,Apy,ApE]
  cases o.dst<;>rfl
structure Kz (ks:List Nat) (os:List Oper) (sp:List Sp) (l0 l1:Fr):Prop where
 go:Kp ks (SD os sp l0) l1
theorem Al4 {d:Nat}{ty:TypeId}{ds:List Nat}{kd:Nat}{sp:List Sp}{l0:Fr}(h:ks.contains d=true)(t:Kz ks os sp l0 l1) :
  Kz ks ({ dst:=some d,op:=op,type:=ty,pos:=pos,after:=af,guard:=g }::os) (⟨ds,r,kd⟩::sp) l0 ((d,r)::l1):=⟨Pf h t.go⟩
theorem Al6 {d:Nat}{ty:TypeId}{ds:List Nat}{kd:Nat}{sp:List Sp}{l0:Fr}(h:ks.contains d=false)(t:Kz ks os sp l0 l1) :
  Kz ks ({ dst:=some d,op:=op,type:=ty,pos:=pos,after:=af,guard:=g }::os) (⟨ds,r,kd⟩::sp) l0 l1:=⟨QY h t.go⟩
theorem Al5 {ty:TypeId}{s:Sp}{sp:List Sp}{l0:Fr}(t:Kz ks os sp l0 l1) :
  Kz ks ({ dst:=none,op:=op,type:=ty,pos:=pos,after:=af,guard:=g }::os) (s::sp) l0 l1:=⟨t.go⟩
theorem Al7 {l0:Fr}(t:Kp ks l0 l1):Kz ks [] [] l0 l1:=⟨t⟩
theorem GK {l0:Fr}(ks0:List Nat)(sp:List Sp)(Hs:List (List Ent))(ks:List Nat)
  (hob:Wi P n c os.toArray Q os sp l0 Hs 0 os Hs) (h:WK n c (Q .normal) l1 H1)
  (h0:Kp ks0 l l0:=by repeat (first | exact RX | (apply Pf;rfl) | (apply QY;rfl)))
  (hz:Kz ks os sp l0 l1:=by repeat (first | (apply Al4;rfl) | (apply Al6;rfl) | apply Al5 | apply Al7 | exact RX | (apply Pf;rfl) | (apply QY;rfl)))
  (hm:P.follows .mixedOrders=true:=by kernel_rfl) (hB:okB n os os.length (Hp l0) (sp.map (·.deps)) (sp.map (·.kd))=true:=by kernel_rfl)
  (hsp:sp.length=os.length:=by rfl) (hH:Hs.getD 0 []=H:=by rfl) (hH1:Hs.getD os.length []=H1:=by rfl):WC P n c (.region id os.toArray true) Q l H:=by
 have hk:WK n c (Q .normal) (CT os sp (List.range os.length) l0) (Hs.getD os.length []):=λa w Z ha hw=>h a w Z (ha.subL (by
   have e:=YA (all:=os) (sp:=sp) (l0:=l0) os sp 0 (by simp) (by simp) hsp;rw[List.range_eq_range',e];exact hz.go.one)) (by rw[← hH1];exact hw)
 have:=SK (Q:=Q) (id:=id) (pre:=os) (last:=[]) sp Hs (l0:=l0) (l:=l) (H:=H) hm (by simpa using hB) h0.one hsp hH (by simpa using hob) (Az (by simpa using hk));simpa using this
theorem GT {l0:Fr}(N:Nat)(ks0:List Nat)(sp:List Sp)(Hs:List (List Ent))(ks:List Nat)
  (hob:Wi P n c os.toArray Q os sp l0 Hs 0 (os.take N) Hs) (h:WL P n c os.toArray Q (os.drop N) l1 H1)
  (h0:Kp ks0 l l0:=by repeat (first | exact RX | (apply Pf;rfl) | (apply QY;rfl)))
  (hz:Kz ks (os.take N) sp l0 l1:=by repeat (first | (apply Al4;rfl) | (apply Al6;rfl) | apply Al5 | apply Al7 | exact RX | (apply Pf;rfl) | (apply QY;rfl)))
  (hm:P.follows .mixedOrders=true:=by kernel_rfl) (hN:Nat.ble N os.length=true:=by rfl) (hB:okB n os N (Hp l0) (sp.map (·.deps)) (sp.map (·.kd))=true:=by kernel_rfl)
  (hsp:sp.length=N:=by rfl) (hH:Hs.getD 0 []=H:=by rfl) (hH1:Hs.getD N []=H1:=by rfl):WC P n c (.region id os.toArray true) Q l H:=by
 have hN':N≤os.length:=by simpa using hN
 have hl:(os.take N).length=N:=by simp[hN']
 have hk:WL P n c os.toArray Q (os.drop N) (CT os sp (List.range N) l0) (Hs.getD N []):=λa w Z ha hw=>h a w Z (ha.subL (by
  have key:∀M,M≤N→CT os sp (List.range' (N-M) M) l0=SD ((os.take N).drop (N-M)) (sp.drop (N-M)) l0:=by
   intro M
   induction M with
   | zero=>intro _;simp[hsp,CT,SD,List.drop_of_length_le,hl]
   | succ M ih=>
    intro hM;have ih:=ih (by omega);have e1:(os.take N).drop (N-(M+1))=(os[N-(M+1)]'(by omega))::(os.take N).drop (N-M):=by
     rw[List.drop_eq_getElem_cons (by omega)];simp[show N-(M+1)+1=N-M from by omega]
    have e2:sp.drop (N-(M+1))=(sp[N-(M+1)]'(by omega))::sp.drop (N-M):=by
     rw[List.drop_eq_getElem_cons (by omega)];simp[show N-(M+1)+1=N-M from by omega]
    rw[List.range'_succ,show N-(M+1)+1=N-M from by omega,e1,e2];unfold CT SD;rw[ih];simp only[Di,GB,Apy,Apw (show N-(M+1)<os.length from by omega),Apw (show N-(M+1)<sp.length from by omega),Option.bind_some,ApE]
    cases(os[N-(M+1)]'(by omega)).dst<;>rfl
  have:=key N (Ap8 _);simp only[Nat.sub_self,List.drop_zero] at this;rw[List.range_eq_range',this];exact hz.go.one)) (by rw[← hH1];exact hw)
 have:=SK (P:=P) (n:=n) (c:=c) (Q:=Q) (id:=id) (pre:=os.take N) (last:=os.drop N) sp Hs (l0:=l0) (l:=l) (H:=H) hm (by rw[Aqk,hl];exact hB) h0.one (by rw[hl];exact hsp) hH (by rw[Aqk];exact hob) (by rw[Aqk,hl];exact hk)
 rwa [Aqk] at this
end
section
variable {l : Fr} {H H' : List Ent} {d : Nat} {op : Op} {ty : TypeId} {pos : String} {af : Array Edge} {r : Rp}
theorem CP (hr:Cd P n c l H { dst:=some d,op:=op,type:=ty,pos:=pos,after:=af,guard:=none } r):EV P n c opsA Q l H { dst:=some d,op:=op,type:=ty,pos:=pos,after:=af,guard:=none } r H:=λa w Z K ha hw hK=>
 ⟨λ_=>by
  obtain⟨v,hv,he⟩:=hr a w Z ha hw;unfold Oper.wp;rw[he];exact hK v w Z (Fz.le.refl _) hv hw,λh=>by simp[Region.wanted] at h⟩
theorem Ak8 {d:Option Nat}{b:Bool}(hj:Ed opsA j=some dj)(hv:look l dj=some (rB b))(hb:b=want)
  (h:EV P n c opsA Q l H { dst:=d,op:=op,type:=ty,pos:=pos,after:=af,guard:=none } r H'):EV P n c opsA Q l H { dst:=d,op:=op,type:=ty,pos:=pos,after:=af,guard:=some (j,want) } r H':=λa w Z K ha hw hK=>by
 obtain⟨h1,_⟩:=h a w Z K ha hw hK;have hy:=Gv ha hj hv;subst hb;refine⟨λ_=>h1 (by simp[Region.wanted]),λh2=>?_⟩;simp[Region.wanted,hy] at h2
theorem Alo {d:Option Nat}{b:Bool}(hj:Ed opsA j=some dj)(hv:look l dj=some (rB b))(hb:b = !want):EV P n c opsA Q l H { dst:=d,op:=op,type:=ty,pos:=pos,after:=af,guard:=some (j,want) } (rv undef) H:=λa w Z K ha hw hK=>by
 have hy:=Gv ha hj hv;subst hb;refine⟨λh2=>?_,λ_=>hK undef w Z (Fz.le.refl _) rfl hw⟩;simp[Region.wanted,hy] at h2
theorem AgZ {d:Option Nat}(hj:Ed opsA j=some dj)(hv:look l dj=some (rv undef)):EV P n c opsA Q l H { dst:=d,op:=op,type:=ty,pos:=pos,after:=af,guard:=some (j,want) } (rv undef) H:=λa w Z K ha hw hK=>by
 have hy:=Jp ha hj hv;refine⟨λh2=>?_,λ_=>hK undef w Z (Fz.le.refl _) rfl hw⟩;simp[Region.wanted,hy] at h2
theorem oq {all:List Oper}{sp:List Sp}{rest:List Oper}{Hs All:List (List Ent)}{c:Cx}
  (hr:∀{H},Cd P n c (CT all sp (GB sp i).deps l0) H { dst:=some d,op:=op,type:=ty,pos:=pos,after:=af,guard:=none } (GB sp i).r)
  (h:Wi P n c opsA Q all sp l0 All (i+1) rest (H::Hs)) (hk:(GB sp i).kd=0:=by rfl):Wi P n c opsA Q all sp l0 All i ({ dst:=some d,op:=op,type:=ty,pos:=pos,after:=af,guard:=none }::rest) (H::H::Hs):=LT hk (λ_=>CP hr) h
theorem of {all:List Oper}{sp:List Sp}{rest:List Oper}{Hs All:List (List Ent)}{c:Cx}
  (hr:Cd P n c (CT all sp (GB sp i).deps l0) H { dst:=some d,op:=op,type:=ty,pos:=pos,after:=af,guard:=none } (GB sp i).r)
  (h:Wi P n c opsA Q all sp l0 All (i+1) rest (H::Hs)) (hk:(GB sp i).kd=1:=by rfl):Wi P n c opsA Q all sp l0 All i ({ dst:=some d,op:=op,type:=ty,pos:=pos,after:=af,guard:=none }::rest) (H::H::Hs):=Amy hk (CP hr) h
theorem C8 {t e sz len:Nat}{xs:List Operand}{css:List (List Rp)}{zz:Value}(ht:P.underlying t=some (.slice e))(hz:∀w,(sizeOf e).run P w = .ok sz w)(hzv:∀w,(zeroValue e).run P w = .ok zz w)
  (hparts:parts.toList=(xs.zipIdx 0).map λp=>(p.2,p.1)) (hlen:ys.length=len) (hv:Ph l xs=some rs) (hc:Jo H rs css) (hcs:css=ys.map enc) (henc:∀z,(enc z).length=sz) (hsz:Nat.blt 0 sz=true) (hle:Nat.ble (len*sz) 16777216=true):EV P n c opsA Q l H { dst:=some d,op:=.buildSlice t len parts,type:=ty,pos:=pos,after:=af,guard:=none } (B4 sz (ys.map enc)) H:=λa w Z K ha hw hK=>
 ⟨λ_=>by
  have hall:=H6 ha hv;obtain⟨h1,h2,h3⟩:=hc.all hw hall;have hsz':0<sz:=by simpa using hsz
  have hle' : ¬ 16777216<len*sz:=by simpa using hle
  have hxl:(xs.map a.eval).length=len:=by rw[← h2,hcs,Ap9,hlen]
  have hcell:∀v∈xs.map a.eval,v.cells.size=sz:=λv hv'=>by
   obtain⟨i,hi⟩:=List.getElem?_of_mem hv';have hil:=(List.getElem?_eq_some_iff.1 hi).1;have hil2:i<css.length:=by omega
   rw[h3 i css[i] v (Apw hil2) hi];have:css[i]∈ys.map enc:=by rw[← hcs];exact List.getElem_mem hil2
   obtain⟨z,_,hz'⟩:=List.mem_map.1 this;rw[← hz'];exact henc z
  have hflen:((xs.map a.eval).flatMap λv=>v.cells.toList).length=len*sz:=by
   rw[h1.length,Mo (sz:=sz) (λc hc'=>by rw[hcs] at hc';obtain⟨z,_,hz'⟩:=List.mem_map.1 hc';rw[← hz'];exact henc z),hcs,Ap9,hlen]
  have hpe:(parts.map λ(i,x)=>(i,a.eval x)).toList=((xs.map a.eval).zipIdx 0).map λp=>(p.2,p.1):=by
   rw[Array.toList_map,hparts,List.zipIdx_map,Aqo,Aqo];rfl
  have hrun:(Instr.buildSlice t len (parts.map λ(i,x)=>(i,a.eval x))).run P w = .ok (.slice (some ⟨w.heap.size,0,none⟩) len len) (w.alloc (.cells ((xs.map a.eval).flatMap λv=>v.cells.toList).toArray e)):=by
   refine AgA ht hz hzv hle w ?_;rw[hpe]
   by_cases h0:len*sz=0
   ·have:len=0:=by
     rcases Nat.mul_eq_zero.1 h0 with h | h
     ·exact h
     ·omega
    subst this;have hx0:xs=[]:=by simpa using ApK (by simpa using hxl)
    subst hx0;simp[Instr.fill]
   ·simp only[h0,Aqe];exact Great.fill_whole hsz' (xs.map a.eval) _ hcell (by rw[hxl];simp)
  have hal:St c (.row (.slice (some ⟨w.heap.size,0,none⟩) len len) e sz (ys.map enc)::H) Z (w.alloc (.cells ((xs.map a.eval).flatMap λv=>v.cells.toList).toArray e)):=by
   refine hw.alloc _ (e:=.row (.slice (some ⟨w.heap.size,0,none⟩) len len) e sz (ys.map enc)) ⟨?_,(xs.map a.eval).flatMap (λv=>v.cells.toList),⟨?_,.inr ⟨w.heap.size,len,_,?_,ApY _,heap_alloc_new w _,?_,?_,?_,?_⟩⟩,?_⟩ (by simp[Ent.foot,Value.ownBlock])
   ·intro cl hcl;obtain⟨z,_,hz'⟩:=List.mem_map.1 hcl;rw[← hz'];exact henc z
   ·rw[hflen,Ap9,hlen]
   ·rw[Ap9,hlen]
   ·rw[Ap9,hlen];exact Ap8 _
   ·have:len≤len*sz:=Nat.le_mul_of_pos_right _ hsz';simp only[maxLen];omega
   ·simpa using hflen
   ·rw[Ap9,hlen,← hflen];exact Aqi
   ·rw[← hcs];exact h1
  obtain⟨Z',hz',hst,hsl⟩:=hal.freeze (i:=0) rfl;unfold Oper.wp;rw[show(execOp a.eval { dst:=some d,op:=.buildSlice t len parts,type:=ty,pos:=pos,after:=af,guard:=none }).run P w = .ok (.value (.slice (some ⟨w.heap.size,0,none⟩) len len)) (w.alloc (.cells ((xs.map a.eval).flatMap λv=>v.cells.toList).toArray e)) from by simp[execOp,hrun]];exact hK _ _ Z' hz' hsl hst,λh=>by simp[Region.wanted] at h⟩
theorem ZG {r r':Rp}(hcall:∀(as1:Array Value) (w:World),(callFunc f as1).run P w = .ok (.enter f as1) w)(hv:Ph l args=some rs)
  (hc:Fn0 P c.E f rs r') (hr:r'=r):EV P n c opsA Q l H { dst:=some d,op:=.call { callee:=.value (.func f),args:=args.toArray,argTypes:=ats },type:=ty,pos:=pos,after:=af,guard:=none } r H:=λa w Z K ha hw hK=>
 ⟨λ_=>by
  unfold Oper.wp;rw[Ha rfl hcall w];refine(hc w Z _ (H6 ha hv) (St.enter (Hin:=[]) (Hr:=H) hw)).mono ?_;rintro e w' ⟨r2,v,Ho,Z',rfl,⟨rfl,rfl⟩,hr2,hs⟩;subst hr;exact hK v w' Z' hs.le hr2 (by simpa using hw.call0 hs),λh=>by simp[Region.wanted] at h⟩
def Akr (P:Program)(n:Nat)(c:Cx)(l:Fr)(H:List Ent)(o:Oper)(H':List Ent):Prop:=∀a w Z,EB n l a Z→St c H Z w→∃w',(execOp a.eval o).run P w = .ok .skip w'∧St c H' Z w'
theorem Ke (hr:Akr P n c l H { dst:=none,op:=op,type:=ty,pos:=pos,after:=af,guard:=none } H'):EV P n c opsA Q l H { dst:=none,op:=op,type:=ty,pos:=pos,after:=af,guard:=none } (rv undef) H':=λa w Z K ha hw hK=>
 ⟨λ_=>by
  obtain⟨w',he,hs⟩:=hr a w Z ha hw;unfold Oper.wp;rw[he];exact hK undef w' Z (Fz.le.refl _) rfl hs,λh=>by simp[Region.wanted] at h⟩
end
section
variable {ops : Array Oper} {rest : List Oper} {l : Fr} {H H' : List Ent} {d : Nat} {d' : Option Nat} {x y : Operand} {ty t t' e : TypeId} {pos : String} {af : Array Edge} {g : Option (Nat × Bool)} {v u : Value} {r : Rp} {sz : Nat}
theorem Eb (hag:∀w,(sizeOf t).run P w = .ok 1 w)(hx:ev l x=some (rv (.pointer (some ⟨b,off,none⟩))))(hy:ev l y=some r)(hv:Wh H r)
  (hi:H[i]? =some (.blk b cs e)) (hlt:Nat.blt off cs.length=true) {cs':List Rp} (hcs:cs.set off r=cs') (hH:H.set i (.blk b cs' e)=H'):Akr P n c l H { dst:=none,op:=.store t x y,type:=ty,pos:=pos,after:=af,guard:=none } H':=λa w Z ha hw=>by
  obtain⟨us,hb,h2⟩:=hw.ent hi;have hr:=ha.ev hy;have hone:=hv c Z w _ hw hr;have hlen:=h2.length;have hlt':off<us.length:=by rw[hlen];simpa using hlt
  have h1:=run_storeCells_at P b off e [a.eval y] 0 us.toArray w hb (by simp;omega) (by simpa using hone);have hcv:=K6 hone;have h3:us.take off++[a.eval y]++us.drop (off+1)=us.set off (a.eval y):=by
   simp[List.set_eq_take_append_cons_drop,hlt']
  simp only[Nat.add_zero,Ap2,Aqh,ApQ] at h1;rw[h3] at h1;refine⟨w.setRow b (us.set off (a.eval y)).toArray,?_,?_⟩
  ·simp[execOp,ha.eval hx,Instr.storeAt,Instr.sureAddr,storeVar,hag,hcv,h1]
  ·subst hH;subst hcs;refine hw.set hi rfl rfl rfl (by simp[World.setRow]) (λk _ hk=>?_) ⟨us.set off (a.eval y),setRow_heap w b _ _ e (0,0) hb,h2.set off hr⟩ (by simp[Ent.foot]);simp only[Ent.foot,ApF] at hk;simp only[World.setRow,Array.getElem?_modify];rw[ApP (λe=>hk e.symm)]
theorem HO (hsz:∀w,(sizeOf t).run P w = .ok sz w)(hx:ev l x=some (rv (.pointer (some ⟨b,off,none⟩))))(hy:ev l y=some (Cz rs))
  (hl:rs.length=sz) (hv:Bn H rs) (hi:H[i]? =some (.blk b cs e)) (hlt:Nat.ble (off+sz) cs.length=true) {cs':List Rp}
  (hcs:cs.take off++rs++cs.drop (off+sz)=cs') (hH:H.set i (.blk b cs' e)=H'):Akr P n c l H { dst:=none,op:=.store t x y,type:=ty,pos:=pos,after:=af,guard:=none } H':=λa w Z ha hw=>by
  obtain⟨us,hb,h2⟩:=hw.ent hi;obtain⟨vs,e1,h4⟩:=ha.ev hy;have hlen:=h2.length;have hvl:=h4.length;have hlt':off+sz≤us.length:=by rw[hlen];simpa using hlt
  have h1:=run_storeCells_at P b off e vs 0 us.toArray w hb (by simp;omega) (λv hv'=>hv.at hw h4 v hv');simp only[Nat.add_zero] at h1;refine⟨w.setRow b (us.take off++vs++us.drop (off+sz)).toArray,?_,?_⟩
  ·have h5:vs.length=sz:=by omega
   rw[h5] at h1;simp only[ApR] at h1 ⊢;simp[execOp,ha.eval hx,e1,Instr.storeAt,Instr.sureAddr,storeVar,hsz,Value.cells,h5,h1]
  ·subst hH;subst hcs;refine hw.set hi rfl rfl rfl (by simp[World.setRow]) (λk _ hk=>?_) ⟨us.take off++vs++us.drop (off+sz),setRow_heap w b _ _ e (0,0) hb,((h2.take off).append h4).append (h2.drop (off+sz))⟩ (by simp[Ent.foot]);simp only[Ent.foot,ApF] at hk;simp only[World.setRow,Array.getElem?_modify];rw[ApP (λe=>hk e.symm)]
theorem Rx [Inhabited α]{j:Int}{y':α}(hsz:∀w,(sizeOf t).run P w = .ok 1 w)(hx:ev l x=some (rv (Nr sz v j.toNat off)))(hy:ev l y=some r)(hv:Wh H r)(hi:H[i]? =some (.row v e sz (ys.map enc)))(hg:Cn j (ys.length:Int)=true)
  (hy':(enc (Af ys j)).set off r=enc y') (hlt:Nat.blt off sz=true) (hH:H.set i (.row v e sz ((ys.set j.toNat y').map enc))=H'):Akr P n c l H { dst:=none,op:=.store t x y,type:=ty,pos:=pos,after:=af,guard:=none } H':=λa w Z ha hw=>by
  obtain⟨hs,us,⟨h1,h2⟩,h3⟩:=hw.ent hi;have h0:=(Da hg).1;have hlj:j.toNat<ys.length:=by have:=(Da hg).2;omega
  have hlt':off<sz:=by simpa using hlt
  have eat:Af ys j=ys[j.toNat]:=by simp[Af,hlj]
  have hr:=ha.ev hy;have hone:=hv c Z w _ hw hr;rcases h2 with⟨rfl,hz⟩ | ⟨b,cap,cur,rfl,_,hg',hcap,hm,hcs,htk⟩
  ·simp at hz;subst hz;simp at hlj
  ·simp only[Ap9] at h1 hcap htk;have hin:j.toNat*sz+off<ys.length*sz:=by
    have:(j.toNat+1)*sz≤ys.length*sz:=Nat.mul_le_mul_right _ hlj;rw[Nat.succ_mul] at this;omega
   have hlc:j.toNat*sz+off<cur.size:=by
    have:ys.length*sz≤cap*sz:=Nat.mul_le_mul_right _ hcap;omega
   have h4:=run_storeCells_at P b (j.toNat*sz+off) e [a.eval y] 0 cur w hg' (by simp;omega) (by simpa using hone);have hcv:=K6 hone;have h5:(cur.toList.take (j.toNat*sz+off)++[a.eval y]++cur.toList.drop (j.toNat*sz+off+1)).toArray=cur.setIfInBounds (j.toNat*sz+off) (a.eval y):=by
    apply Array.ext';simp[Array.toList_setIfInBounds,List.set_eq_take_append_cons_drop,hlc]
   simp only[Nat.add_zero,Ap2,Aqh,ApQ] at h4;rw[h5] at h4;have hset:((ys.set j.toNat y').map enc).flatten=(ys.map enc).flatten.set (j.toNat*sz+off) r:=by
    clear h3 h1 hcs htk hin hlc h4 h5 hi hH;have key:∀(xs:List (List Rp)) (k:Nat) (cl:List Rp),(∀c∈xs,c.length=sz)→xs[k]? =some cl→(xs.set k (cl.set off r)).flatten=xs.flatten.set (k*sz+off) r:=by
     intro xs
     induction xs with
     | nil=>intro k cl _ hk;simp at hk
     | cons z zs ih=>
      intro k cl hsz hk;have hzl:z.length=sz:=hsz z (by simp)
      cases k with
      | zero=>
       simp at hk;subst hk;simp only[List.set_cons_zero,List.flatten_cons,Nat.zero_mul,ApQ];rw[List.set_append_left _ _ (by omega)]
      | succ k=>
       simp only[List.set_cons_succ,List.flatten_cons];rw[ih k cl (λc hc=>hsz c (by simp[hc])) (by simpa using hk)];rw[List.set_append_right _ _ (by rw[hzl,Nat.succ_mul];omega)]
       congr 2
       rw[hzl,Nat.succ_mul];omega
    have:=key (ys.map enc) j.toNat (enc ys[j.toNat]) hs (by simp[hlj]);rw[← this,List.map_set,← hy',eat]
   refine⟨w.setRow b (cur.setIfInBounds (j.toNat*sz+off) (a.eval y)),?_,?_⟩
   ·simp[execOp,ha.eval hx,Nr,Instr.storeAt,Instr.sureAddr,storeVar,hsz,hcv,h4]
   ·subst hH;refine hw.set hi rfl rfl rfl (by simp[World.setRow]) (λk _ hk=>?_) ⟨?_,us.set (j.toNat*sz+off) (a.eval y),⟨by simpa using h1,.inr ⟨b,cap,_,by simp,ApY _,setRow_heap w b cur _ e (0,0) hg',by simpa using hcap,hm,by simpa using hcs,?_⟩⟩,?_⟩ (by simp[Ent.foot,Value.ownBlock])
    ·simp only[Ent.foot,Value.ownBlock,Option.mem_toList,Option.mem_def,Option.some.injEq] at hk;simp only[World.setRow,Array.getElem?_modify];rw[ApP hk]
    ·intro cl hcl;rw[List.map_set] at hcl;rcases List.mem_or_eq_of_mem_set hcl with h' | rfl
     ·exact hs cl h'
     ·rw[← hy',List.length_set,eat];exact hs _ (List.mem_map_of_mem (List.getElem_mem hlj))
    ·simp only[Ap9,List.length_set];rw[Array.toList_setIfInBounds,List.take_set,htk]
    ·rw[hset];exact h3.set _ hr
end
end
theorem LI (l:List UInt8):((GL l).map D5).flatten=(l.map λc=>Value.int .u8 c.toNat).map rv:=by
 induction l with
 | nil=>rfl
 | cons c r ih=>simp only[GL,Aqj,List.flatten_cons] at ih ⊢;rw[ih];rfl
theorem GU (l:List UInt8):(GL l).length=l.length:=by simp[GL]
variable{s:List UInt8}
theorem QE {P:Program}{w:World}{t t' e:TypeId}{v:Value}{m:Nat}{us:List Value}(ty:TypeId)(ht:P.underlying t=some (.slice e))(hu:P.underlying t'=some .string)(hinf:P.info? e=some inf)(hz:inf.zero=some (.int .u8 0))(hsize:inf.size=1)(hby:inf.bytes=1)
  (hown:w.ownsRow 0 e 1 v m us) (hb:m+s.length≤140737488355328) :
  ∃v' w',(Builtin.append_ #[t,t'] ty #[v,.string (B s)]).run P w = .ok v' w'∧w'.ownsRow 0 e 1 v' (m+s.length) (us++s.map λc=>Value.int .u8 c.toNat)∧w.grownBy w' v.ownBlock∧(v'.ownBlock=v.ownBlock∨∀b,v'.ownBlock=some b→w.heap.size≤b):=by
 have hsz:(B s).size=s.length:=Ie s;have hcells:Lib.strCells (B s)=s.map λc=>Value.int .u8 c.toNat:=by simp[Lib.strCells,B]
 rcases hown.2 with⟨rfl,rfl⟩ | ⟨g,cap,cur,rfl,hbg,hg,hnc,hcm,hcs,htake⟩
 ·have hx:us=[]:=ApK (by simpa using hown.1);subst hx;obtain⟨v',w',e1,e2,e3,_⟩:=Lib.run_append_own_string (P:=P) (w:=w) w.heap.size t t' ty e inf ht hu hinf hz hsize hby (.slice none 0 0) 0 [] (World.ownsRow_nil w _ e 1) (B s) (by rw[hsz];simp only[maxLen];omega) (by rw[hsz];omega) (Ap8 _);rw[hsz,hcells] at e2;refine⟨v',w',e1,⟨e2.1,?_⟩,e3,.inr λb hb=>(e2.lt b hb).1⟩;rcases e2.2 with h | ⟨g,cap,cur,h,_,rest⟩
  ·exact .inl h
  ·exact .inr ⟨g,cap,cur,h,ApY _,rest⟩
 ·obtain⟨v',w',e1,e2,e3,_⟩:=Lib.run_append_own_string (P:=P) (w:=w) 0 t t' ty e inf ht hu hinf hz hsize hby _ m us hown (B s) (by rw[hsz];simp only[maxLen];omega) (by rw[hsz];omega) (ApY _);rw[hsz,hcells] at e2;refine⟨v',w',e1,e2,e3,?_⟩
  by_cases hroom:m+(B s).size≤cap
  ·have hr:=Lib.run_append_room_string (P:=P) w t t' ty e inf ht hu hinf hsize g m cap cur hg (B s) hroom (by simp at hcs;omega);rw[hr] at e1;simp only[Result.ok.injEq] at e1;rw[← e1.1];exact .inl rfl
  ·have holds:∀j u,us[j]? =some u→w.cell? ((⟨g,0,none⟩:Addr).add j)=some u:=hown.cells (g:=g) rfl;have hr:=Lib.run_append_grow_string (P:=P) w t t' ty e inf (.int .u8 0) ht hu hinf hz ⟨g,0,none⟩ m cap us (by rw[hsize];exact hown.1) holds (B s) (by omega) (by rw[hsz];omega) (by rw[hby];exact growslice_fits (by omega) (by rw[hsz];omega));rw[hr] at e1;simp only[Result.ok.injEq] at e1;rw[← e1.1];exact .inr λb hb=>by simp[Value.ownBlock] at hb;omega
variable{te:TypeId}{Φ:Rp→List Ent→Prop}
section
variable {P : Program} {n : Nat} {c : Cx} {ops : Array Oper} {Q : Exit → Act → World → Prop} {rest : List Oper} {l : Fr} {H H' : List Ent} {d : Nat} {d' : Option Nat} {x y z3 : Operand} {ty t t' e : TypeId} {pos : String} {af : Array Edge} {g : Option (Nat × Bool)} {v u : Value} {r : Rp} {sz : Nat} {K : Act → World → Prop}
theorem St.tobld {Z:Fz}{w:World}(h:St c H Z w){T:TypeId}(hi:H[i]? =some (.blk b [rv (.pointer none),rv (.slice none 0 0)] T)):St c (H.set i (.bld T te b (.slice none 0 0) [])) Z w:=by
 refine h.set hi rfl rfl rfl (Ap8 _) (λ_ _ _=>rfl) ?_ (by simp[Ent.foot,Value.ownBlock]);obtain⟨us,h1,h2⟩:=h.ent hi;have:=B9.eq_rv (us:=[.pointer none,.slice none 0 0]) h2;subst this;exact⟨_,.inl rfl,h1,⟨by simp,.inl ⟨rfl,rfl⟩⟩,by simp[Value.ownBlock]⟩
theorem WK.tobld {i b:Nat}{te T:TypeId}(hi:H[i]? =some (.blk b [rv (.pointer none),rv (.slice none 0 0)] T))(h:WK n c K l (H.set i (.bld T te b (.slice none 0 0) []))):WK n c K l H:=λa w Z ha hw=>h a w Z ha (St.tobld hw hi)
theorem WL.tobld {i b:Nat}{te T:TypeId}(hi:H[i]? =some (.blk b [rv (.pointer none),rv (.slice none 0 0)] T))(h:WL P n c ops Q rest l (H.set i (.bld T te b (.slice none 0 0) []))):WL P n c ops Q rest l H:=λa w Z ha hw=>h a w Z ha (St.tobld hw hi)
theorem WC.tobld {xx:Code}{i b:Nat}{te T:TypeId}(hi:H[i]? =some (.blk b [rv (.pointer none),rv (.slice none 0 0)] T))(h:WC P n c xx Q l (H.set i (.bld T te b (.slice none 0 0) []))):WC P n c xx Q l H:=λa w Z ha hw=>h a w Z ha (St.tobld hw hi)
theorem Fn.bld {E:Fz→Prop}{f:FuncId}{args:List Rp}{T te:TypeId}{b:Nat}{v:Value}{s s':List UInt8}{res:Rp}
  (h:∀p,(p = .pointer none∨p = .pointer (some ⟨b,0,none⟩))→Fn P E f args [.blk b [rv p,rv v] T,.row v te 1 ((GL s).map D5)] (λR H=>∃w0:Value,R=res∧H=[.blk b [rv (.pointer (some ⟨b,0,none⟩)),rv w0] T,.row w0 te 1 ((GL s').map D5)])) :
  Fn P E f args [.bld T te b v s] (λR H=>∃w0:Value,R=res∧H=[.bld T te b w0 s']):=λw Z vs hv hs=>by
 obtain⟨p,hp,h1,h2,h3⟩:=hs.has _ (List.mem_singleton.2 rfl);have hfoot:[Ent.bld T te b v s].flatMap Ent.foot=[Ent.blk b [rv p,rv v] T,Ent.row v te 1 ((GL s).map D5)].flatMap Ent.foot:=by simp[Ent.foot]
 have hs':St ⟨w,Z,[Ent.blk b [rv p,rv v] T,Ent.row v te 1 ((GL s).map D5)].flatMap Ent.foot,E,[]⟩ [Ent.blk b [rv p,rv v] T,Ent.row v te 1 ((GL s).map D5)] Z w:=by
  refine⟨rfl,rfl,rfl,Ap8 _,λ_ _ _=>rfl,?_,λe he k hk=>.inr (List.mem_flatMap.2 ⟨e,he,hk⟩),?_,hs.frz,Fz.le.refl _,λ_ _ e=>.inl e,λe he k hk=>?_,hs.env,hs.emono,Ry.none rfl⟩
  ·intro e he;simp only[Aqb,List.not_mem_nil,or_false] at he;rcases he with rfl | rfl
   ·exact⟨[p,v],h1,rfl,rfl,trivial⟩
   ·refine⟨λcl hcl=>by obtain⟨z,_,rfl⟩:=List.mem_map.1 hcl;rfl,_,by simpa[GU] using h2,?_⟩;rw[LI];exact B9.rvs Z _
  ·refine List.pairwise_cons.2 ⟨λe he k hk hk'=>?_,List.pairwise_singleton ..⟩;simp only[ApF] at he;subst he;simp only[Ent.foot,ApF] at hk;subst hk;simp only[Ent.foot,Option.mem_toList] at hk';exact h3 hk'
  ·have hmem:k∈[Ent.bld T te b v s].flatMap Ent.foot:=by rw[hfoot];exact List.mem_flatMap.2 ⟨e,he,hk⟩
   obtain⟨e',he',hk'⟩:=List.mem_flatMap.1 hmem;exact hs.zdis e' he' k hk'
 rw[hfoot] at hs ⊢;refine(h p hp w Z vs hv hs').mono λe w' ⟨R,vv,H,Z',he,⟨w0,hR,hH⟩,hpR,ht⟩=>⟨R,vv,[.bld T te b w0 s'],Z',he,⟨w0,hR,rfl⟩,hpR,?_⟩
 subst hH;obtain⟨us,k1,k2⟩:=ht.has (.blk b [rv (.pointer (some ⟨b,0,none⟩)),rv w0] T) (by simp);obtain⟨k3,ws,k4,k5⟩:=ht.has (.row w0 te 1 ((GL s').map D5)) (by simp);have e1:=B9.eq_rv (us:=[.pointer (some ⟨b,0,none⟩),w0]) k2;subst e1;rw[LI] at k5;have e2:=B9.eq_rv k5;subst e2;have hd:=List.pairwise_cons.1 ht.dis;have hne:w0.ownBlock≠some b:=λhb=>hd.1 _ (List.mem_singleton.2 rfl) b (by simp[Ent.foot]) (by simp[Ent.foot,hb]);refine { ht with has:=?_,own:=?_,dis:=List.pairwise_singleton ..,zdis:=?_,gst:=⟨by simp[Ent.gk],by simp[Ent.gk],List.pairwise_singleton ..,ht.gst.new,by simp[Ent.gk]⟩ }
 ·intro e' he';simp only[ApF] at he';subst he';exact⟨_,.inr rfl,k1,by simpa[GU] using k4,hne⟩
 ·intro e' he' k hk;simp only[ApF] at he';subst he';simp only[Ent.foot,Aqb] at hk;rcases hk with rfl | hk
  ·exact ht.own (.blk k [rv (.pointer (some ⟨k,0,none⟩)),rv w0] T) (by simp) k (by simp[Ent.foot])
  ·exact ht.own (.row w0 te 1 ((GL s').map D5)) (by simp) k hk
 ·intro e' he' k hk;simp only[ApF] at he';subst he';simp only[Ent.foot,Aqb] at hk;rcases hk with rfl | hk
  ·exact ht.zdis (.blk k [rv (.pointer (some ⟨k,0,none⟩)),rv w0] T) (by simp) k (by simp[Ent.foot])
  ·exact ht.zdis (.row w0 te 1 ((GL s').map D5)) (by simp) k hk
theorem Fn.bldS {E:Fz→Prop}{args:List Rp}{T:TypeId}{v:Value}{res:Rp}
  (h:∀p,(p = .pointer none∨p = .pointer (some ⟨b,0,none⟩))→Fn P E f args [.blk b [rv p,rv v] T,.row v te 1 ((GL s).map D5)] (λR H=>R=res∧H=[])) :
  Fn P E f args [.bld T te b v s] (λR H=>R=res∧H=[]):=λw Z vs hv hs=>by
 obtain⟨p,hp,h1,h2,h3⟩:=hs.has _ (List.mem_singleton.2 rfl);have hfoot:[Ent.bld T te b v s].flatMap Ent.foot=[Ent.blk b [rv p,rv v] T,Ent.row v te 1 ((GL s).map D5)].flatMap Ent.foot:=by simp[Ent.foot]
 have hs':St ⟨w,Z,[Ent.blk b [rv p,rv v] T,Ent.row v te 1 ((GL s).map D5)].flatMap Ent.foot,E,[]⟩ [Ent.blk b [rv p,rv v] T,Ent.row v te 1 ((GL s).map D5)] Z w:=by
  refine⟨rfl,rfl,rfl,Ap8 _,λ_ _ _=>rfl,?_,λe he k hk=>.inr (List.mem_flatMap.2 ⟨e,he,hk⟩),?_,hs.frz,Fz.le.refl _,λ_ _ e=>.inl e,λe he k hk=>?_,hs.env,hs.emono,Ry.none rfl⟩
  ·intro e he;simp only[Aqb,List.not_mem_nil,or_false] at he;rcases he with rfl | rfl
   ·exact⟨[p,v],h1,rfl,rfl,trivial⟩
   ·refine⟨λcl hcl=>by obtain⟨z,_,rfl⟩:=List.mem_map.1 hcl;rfl,_,by simpa[GU] using h2,?_⟩;rw[LI];exact B9.rvs Z _
  ·refine List.pairwise_cons.2 ⟨λe he k hk hk'=>?_,List.pairwise_singleton ..⟩;simp only[ApF] at he;subst he;simp only[Ent.foot,ApF] at hk;subst hk;simp only[Ent.foot,Option.mem_toList] at hk';exact h3 hk'
  ·have hmem:k∈[Ent.bld T te b v s].flatMap Ent.foot:=by rw[hfoot];exact List.mem_flatMap.2 ⟨e,he,hk⟩
   obtain⟨e',he',hk'⟩:=List.mem_flatMap.1 hmem;exact hs.zdis e' he' k hk'
 rw[hfoot] at hs ⊢;exact h p hp w Z vs hv hs'
theorem LU (hu:∃e',P.underlying t=some (.pointer e'))(hx:ev l x=some (rv (.pointer none))):Cd P n c l H { dst:=d',op:=.binOp .eql t x (.const (.pointer none)) t',type:=ty,pos:=pos,after:=af,guard:=g } (rB true):=λa w Z ha _=>Ev<|by
 obtain⟨e',hu⟩:=hu;have h1:∀dd:Nat,(Op.equalIn (dd+1) t (.pointer none) (.pointer none)).run P w = .ok true w:=λdd=>by simp[Op.equalIn,run_underlying hu]
 have h2:(Op.equal t (.pointer none) (.pointer none)).run P w = .ok true w:=h1 9999;have h3:(eqGuard .eql t x (.const (.pointer none)) (.pointer none) (.pointer none)).run P w = .ok () w:=by unfold eqGuard;split<;>simp
 have hy:a.eval (.const (.pointer none)) = .pointer none:=rfl;simp only[execOp,ha.eval hx,hy,Sem.run_bind,h3,Result.andThen_ok,binOp,h2,Sem.run_pure]
theorem Ab9 {p:Addr}(hu:P.underlying t=some (.pointer te))(hi:∃j,P.info? te=some j)(hx:ev l x=some (rv (.pointer (some p))))(hy:ev l y=some (rv (.pointer (some p)))):Cd P n c l H { dst:=d',op:=.binOp .neq t x y t',type:=ty,pos:=pos,after:=af,guard:=g } (rB false):=λa w Z ha _=>Ev<|by
 obtain⟨j,hj⟩:=hi;have h3:(eqGuard .neq t x y (.pointer (some p)) (.pointer (some p))).run P w = .ok () w:=by unfold eqGuard;split<;>simp
 simp only[execOp,ha.eval hx,ha.eval hy,Sem.run_bind,h3,Result.andThen_ok,Lib.run_neq_ptr_same w p hu hj,Sem.run_pure]
theorem Wx {w:World}{Z:Fz}(hw:St c H Z w)(hi:H[i]? =some (.blk b cs e)):w.shape? b=some (e,cs.length):=by
 obtain⟨us,h1,h2⟩:=hw.ent hi;simp[World.shape?,h1,h2.length]
theorem ZI (hs:P.underlying t=some (.pointer te))(hd:P.underlying t'=some .unsafePointer)(hj:∃j,P.info? te=some j∧j.size≠0)(hx:ev l x=some (rv (.pointer (some ⟨b,0,none⟩))))(hi:H[i]? =some (.blk b cs e))(hl:Nat.blt 0 cs.length=true) :
  Cd P n c l H { dst:=d',op:=.convert t t' x,type:=ty,pos:=pos,after:=af,guard:=g } (rv (.pointer (some ⟨b,0,none⟩))):=λa w Z ha hw=>Ev<|by
 obtain⟨j,hj1,hj2⟩:=hj;have:=Lib.run_to_unsafe (P:=P) w ⟨b,0,none⟩ hs hd hj1 hj2 (Wx hw hi) (by simpa using hl);simp[execOp,ha.eval hx,this]
theorem VU (hs:P.underlying t=some .unsafePointer)(hd:P.underlying t'=some (.pointer te))(hj:∃j,P.info? te=some j)(hx:ev l x=some (rv (.pointer (some ⟨b,0,none⟩))))(hi:H[i]? =some (.blk b cs e))(hl:liesAt P P.depth e (cs.length/P.cellsOf e) 0 te 1=true) :
  Cd P n c l H { dst:=d',op:=.convert t t' x,type:=ty,pos:=pos,after:=af,guard:=g } (rv (.pointer (some ⟨b,0,none⟩))):=λa w Z ha hw=>Ev<|by
 obtain⟨j,hj1⟩:=hj;have:=Lib.run_from_unsafe (P:=P) w ⟨b,0,none⟩ hs hd hj1 (Wx hw hi) hl;simp[execOp,ha.eval hx,this]
theorem Aju {f : FuncId} {fn : Func} {ats : Array TypeId} (hf : P.funcs[f]? = some fn) (hname : (fn.name == "runtime.NumGoroutine") = false) (hb : fn.body.isNone = true) (hn : Extern.findNext fn = none) (he : Extern.find fn = some Extern.AbiNoEscape.same) (hx : ev l x = some (rv v)) :
  Cd P n c l H { dst:=d',op:=.call { callee:=.value (.func f),args:=#[x],argTypes:=ats },type:=ty,pos:=pos,after:=af,guard:=g } (rv v):=λa w Z ha hw=>Ev<|by
 have h1:=run_callFunc_extern (P:=P) (w:=w) (args:=#[v]) hf hname hb hn he;rw[Lib.run_noEscape] at h1;simp only[execOp,resolve,Sem.run_bind,Sem.run_pure,Result.andThen_ok,Act.eval,Deferred.ofValue,invoke];simp only[List.map_toArray,Aqj,List.map_nil,ha.eval hx,Array.append_empty,Array.empty_append];simpa using h1
theorem TE {xs:List α}(h:decide (0<xs.length)=true):decide (0<(xs.map enc).length)=true:=by simpa using h
section
variable {P : Program} {n : Nat} {c : Cx} {l : Fr} {H : List Ent} {d' : Option Nat} {x : Operand} {ty t t' e : TypeId} {pos : String} {af : Array Edge} {g : Option (Nat × Bool)} {v : Value}
end
def slp:Value→Value
 | .slice a _ _=>.pointer a
 | v=>v
theorem SW {ts:Array TypeId}(hx:ev l x=some (rv v))(hi:H[i]? =some (.row v e sz xs))(hg:decide (0<xs.length)=true) :
  Cd P n c l H { dst:=d',op:=.call { callee:=.builtin .unsafeSliceData,args:=#[x],argTypes:=ts },type:=ty,pos:=pos,after:=af,guard:=g } (rv (slp v)):=λa w Z ha hw=>Ev<|by
 obtain⟨_,us,⟨_,h2⟩,_⟩:=hw.ent hi;have h0:0<xs.length:=by simpa using hg
 rcases h2 with⟨rfl,hz⟩ | ⟨b,cap,cur,rfl,_,_,hc,_⟩
 ·omega
 ·have:=Lib.run_unsafeSliceData_row (P:=P) w ts ty ⟨b,0,none⟩ xs.length cap (by omega);simp[execOp,resolve,invoke,builtin,ha.eval hx,this,slp]
def Ann (P:Program)(n:Nat)(c:Cx)(l:Fr)(H:List Ent)(o:Oper)(r:Rp)(H':List Ent):Prop:=∀a w Z,EB n l a Z→St c H Z w→∃v w' Z',Fz.le Z Z'∧r.p Z' v∧(execOp a.eval o).run P w = .ok (.value v) w'∧St c H' Z' w'
theorem Amu {opsA:Array Oper}(hr:Ann P n c l H { dst:=some d,op:=op,type:=ty,pos:=pos,after:=af,guard:=none } r H'):EV P n c opsA Q l H { dst:=some d,op:=op,type:=ty,pos:=pos,after:=af,guard:=none } r H':=λa w Z K0 ha hw hK=>
 ⟨λ_=>by
  obtain⟨v,w',Z',hz,hv,he,hs⟩:=hr a w Z ha hw;unfold Oper.wp;rw[he];exact hK v w' Z' hz hv hs,λh=>by simp[Region.wanted] at h⟩
theorem Om {pt it:TypeId}(hp:P.underlying pt=some (.pointer e))(hc:P.cellsOf e=1)(hx:ev l x=some (rv (slp v)))(hy:ev l y=some (rI .i64 ((GL s).length:Int)))(hi:H[i]? =some (.row v e 1 ((GL s).map D5)))(hg:decide (0<((GL s).map D5).length)=true)(hH:H.eraseIdx i=H') :
  Ann P n c l H { dst:=some d,op:=.call { callee:=.builtin .unsafeString,args:=#[x,y],argTypes:=#[pt,it] },type:=ty,pos:=pos,after:=af,guard:=none } (rS s) H':=λa w Z ha hw=>by
 obtain⟨_,us,⟨h1,h2⟩,h3⟩:=hw.ent hi;rw[LI] at h3;have e2:=B9.eq_rv h3;subst e2;have h0:0<s.length:=by simpa[GU] using hg
 rcases h2 with⟨rfl,hz⟩ | ⟨b,cap,cur,rfl,_,hb,hcap,hm,hcs,htk⟩
 ·simp[GU] at hz;subst hz;simp at h0
 ·simp only[Ap9,GU,Nat.mul_one] at htk hcap hcs h1;have hus:=Lib.run_unsafeString_row (P:=P) w pt it ty e hp hc b cur.size (by simp[World.shape?,hb]) s (by intro e;subst e;simp at h0) (by omega) (by simp only[maxLen] at hm;omega) (λj x hj=>by
   rw[Pi,ApQ,cell_of_row w b j cur e (0,0) hb];have:(s.map λc=>Value.int .u8 c.toNat)[j]? =some (.int .u8 x.toNat):=by simp[hj]
   rw[← htk,ApS] at this
   split at this
   ·simpa using this
   ·cases this)
  have hmem:=Ap4 hi;have hfr:=hw.front hi;have hd:=List.pairwise_cons.1 hfr.dis;have hst:=hfr.sub (List.sublist_cons_self _ _);have hkeep:∀k,k≠b→(w.freeze ⟨b,0,none⟩ s.length).heap[k]? =w.heap[k]?:=λk hk=>by
   simp only[World.freeze]
   split
   ·rfl
   ·simp only[Array.getElem?_modify];rw[ApP (λe=>hk e.symm)]
  have hzb:Z b=none:=hw.zdis _ hmem b (by simp[Ent.foot,Value.ownBlock]);refine⟨.string ⟨s.toArray⟩,w.freeze ⟨b,0,none⟩ s.length,Z,Fz.le.refl _,rfl,?_,?_⟩
  ·have hlx:=ha.eval hx;have hly:=ha.eval hy;rw[GU] at hly;simp[execOp,resolve,invoke,builtin,hlx,hly,slp,hus]
  ·subst hH;have hfz:∀(f:World→Prop),True:=λ_=>trivial;refine { hst with os:=?_,tape:=?_,output:=?_,size:=?_,old:=λk hk hkM=>?_,has:=λen he=>?_,frz:=⟨λb' o hb'=>?_,λk i b hb=>Nat.lt_of_lt_of_le (hst.frz.nm k i b hb) (by simp only[World.freeze];split<;>simp)⟩,gst:=hst.gst.grow (by simp only[World.freeze];split<;>simp) }
   ·rw[← hst.os];simp only[World.freeze];split<;>rfl
   ·rw[← hst.tape];simp only[World.freeze];split<;>rfl
   ·rw[← hst.output];simp only[World.freeze];split<;>rfl
   ·refine Nat.le_trans hst.size ?_;simp only[World.freeze];split<;>simp
   ·have hkb:k≠b:=λe=>by
     subst e;rcases hw.own _ hmem k (by simp[Ent.foot,Value.ownBlock]) with h4 | h4
     ·omega
     ·exact hkM h4
    rw[hkeep k hkb];exact hst.old k hk hkM
   ·exact Ent.keep (hst.has en he) (Fz.le.refl _) λk hk=>hkeep k (λe=>hd.1 en he b (by simp[Ent.foot,Value.ownBlock]) (e▸hk))
   ·rw[hkeep b' (λe=>by subst e;rw[hzb] at hb';cases hb')];exact hst.frz b' o hb'
theorem Zn {o:Oper}{a:Act}(ho:o.op = .call { callee:=.value x,args:=args.toArray,argTypes:=ats })(hx:a.eval x = .func (.func f) #[] caps.toArray)
  (hcall:∀(as1:Array Value) (w:World),(callFunc f as1).run P w = .ok (.enter f as1) w) (w:World):(execOp a.eval o).run P w = .ok (.enter f (args.map a.eval++caps).toArray) w:=by
 simp[execOp,ho,resolve,hx,Deferred.ofValue,invoke,hcall]
theorem Jr {Hin Hr:List Ent}(hcall:∀(as1:Array Value) (w:World),(callFunc f as1).run P w = .ok (.enter f as1) w)(hx:ev l x=some (rv (.func (.func f) #[] caps.toArray)))(hv:Ph l args=some rs)
  (hp:H.Perm (Hin++Hr)) (hc:Fn P c.E f (rs++caps.map rv) Hin Φ) (hn:Nat.blt d n=true) (h:∀r Ho,Φ r Ho→WL P n c ops Q rest ((d,r)::l) (Ho++Hr)) :
  WL P n c ops Q ({ dst:=some d,op:=.call { callee:=.value x,args:=args.toArray,argTypes:=ats },type:=ty,pos:=pos,after:=af,guard:=none }::rest) l H:=
 Oq (args:=λa=>(args.map a.eval++caps).toArray) (λa w Z ha hw=>⟨Zn rfl (ha.eval hx) hcall w,by
  have hw2:=hw.perm hp;refine(hc w Z _ (by have:=(H6 ha hv).append (B9.rvs Z caps);simpa using this) hw2.enter).mono ?_;rintro e w' ⟨r,v,Ho,Z',he,hΦ,hr,hs⟩;exact⟨v,r,Ho++Hr,Z',he,hs.le,hr,hw2.call hs,h r Ho hΦ⟩⟩) hn
theorem Q2 {xs:List Int}(ht:P.underlying t=some (.slice e))(hu:P.underlying t'=some .string)(hinf:P.info? e=some inf)(hz:inf.zero=some (.int .u8 0))(hsize:inf.size=1)(hby:inf.bytes=1)
  (hx:ev l x=some (rv v)) (hy:ev l y=some (rS s)) (hi:H[i]? =some (.row v e 1 (xs.map D5))) (hg:Dl 1 (xs.length+s.length)=true) (hn:Nat.blt d n=true)
  (h:∀v',WL P n c ops Q rest ((d,rv v')::l) (.row v' e 1 ((xs++GL s).map D5)::H.eraseIdx i)) :
  WL P n c ops Q ({ dst:=some d,op:=.call { callee:=.builtin .append,args:=#[x,y],argTypes:=#[t,t'] },type:=ty,pos:=pos,after:=af,guard:=none }::rest) l H:=
 Pd (λa w Z ha hw=>by
  obtain⟨h0,us,h1,h2⟩:=hw.ent hi;have hb:(xs.length+s.length)*1≤140737488355328:=by simpa[Dl] using hg
  rw[Ap9] at h1;obtain⟨v',w',e1,e2,e3,e4⟩:=QE (P:=P) (w:=w) ty ht hu hinf hz hsize hby h1 (s:=s) (by omega);have hent:(Ent.row v' e 1 ((xs++GL s).map D5)).holds Z w':=⟨λcl hcl=>by obtain⟨z',_,rfl⟩:=List.mem_map.1 hcl;rfl,us++s.map (λc=>Value.int .u8 c.toNat),by simpa[GU] using e2,by
   rw[List.map_append,List.flatten_append,LI];exact h2.append (B9.rvs Z _)⟩
  have hst:=hw.callF hi (St.one (e':=.row v' e 1 ((xs++GL s).map D5)) (M:=(Ent.row v e 1 (xs.map D5)).foot) hw.frz hw.env hw.emono e3.os e3.tape e3.output e3.size (λk hk hne=>e3.block k hk (λe1=>hne (by simp[Ent.foot,← e1])))
   (hw.zdis _ (Ap4 hi)) hent (λk hk=>by
    simp only[Ent.foot,Option.mem_toList] at hk ⊢;rcases e4 with e4 | e4
    ·exact .inl (e4▸hk)
    ·exact .inr (e4 k hk)))
  exact⟨v',w',rv v',_,Z,by simp[execOp,resolve,invoke,builtin,ha.eval hx,ha.eval hy,e1],Fz.le.refl _,rfl,hst,h v'⟩) hn
end
variable{K:Exit→Act→World→Prop}
section
variable {P : Program} {n : Nat} {c : Cx} {ops : Array Oper} {Q : Exit → Act → World → Prop} {rest : List Oper} {l : Fr} {H : List Ent} {d : Nat} {ty : TypeId} {pos : String} {af : Array Edge} {r : Rp} {x y z3 : Operand}
theorem wo {d:Option Nat}{b:Bool}(hb:b=want)(h:WL P n c ops Q ({ dst:=d,op:=op,type:=ty,pos:=pos,after:=af,guard:=none }::rest) l H)(hj:Ed ops j=some dj:=by rfl)(hv:look l dj=some (rB b):=by rfl) :
  WL P n c ops Q ({ dst:=d,op:=op,type:=ty,pos:=pos,after:=af,guard:=some (j,want) }::rest) l H:=Dd hj hv hb h
theorem wf {b:Bool}(hb:b = !want)(h:WL P n c ops Q rest ((d,rv undef)::l) H)(hj:Ed ops j=some dj:=by rfl)(hv:look l dj=some (rB b):=by rfl)(hn:Nat.blt d n=true:=by rfl) :
  WL P n c ops Q ({ dst:=some d,op:=op,type:=ty,pos:=pos,after:=af,guard:=some (j,want) }::rest) l H:=DL hj hv hb hn h
theorem wu (h:WL P n c ops Q rest ((d,rv undef)::l) H)(hj:Ed ops j=some dj:=by rfl)(hv:look l dj=some (rv undef):=by rfl)(hn:Nat.blt d n=true:=by rfl) :
  WL P n c ops Q ({ dst:=some d,op:=op,type:=ty,pos:=pos,after:=af,guard:=some (j,want) }::rest) l H:=Ef hj hv hn h
theorem wv (hr:Cd P n c l H { dst:=some d,op:=op,type:=ty,pos:=pos,after:=af,guard:=none } r)(h:WL P n c ops Q rest ((d,r)::l) H)(hn:Nat.blt d n=true:=by rfl):WL P n c ops Q ({ dst:=some d,op:=op,type:=ty,pos:=pos,after:=af,guard:=none }::rest) l H:=Cj hr hn h
theorem wm (h:ev l x=some r)(hk:WL P n c ops Q rest ((d,r)::l) H)(hn:Nat.blt d n=true:=by rfl):WL P n c ops Q ({ dst:=some d,op:=.move x,type:=ty,pos:=pos,after:=af,guard:=none }::rest) l H:=Cj (AE h) hn hk
theorem wa (h:ev l x=some r)(hk:WL P n c ops Q rest ((d,r)::l) H)(hn:Nat.blt d n=true:=by rfl):WL P n c ops Q ({ dst:=some d,op:=.assign x,type:=ty,pos:=pos,after:=af,guard:=none }::rest) l H:=Cj (BS h) hn hk
theorem Ej {b:Bool}(hc:ev l z3=some (rB b))(hb:b=true)(h:ev l x=some r)(hk:WL P n c ops Q rest ((d,r)::l) H)(hn:Nat.blt d n=true:=by rfl):WL P n c ops Q ({ dst:=some d,op:=.pick z3 x y,type:=ty,pos:=pos,after:=af,guard:=none }::rest) l H:=Cj (E9 hc hb h) hn hk
theorem Ep {b:Bool}(hc:ev l z3=some (rB b))(hb:b=false)(h:ev l y=some r)(hk:WL P n c ops Q rest ((d,r)::l) H)(hn:Nat.blt d n=true:=by rfl):WL P n c ops Q ({ dst:=some d,op:=.pick z3 x y,type:=ty,pos:=pos,after:=af,guard:=none }::rest) l H:=Cj (DX hc hb h) hn hk
theorem wc0 (hcall:∀(as1:Array Value) (w:World),(callFunc f as1).run P w = .ok (.enter f as1) w)(hc:Fn0 P c.E f rs r)(hv:Ph l args=some rs)(h:WL P n c ops Q rest ((d,r)::l) H)(hn:Nat.blt d n=true:=by rfl) :
  WL P n c ops Q ({ dst:=some d,op:=.call { callee:=.value (.func f),args:=args.toArray,argTypes:=ats },type:=ty,pos:=pos,after:=af,guard:=none }::rest) l H:=CC hcall hv hc rfl hn h
theorem Dy {opsA:Array Oper}(hcall:∀(as1:Array Value) (w:World),(callFunc f as1).run P w = .ok (.enter f as1) w)(hc:Fn0 P c.E f rs r)(hv:Ph l args=some rs) :
  EV P n c opsA Q l H { dst:=some d,op:=.call { callee:=.value (.func f),args:=args.toArray,argTypes:=ats },type:=ty,pos:=pos,after:=af,guard:=none } r H:=ZG hcall hv hc rfl
theorem wt (hl:Hw l1 l:=by repeat (first | exact Hw.nil | refine Hw.c rfl ?_))(hH:H1.Sublist H:=by repeat (first | exact sN | refine sC ?_ | refine sS ?_)):WK n c (Exit.then (Mid n c l1 H1) K .normal) l H:=Ax (Ix hl hH)
theorem BR {p:Prop}(hp:p)(hl:p→Hw l1 l:=by intro hp;repeat (first | exact Hw.nil | refine Hw.c rfl ?_ | refine Hw.c (by first | (simp only[hp];rfl) | simp[hp]) ?_))(hH:H1.Sublist H:=by repeat (first | exact sN | refine sC ?_ | refine sS ?_)):WK n c (Exit.then (Mid n c l1 H1) K .normal) l H:=Ax (Ix (hl hp) hH)
end
abbrev rP (b o:Nat):Rp:=rv (.pointer (some ⟨b,o,none⟩))
variable{G:Prop}
theorem ck {p:Bool}{x:Option α}{r:α}(h:AM p x=some r)(k:p=true→x=some r→G):G:=k (Vy h).1 (Vy h).2
theorem ob {β:Type}{a:Option β}{f:β→Option α}{r:α}(h:Ba a f=some r)(k:∀b,a=some b→f b=some r→G):G:=let ⟨b,h1,h2⟩:=Amx h;k b h1 h2
theorem bd {β:Type}{a:β}{f:β→Option α}{r:α}(h:Nu a f=some r)(k:∀b,b=a→f b=some r→G):G:=let ⟨b,h1,h2⟩:=Ang h;k b h1 h2
theorem bz {b:Bool}{x y:Option α}{r:α}(h:Bj b x y=some r)(t:b=true→x=some r→G)(f:b=false→y=some r→G):G:=by
 cases b
 ·exact f rfl h
 ·exact t rfl h
section
variable {P : Program} {n : Nat} {c : Cx} {ops : Array Oper} {Q : Exit → Act → World → Prop} {rest : List Oper} {l : Fr} {H : List Ent} {d : Nat} {x y : Operand} {t e : TypeId} {ty : TypeId} {pos : String} {af : Array Edge} {r : Rp} {sz : Nat}
theorem cz {b:Bool}{X Y:Option α}{r:α}{cx cy:Code}{o:Operand}(h:Bj b X Y=some r)(ho:ev l o=some (rB b))(h1:b=true→X=some r→WC P n c cx Q l H)(h2:b=false→Y=some r→WC P n c cy Q l H):WC P n c (.cond o cx cy) Q l H:=
 My ho (λe=>h1 e (AmY e h)) (λe=>h2 e (AmZ e h))
theorem wz (hj:Ed ops j=some dj)(hv:look l dj=some (rB (!want)))(h:WL P n c ops Q rest ((d,rv undef)::l) H)(hn:Nat.blt d n=true:=by rfl) :
  WL P n c ops Q ({ dst:=some d,op:=op,type:=ty,pos:=pos,after:=af,guard:=some (j,want) }::rest) l H:=DL hj hv rfl hn h
theorem vF {o o':Nat}{f:Field}(hu:P.underlying t=some (.struct fs))(h:(fs[i]?,ev l x,o+f.offset)=(some f,some (rv (.pointer (some ⟨b,o,none⟩))),o'))(hsz:∀w,(sizeOf f.type).run P w = .ok (sz+1) w)
  (k:WL P n c ops Q rest ((d,rv (.pointer (some ⟨b,o',none⟩)))::l) H) (hn:Nat.blt d n=true:=by rfl):WL P n c ops Q ({ dst:=some d,op:=.fieldAddr t x i,type:=ty,pos:=pos,after:=af,guard:=none }::rest) l H:=by
 simp only[Prod.mk.injEq] at h;exact Cj (Aq hu h.1 hsz h.2.1 h.2.2) hn k
theorem vL (i:Nat)(hag:∀w,(isAgg t).run P w = .ok false w)(h:(ev l x,H[i]?,cs[off]?)=(some (rv (.pointer (some ⟨b,off,none⟩))),some (.blk b cs e),some r))
  (k:WL P n c ops Q rest ((d,r)::l) H) (hn:Nat.blt d n=true:=by rfl):WL P n c ops Q ({ dst:=some d,op:=.load t x,type:=ty,pos:=pos,after:=af,guard:=none }::rest) l H:=by
 simp only[Prod.mk.injEq] at h;exact Cj (AY i hag h.1 h.2.1 h.2.2) hn k
end
abbrev AZ (x:Int):Rp:=rI .i64 x
abbrev D3 (x:Int):Nat:=Int.toNat x
abbrev Bu {a b:Type}(f:a→b)(l:List a):List b:=List.map f l
structure At {α:Type} (i:Nat) (l:List α) (e:α) (l':List α):Prop where
 go:l.Perm (e::l')
variable{l:List α}
theorem Ani {e:α}:At 0 (e::l) e l:=⟨Ap3 _⟩
variable{l':List α}
theorem Anh {x e:α}(h:At i l e l'):At (i+1) (x::l) e (x::l'):=⟨(h.go.cons x).trans (List.Perm.swap e x l')⟩
structure Pk {α:Type} (is:List Nat) (l l':List α):Prop where
 go:l.Perm l'
theorem Amq:Pk [] l l:=⟨Ap3 _⟩
theorem Amp {r:List Nat}{l1 l2:List α}{e:α}(h:At i l e l1)(t:Pk r l1 l2):Pk (i::r) l (e::l2):=⟨h.go.trans (t.go.cons e)⟩
structure AfD {α:Type} (i:Nat) (l:List α) (x:α) (l':List α):Prop where
 go:l.set i x=l'
theorem Alb {a x:α}:AfD 0 (a::l) x (x::l):=⟨rfl⟩
theorem Ala {a x:α}(h:AfD i l x l'):AfD (i+1) (a::l) x (a::l'):=⟨by rw[List.set_cons_succ,h.go]⟩
structure Aku {α:Type} (i:Nat) (rs l l':List α):Prop where
 go:l.take i++rs++l.drop (i+rs.length)=l'
theorem AnB:Aku 0 [] l l:=⟨by simp⟩
theorem AnA {r a:α}{rs:List α}(h:Aku 0 rs l l'):Aku 0 (r::rs) (a::l) (r::l'):=⟨by
 have:=h.go;simp only[List.take_zero,Aqm,ApQ] at this ⊢;rw[Ap2,List.drop_succ_cons,Aqn,this]⟩
section
variable {P : Program} {n : Nat} {c : Cx} {ops opsA : Array Oper} {Q : Exit → Act → World → Prop} {rest : List Oper} {l l' : Fr} {H H' H2 Hr : List Ent} {x : Code} {K : Act → World → Prop} {d : Nat} {ty t e : TypeId} {pos : String} {af : Array Edge} {y z : Operand} {r : Rp} {sz : Nat}
theorem JL (is:List Nat)(h:WK n c K l H2)(hp:Pk is H H2:=by repeat (first | exact Amq | apply Amp | exact Ani | apply Anh)):WK n c K l H:=AiG hp.go h
theorem EX (is:List Nat){Hin:List Ent}(hcall:∀(as1:Array Value) (w:World),(callFunc f as1).run P w = .ok (.enter f as1) w)(hc:Fn P c.E f rs Hin Φ)
  (h:∀r Ho,Φ r Ho→WL P n c ops Q rest ((d,r)::l) (Ho++Hr)) (hv:Ph l args=some rs:=by rfl) (hp:Pk is H (Hin++Hr):=by repeat (first | exact Amq | apply Amp | exact Ani | apply Anh)) (hn:Nat.blt d n=true:=by rfl) :
  WL P n c ops Q ({ dst:=some d,op:=.call { callee:=.value (.func f),args:=args.toArray,argTypes:=ats },type:=ty,pos:=pos,after:=af,guard:=none }::rest) l H:=DH hcall hv hp.go hc hn h
theorem EG (h:WC P n c x Q l' H')(hl:l=l':=by first | (dsimp only;done) | (dsimp only;exact rfl) | exact rfl)(hH:H=H':=by first | (dsimp only;done) | (dsimp only;exact rfl) | exact rfl):WC P n c x Q l H:=Akz hl hH h
theorem Gw (h:WK n c K l' H')(hl:l=l':=by first | (dsimp only;done) | (dsimp only;exact rfl) | exact rfl)(hH:H=H':=by first | (dsimp only;done) | (dsimp only;exact rfl) | exact rfl):WK n c K l H:=Ami hl hH h
theorem us (i:Nat)(hag:∀w,(sizeOf t).run P w = .ok 1 w)(hx:ev l z=some (rv (.pointer (some ⟨b,off,none⟩))))(hy:ev l y=some r)(hv:Wh H r)(hi:H[i]? =some (.blk b cs e))(hlt:Nat.blt off cs.length=true)
  (h:WL P n c ops Q rest l H') (hcs:AfD off cs r cs':=by repeat (first | exact Alb | apply Ala)) (hH:AfD i H (.blk b cs' e) H':=by repeat (first | exact Alb | apply Ala)) :
  WL P n c ops Q ({ dst:=none,op:=.store t z y,type:=ty,pos:=pos,after:=af,guard:=none }::rest) l H:=Ac8 hag hx hy hv hi hlt hcs.go hH.go h
theorem Eu (i:Nat)(hsz:∀w,(sizeOf t).run P w = .ok sz w)(hx:ev l z=some (rv (.pointer (some ⟨b,off,none⟩))))(hy:ev l y=some (Cz rs))(hl:rs.length=sz)(hv:Bn H rs)(hi:H[i]? =some (.blk b cs e))(hlt:Nat.ble (off+sz) cs.length=true)
  (h:WL P n c ops Q rest l H') (hcs:Aku off rs cs cs':=by repeat (first | exact AnB | apply AnA | apply rr_s)) (hH:AfD i H (.blk b cs' e) H':=by repeat (first | exact Alb | apply Ala)) :
  WL P n c ops Q ({ dst:=none,op:=.store t z y,type:=ty,pos:=pos,after:=af,guard:=none }::rest) l H:=Zb hsz hx hy hl hv hi hlt (by rw[← hl];exact hcs.go) hH.go h
def frA (os:List Oper)(acc:List Rp)(t:Nat)(l0:Fr):List Nat→Fr
 | []=>l0
 | j::r=>match Di os j with
  | some d=>(d,acc.getD (t-1-j) (rv undef))::frA os acc t l0 r
  | none=>frA os acc t l0 r
def spA:List Oper→List Rp→List Sp
 | o::os,r::rs=>⟨Ei o,r,1⟩::spA os rs
 | _,_=>[]
theorem AcE:∀{os:List Oper} {rs:List Rp},os.length=rs.length→(spA os rs).length=os.length
 | [],[],_=>rfl
 | o::os,r::rs,h=>by rw[spA,Ap2,Ap2,AcE (by simpa using h)]
 | [],_::_,h=>by simp at h
 | _::_,[],h=>by simp at h
theorem Abn:∀{os:List Oper} {rs:List Rp} {i:Nat} {o:Oper} {r:Rp},os[i]? =some o→rs[i]? =some r→(spA os rs)[i]? =some ⟨Ei o,r,1⟩
 | o::os,r::rs,0,o',r',h1,h2=>by simp at h1 h2;subst h1;subst h2;rfl
 | o::os,r::rs,i+1,o',r',h1,h2=>by rw[spA,List.getElem?_cons_succ];exact Abn (by simpa using h1) (by simpa using h2)
 | [],_,i,_,_,h1,_=>by simp at h1
 | _::_,[],i,_,_,_,h2=>by simp at h2
def RdH (P:Program)(n:Nat)(c:Cx)(Q:Exit→Act→World→Prop)(os:List Oper)(l0:Fr)(H:List Ent)(acc:List Rp):Prop:=
 ∀(i:Nat) o r,os[i]? =some o→acc.reverse[i]? =some r→EV P n c os.toArray Q (frA os (acc.drop (acc.length-i)) i l0 (Ei o)) H o r H
def RdK (P:Program)(n:Nat)(c:Cx)(Q:Exit→Act→World→Prop)(os:List Oper)(l0:Fr)(H:List Ent)(G:Prop)(t:Nat)(acc:List Rp)(rest:List Oper):Prop:=
 rest=os.drop t→t=acc.length→RdH P n c Q os l0 H acc→G
theorem RdH.cons {os:List Oper}{l0:Fr}{acc:List Rp}{o:Oper}{r:Rp}(h:RdH P n c Q os l0 H acc)(ho:os[acc.length]? =some o)(hr:EV P n c os.toArray Q (frA os acc acc.length l0 (Ei o)) H o r H):RdH P n c Q os l0 H (r::acc):=λi o' r' h1 h2=>by
 rw[List.reverse_cons] at h2
 by_cases hi:i<acc.length
 ·rw[Aqf (by simpa using hi)] at h2;have:=h i o' r' h1 h2;rw[Ap2,show acc.length+1-i=(acc.length-i)+1 from by omega,List.drop_succ_cons];exact this
 ·have hlt:=(List.getElem?_eq_some_iff.1 h2).1;simp at hlt;have e:i=acc.length:=by omega
  subst e;rw[List.getElem?_append_right (by simp)] at h2;simp at h2;subst h2;rw[ho] at h1;obtain rfl:=Option.some.inj h1;rw[Ap2,show acc.length+1-acc.length=1 from by omega,List.drop_succ_cons,List.drop_zero];exact hr
theorem Aib {os:List Oper}{acc:List Rp}{l0:Fr}{i:Nat}(hl:acc.length=os.length)(hi:i≤acc.length):∀{js:List Nat},(∀j∈js,j<i)→frA os (acc.drop (acc.length-i)) i l0 js=CT os (spA os acc.reverse) js l0
 | [],_=>rfl
 | j::js,h=>by
  have hj:=h j (by simp);have ih:=Aib (l0:=l0) hl hi (js:=js) λj' hj'=>h j' (by simp[hj']);unfold frA CT;have ho:os[j]? =some (os[j]'(by omega)):=Apw (by omega);have hr:acc.reverse[j]? =some (acc.reverse[j]'(by simp;omega)):=Apw (by simp;omega);have e:(acc.drop (acc.length-i)).getD (i-1-j) (rv undef)=(GB (spA os acc.reverse) j).r:=by
   unfold GB;rw[Apy,Apy,Abn ho hr,List.getElem?_drop,ApE];rw[Apw (by omega),ApE];show _=acc.reverse[j]'(by simp;omega);rw[List.getElem_reverse]
   congr 1
   omega
  rw[e,ih]<;>cases Di os j<;>rfl
theorem Dn (ks0:List Nat)(h:RdK P n c Q os l0 H (Kp ks0 l l0→WC P n c (.region id os.toArray true) Q l H) 0 [] os)(h0:Kp ks0 l l0:=by repeat (first | exact RX | (apply Pf;rfl) | (apply QY;rfl))):WC P n c (.region id os.toArray true) Q l H:=
 h (by simp) rfl (λi o r _ h2=>by simp at h2) h0
theorem IS {t:Nat}{acc:List Rp}{o:Oper}{r:Rp}{rest:List Oper}(hr:EV P n c os.toArray Q (frA os acc t l0 (Ei o)) H o r H)(h:RdK P n c Q os l0 H G (t+1) (r::acc) rest):RdK P n c Q os l0 H G t acc (o::rest):=λh1 h2 h3=>by
 subst h2;have ho:os[acc.length]? =some o:=by have:=congrArg (·[0]?) h1;simp at this;exact this.symm
 exact h (by have:=congrArg List.tail h1;simpa using this) rfl (h3.cons ho hr)
section
variable {os : List Oper} {l0 : Fr} {G : Prop} {t : Nat} {acc : List Rp} {r : Rp} {rest : List Oper} {op : Op} {j dj : Nat} {want b : Bool} {dd : Option Nat}
theorem rq (hr:Cd P n c (frA os acc t l0 (Ei { dst:=some d,op:=op,type:=ty,pos:=pos,after:=af,guard:=none })) H { dst:=some d,op:=op,type:=ty,pos:=pos,after:=af,guard:=none } r)(h:RdK P n c Q os l0 H G (t+1) (r::acc) rest) :
  RdK P n c Q os l0 H G t acc ({ dst:=some d,op:=op,type:=ty,pos:=pos,after:=af,guard:=none }::rest):=IS (CP hr) h
theorem rg (hb:b=want)(hr:Cd P n c (frA os acc t l0 (Ei { dst:=some d,op:=op,type:=ty,pos:=pos,after:=af,guard:=some (j,want) })) H { dst:=some d,op:=op,type:=ty,pos:=pos,after:=af,guard:=none } r)(h:RdK P n c Q os l0 H G (t+1) (r::acc) rest)
  (hj:Ed os.toArray j=some dj:=by rfl) (hv:look (frA os acc t l0 (Ei { dst:=some d,op:=op,type:=ty,pos:=pos,after:=af,guard:=some (j,want) })) dj=some (rB b):=by rfl) :
  RdK P n c Q os l0 H G t acc ({ dst:=some d,op:=op,type:=ty,pos:=pos,after:=af,guard:=some (j,want) }::rest):=IS (Ak8 hj hv hb (CP hr)) h
theorem ro (hb:b=want)(hr:EV P n c os.toArray Q (frA os acc t l0 (Ei { dst:=dd,op:=op,type:=ty,pos:=pos,after:=af,guard:=some (j,want) })) H { dst:=dd,op:=op,type:=ty,pos:=pos,after:=af,guard:=none } r H)(h:RdK P n c Q os l0 H G (t+1) (r::acc) rest)
  (hj:Ed os.toArray j=some dj:=by rfl) (hv:look (frA os acc t l0 (Ei { dst:=dd,op:=op,type:=ty,pos:=pos,after:=af,guard:=some (j,want) })) dj=some (rB b):=by rfl) :
  RdK P n c Q os l0 H G t acc ({ dst:=dd,op:=op,type:=ty,pos:=pos,after:=af,guard:=some (j,want) }::rest):=IS (Ak8 hj hv hb hr) h
theorem rz (hb:b = !want)(h:RdK P n c Q os l0 H G (t+1) (rv undef::acc) rest)
  (hj:Ed os.toArray j=some dj:=by rfl) (hv:look (frA os acc t l0 (Ei { dst:=dd,op:=op,type:=ty,pos:=pos,after:=af,guard:=some (j,want) })) dj=some (rB b):=by rfl) :
  RdK P n c Q os l0 H G t acc ({ dst:=dd,op:=op,type:=ty,pos:=pos,after:=af,guard:=some (j,want) }::rest):=IS (Alo hj hv hb) h
theorem ru (h:RdK P n c Q os l0 H G (t+1) (rv undef::acc) rest)
  (hj:Ed os.toArray j=some dj:=by rfl) (hv:look (frA os acc t l0 (Ei { dst:=dd,op:=op,type:=ty,pos:=pos,after:=af,guard:=some (j,want) })) dj=some (rv undef):=by rfl) :
  RdK P n c Q os l0 H G t acc ({ dst:=dd,op:=op,type:=ty,pos:=pos,after:=af,guard:=some (j,want) }::rest):=IS (AgZ hj hv) h
end
theorem re {ks0:List Nat}{t:Nat}{acc:List Rp}(ks:List Nat)(h:WK n c (Q .normal) l1 H)
  (hz:Kz ks os (spA os acc.reverse) l0 l1:=by repeat (first | (apply Al4;rfl) | (apply Al6;rfl) | apply Al5 | apply Al7 | exact RX | (apply Pf;rfl) | (apply QY;rfl)))
  (hm:P.follows .mixedOrders=true:=by kernel_rfl) (hB:okB n os os.length (Hp l0) (os.map Ei) (os.map λ_=>1)=true:=by kernel_rfl) (ht:t=os.length:=by rfl) :
  RdK P n c Q os l0 H (Kp ks0 l l0→WC P n c (.region id os.toArray true) Q l H) t acc []:=λ_ hl hob h0=>by
 have hlen:acc.length=os.length:=by omega
 have hsp:(spA os acc.reverse).length=os.length:=AcE (by simpa using hlen.symm);have key:∀{os:List Oper} {rs:List Rp},os.length=rs.length→(spA os rs).map (·.deps)=os.map Ei∧(spA os rs).map (·.kd)=os.map λ_=>1:=by
  intro os
  induction os with
  | nil=>intro rs h;cases rs with
   | nil=>exact⟨rfl,rfl⟩
   | cons _ _=>simp at h
  | cons o os ih=>intro rs h;cases rs with
   | nil=>simp at h
   | cons r rs=>obtain⟨h1,h2⟩:=ih (rs:=rs) (by simpa using h);exact⟨by simp[spA,h1],by simp[spA,h2]⟩
 obtain⟨k1,k2⟩:=key (os:=os) (rs:=acc.reverse) (by simpa using hlen.symm);have hlt:∀(i:Nat) o,os[i]? =some o→∀j∈Ei o,j<i:=by
  have hB':=hB;unfold okB at hB';simp only[Aps] at hB';have h1:=hB'.1.1.1.1.1.1;intro i o ho j hj;have hi:=(List.getElem?_eq_some_iff.1 ho).1;have h2:=List.all_eq_true.1 h1 i (List.mem_range.2 hi);have e:os.getD i default=o:=by rw[Apy,ho];rfl
  rw[e] at h2;exact ApH (List.all_eq_true.1 h2 j hj)
 have hobl:∀(k:Nat) (rest:List Oper),rest=os.drop k→Wi P n c os.toArray Q os (spA os acc.reverse) l0 (List.replicate (os.length+1) H) k rest (List.replicate (rest.length+1) H):=by
  intro k rest
  induction rest generalizing k with
  | nil=>intro _;exact trivial
  | cons o rest ih=>
   intro hr;have ho:os[k]? =some o:=by have:=congrArg (·[0]?) hr;simp at this;exact this.symm
   have hk:=(List.getElem?_eq_some_iff.1 ho).1;have hrr:acc.reverse[k]? =some (acc.reverse[k]'(by simp;omega)):=Apw (by simp;omega);have hs:GB (spA os acc.reverse) k=⟨Ei o,acc.reverse[k]'(by simp;omega),1⟩:=by
    unfold GB;rw[Apy,Abn ho hrr];rfl
   have ih:=ih (k+1) (by have:=congrArg List.tail hr;simpa using this);have hop:=hob k o _ ho hrr;rw[Aib hlen (by omega) (hlt k o ho)] at hop;rw[Ap2,List.replicate_succ,List.replicate_succ];refine⟨?_,by rw[← List.replicate_succ];exact ih⟩;rw[hs];exact⟨rfl,hop⟩
 refine GK (l0:=l0) (l1:=l1) ks0 (spA os acc.reverse) (List.replicate (os.length+1) H) ks (hobl 0 os (by simp)) h h0 hz hm (by rw[k1,k2];exact hB) hsp (by simp) (by simp[Apy,List.getElem?_replicate])
end
theorem SJ {P:Program}{n:Nat}{c:Cx}{x y:Code}{Q:Exit→Act→World→Prop}{l:Fr}{S:Type}(inv:S→Prop)(fr:S→Fr)(hp:S→List Ent)(h:WC P n c x (Exit.then (Ni n c inv fr hp) Q) l H)(h2:∀s,inv s→WC P n c y Q (fr s) (hp s)) :
  WC P n c x (Exit.then (λa w=>y.wp P Q a w) Q) l H:=λa w Z ha hw=>wp_mono (h a w Z ha hw) λe a w q=>by
 cases e with
 | normal=>obtain⟨s,Z,hi,hs,ht⟩:=q;exact h2 s hi a w Z hs ht
 | _=>exact q
end Go.Proofs.YtphnhpcjnmmhiaaGreatDoor.Q
