/-
  Texts of the proof, put together: ShelfV, PlD, PlE, FwJ, IdR, TzL, QG, QS, QO, RowQ, PQB, WQB, PVa, WVa, PVb, WVb, PVc, WVc, PVd, WVd, PVe, WVe, PVf, WVf, PM, PS, PSp, PUa, QU, QT, QN, QM, QI, QW, QV, PH, QJ, QX, QL, Q6, WUa, PUb, Q8, SpC, SpT, SpL, SpQ.
-/
import Derived.Test.YthbbedliepkakaaGreatDoorQC1
import Derived.Shelf.Strings.Builder1
import Derived.Shelf.Strings.Count
import Derived.Shelf.Strings.Search1
import Derived.Shelf.Strings.Search2
import Derived.Shelf.Strings.Search3
import Derived.Shelf.Small.Strs
import Derived.Shelf.LaysM
import Derived.Shelf.LaysC
import Derived.Test.YthbbedliepkakaaGreatDoorProg
import Derived.Lib.ItoaMem
import Derived.Shelf.Lays7
import Derived.Shelf.Spec.TrailingZeros
import Derived.Laws.BytesString
import Derived.Lib.Builder
import Derived.Lib.UnsafeStr
import Derived.Lib.AppendStr
import Derived.Laws.Externs
import Derived.Deep.Slices
import Derived.ChangeArms
import Derived.DataReads
import Derived.Laws.Tables
import Derived.Lib.Bytealg
import Derived.Lib.SmallJoins
import Derived.Laws.StructEq
import Derived.Laws.Cover3
import Derived.MapKept
import Derived.Maps.RangeRun
import GoSem.Op.IntBits
import GoSem.Op.Shift
import Derived.ScopeJumps
import Derived.Laws.CopyRow
import Derived.Laws.IdiomCopy
import Derived.Laws.OwnMore
import Derived.Shelf.SlSortCmp.NoneTotal
import Derived.Tactics
import Derived.Lib.Small
import Derived.Lib.Walk
import Derived.Sort.Grow
import Derived.Deep.QuietTactic
import Derived.BigQuiet
import Derived.LoopN
import Derived.StillTailTactics
namespace Go.Proofs
open Go.Shelf
def Tryz.lays138_ren:Go.Shelf.Ren:=⟨fun | 138=>130 | 195=>149 | 218=>150 | 143=>151 | 219=>121 | 217=>136 | 225=>137 | 224=>138 | 267=>139 | 266=>156 | 314=>157 | n=>n,fun | 9=>9 | 3=>3 | 4=>4 | 5=>5 | 0=>0 | 46=>112 | 146=>181 | 51=>133 | n=>n,fun | 1=>0 | n=>n⟩
theorem Tryz.lays138:Go.Proofs.Lays.n138 Tryz.prog Tryz.lays138_ren:={
 mixed:=by kernel_rfl
 f138:=Tryz.func130.trans (congrArg some (by kernel_rfl))
 f143:=Tryz.func151.trans (congrArg some (by kernel_rfl))
 f195:=Tryz.func149.trans (congrArg some (by kernel_rfl))
 f217:=Tryz.func136.trans (congrArg some (by kernel_rfl))
 f218:=Tryz.func150.trans (congrArg some (by kernel_rfl))
 f219:=Tryz.func121.trans (congrArg some (by kernel_rfl))
 f224:=Tryz.func138.trans (congrArg some (by kernel_rfl))
 f225:=Tryz.func137.trans (congrArg some (by kernel_rfl))
 f266:=Tryz.func156.trans (congrArg some (by kernel_rfl))
 f267:=Tryz.func139.trans (congrArg some (by kernel_rfl))
 f314:=Tryz.func157.trans (congrArg some (by kernel_rfl))
 t0:=Tryz.underlying0
 a0:=Tryz.isAgg0
 z0:=Tryz.sizeOf0
 v0:=Tryz.zeroValue0
 t3:=Tryz.underlying3
 a3:=Tryz.isAgg3
 z3:=Tryz.sizeOf3
 v3:=Tryz.zeroValue3
 t4:=Tryz.underlying4
 a4:=Tryz.isAgg4
 z4:=Tryz.sizeOf4
 v4:=Tryz.zeroValue4
 t5:=Tryz.underlying5
 a5:=Tryz.isAgg5
 z5:=Tryz.sizeOf5
 v5:=Tryz.zeroValue5
 t9:=Tryz.underlying9
 a9:=Tryz.isAgg9
 z9:=Tryz.sizeOf9
 v9:=Tryz.zeroValue9
 t46:=Tryz.underlying112
 a46:=Tryz.isAgg112
 z46:=Tryz.sizeOf112
 v46:=Tryz.zeroValue112
 t51:=Tryz.underlying133
 a51:=Tryz.isAgg133
 z51:=Tryz.sizeOf133
 v51:=Tryz.zeroValue133
 t146:=Tryz.underlying181
 a146:=Tryz.isAgg181
 z146:=Tryz.sizeOf181
 v146:=Tryz.zeroValue181
 g1:=by kernel_rfl }
open Go.RowKit Go.Lib in
theorem Tryz.strings_Count_one (s:ByteArray)(c:UInt8)(w:World) :
  Calls Tryz.prog 130 #[.string s,.string ⟨#[c]⟩] w λe w'=>e = .returned (.int .i64 (Lib.countByte s.data.toList c))∧w'=w:=Any.strings_Count_one Tryz.lays138 s c w
end Go.Proofs
namespace Go.Proofs.YthbbedliepkakaaGreatDoor
open Go
set_option linter.unusedVariables false
set_option linter.unusedSimpArgs false
open Go Go.RowKit
section
variable {P : Program} {n : Nat} {w0 : World} {M : List Nat} {l : Fr} {H : List Ent} {d : Option Nat} {x y : Operand} {ty t t' : TypeId} {pos : String} {af : Array Edge} {g : Option (Nat × Bool)} {k : IntKind} {p q z : Int}
end
set_option maxRecDepth 100000
end Go.Proofs.YthbbedliepkakaaGreatDoor
namespace Go.Proofs
open Go.Shelf
end Go.Proofs
namespace Go.Proofs.YthbbedliepkakaaGreatDoor.Q
open Go Go.RowKit
set_option linter.unusedVariables false
def GE (Z:Fz):Prop:=∀w,Oo Z w→Nw w
theorem GE.mono {Z Z':Fz}(h:Fz.le Z Z')(hg:GE Z):GE Z':=λw hw=>hg w ⟨λb o e=>hw b o (h b o e),λk i b e=>hw.nm k i b (h.nm k i b e)⟩
theorem J3.rle {P:Program}{E:Fz→Prop}{f:FuncId}{args:List Rp}{r r':Rp}(h:J3 P E f args r)(hr:Iz r r'):J3 P E f args r':=λw Z vs hv hs=>
 (h w Z vs hv hs).mono λe w' ⟨q,v,H,Z',he,⟨hq,hH⟩,hp,ht⟩=>⟨r',v,H,Z',he,⟨rfl,hH⟩,hr Z' v (hq▸hp),ht⟩
theorem Iz.tup2 {a b:Value}:Iz (rv (.tuple #[a,b])) (Dp [rv a,rv b]):=λZ v h=>⟨[a,b],h,rfl,rfl,trivial⟩
theorem J3.of_id {P:Program}{E:Fz→Prop}{f:FuncId}{vs:List Value}{v:Value}(h:∀w,Calls P f vs.toArray w (λe w'=>e = .returned v∧w'=w)):J3 P E f (vs.map rv) (rv v):=
 J3.of_old λw Z _ _=>(h w).mono λe w' ⟨he,hw⟩=>⟨he,by rw[hw];exact Proofs.YthbbedliepkakaaGreatDoor.St.refl w []⟩
theorem LL (m:Int)(g:BQ .i64 m=true):J3 Tryz.prog GE 65 [rI .i64 m] (rS (Lib.itoa m)):=J3.of_old (vs:=[.int .i64 m]) λw Z hf he=>P5 m (Gy g).1 (Gy g).2 w (he w hf)
theorem Q4 (s:A9)(g:Js 1 s.length=true):J3 Tryz.prog GE 82 [rS s] (Dp [rI .i64 (B3 s),rI .i64 (Cw s)]):=(J3.of_old (vs:=[.string (B s)]) λw Z hf he=>Q5 s (by simp[Js] at g;omega) w (he w hf)).rle Iz.tup2
theorem No (s:A9)(c:UInt8):J3 Tryz.prog GE 130 [rS s,rS [c]] (rI .i64 (Lib.countByte s c)):=J3.of_id (vs:=[.string (B s),.string (B [c])]) λw=>by have:=Tryz.strings_Count_one (B s) c w;rwa [MC] at this
theorem SF (s:A9)(m:Int):J3 Tryz.prog GE 136 [rS s,rI .u8 m] (rI .i64 (Lib.indexByte s (Int.toNat m).toUInt8)):=J3.of_old (vs:=[.string (B s),.int .u8 m]) λw Z hf he=>LI s m w
theorem Oa (s:A9):J3 Tryz.prog GE 75 [rS s] (rB (Eb s)):=J3.of_old (vs:=[.string (B s)]) λw Z hf he=>Tg s w
set_option linter.unusedSimpArgs false
theorem JJ (l:List UInt8):((Ot l).map HF).flatten=(l.map λc=>Value.int .u8 c.toNat).map rv:=by
 induction l with
 | nil=>rfl
 | cons c r ih=>simp only[Ot,Ul,List.flatten_cons] at ih ⊢;rw[ih];rfl
theorem MM (l:List UInt8):(Ot l).length=l.length:=by simp[Ot]
section
variable {P : Program} {n : Nat} {c : Cx} {ops : Array Oper} {Q : Exit → Act → World → Prop} {rest : List Oper} {l : Fr} {H H' : List Ent} {d : Nat} {d' : Option Nat} {x y z3 : Operand} {ty t t' e : TypeId} {pos : String} {af : Array Edge} {g : Option (Nat × Bool)} {v u : Value} {r : Rp} {sz : Nat} {K : Act → World → Prop}
theorem Fn.bld {E:Fz→Prop}{f:FuncId}{args:List Rp}{T te:TypeId}{b:Nat}{v:Value}{s s':List UInt8}{res:Rp}
  (h:∀p,(p = .pointer none∨p = .pointer (some ⟨b,0,none⟩))→Fn P E f args [.blk b [rv p,rv v] T,.row v te 1 ((Ot s).map HF)] (λR H=>∃w0:Value,R=res∧H=[.blk b [rv (.pointer (some ⟨b,0,none⟩)),rv w0] T,.row w0 te 1 ((Ot s').map HF)])) :
  Fn P E f args [.bld T te b v s] (λR H=>∃w0:Value,R=res∧H=[.bld T te b w0 s']):=λw Z vs hv hs=>by
 obtain⟨p,hp,h1,h2,h3⟩:=hs.has _ (List.mem_singleton.2 rfl);have hfoot:[Ent.bld T te b v s].flatMap Ent.foot=[Ent.blk b [rv p,rv v] T,Ent.row v te 1 ((Ot s).map HF)].flatMap Ent.foot:=by simp[Ent.foot]
 have hs':St ⟨w,Z,[Ent.blk b [rv p,rv v] T,Ent.row v te 1 ((Ot s).map HF)].flatMap Ent.foot,E,[]⟩ [Ent.blk b [rv p,rv v] T,Ent.row v te 1 ((Ot s).map HF)] Z w:=by
  refine⟨rfl,rfl,rfl,TH _,λ_ _ _=>rfl,?_,λe he k hk=>.inr (List.mem_flatMap.2 ⟨e,he,hk⟩),?_,hs.frz,Fz.le.refl _,λ_ _ e=>.inl e,λe he k hk=>?_,hs.env,hs.emono,HL.none rfl⟩
  ·intro e he;simp only[Uq,List.not_mem_nil,or_false] at he;rcases he with rfl | rfl
   ·exact⟨[p,v],h1,rfl,rfl,trivial⟩
   ·refine⟨λcl hcl=>by obtain⟨z,_,rfl⟩:=List.mem_map.1 hcl;rfl,_,by simpa[MM] using h2,?_⟩;rw[JJ];exact AO.rvs Z _
  ·refine List.pairwise_cons.2 ⟨λe he k hk hk'=>?_,List.pairwise_singleton ..⟩;simp only[TL] at he;subst he;simp only[Ent.foot,TL] at hk;subst hk;simp only[Ent.foot,Option.mem_toList] at hk';exact h3 hk'
  ·have hmem:k∈[Ent.bld T te b v s].flatMap Ent.foot:=by rw[hfoot];exact List.mem_flatMap.2 ⟨e,he,hk⟩
   obtain⟨e',he',hk'⟩:=List.mem_flatMap.1 hmem;exact hs.zdis e' he' k hk'
 rw[hfoot] at hs ⊢;refine(h p hp w Z vs hv hs').mono λe w' ⟨R,vv,H,Z',he,⟨w0,hR,hH⟩,hpR,ht⟩=>⟨R,vv,[.bld T te b w0 s'],Z',he,⟨w0,hR,rfl⟩,hpR,?_⟩
 subst hH;obtain⟨us,k1,k2⟩:=ht.has (.blk b [rv (.pointer (some ⟨b,0,none⟩)),rv w0] T) (by simp);obtain⟨k3,ws,k4,k5⟩:=ht.has (.row w0 te 1 ((Ot s').map HF)) (by simp);have e1:=AO.eq_rv (us:=[.pointer (some ⟨b,0,none⟩),w0]) k2;subst e1;rw[JJ] at k5;have e2:=AO.eq_rv k5;subst e2;have hd:=List.pairwise_cons.1 ht.dis;have hne:w0.ownBlock≠some b:=λhb=>hd.1 _ (List.mem_singleton.2 rfl) b (by simp[Ent.foot]) (by simp[Ent.foot,hb]);refine { ht with has:=?_,own:=?_,dis:=List.pairwise_singleton ..,zdis:=?_,gst:=⟨by simp[Ent.gk],by simp[Ent.gk],List.pairwise_singleton ..,ht.gst.new,by simp[Ent.gk]⟩ }
 ·intro e' he';simp only[TL] at he';subst he';exact⟨_,.inr rfl,k1,by simpa[MM] using k4,hne⟩
 ·intro e' he' k hk;simp only[TL] at he';subst he';simp only[Ent.foot,Uq] at hk;rcases hk with rfl | hk
  ·exact ht.own (.blk k [rv (.pointer (some ⟨k,0,none⟩)),rv w0] T) (by simp) k (by simp[Ent.foot])
  ·exact ht.own (.row w0 te 1 ((Ot s').map HF)) (by simp) k hk
 ·intro e' he' k hk;simp only[TL] at he';subst he';simp only[Ent.foot,Uq] at hk;rcases hk with rfl | hk
  ·exact ht.zdis (.blk k [rv (.pointer (some ⟨k,0,none⟩)),rv w0] T) (by simp) k (by simp[Ent.foot])
  ·exact ht.zdis (.row w0 te 1 ((Ot s').map HF)) (by simp) k hk
theorem NP {p:Addr}(hu:∃e',P.underlying t=some (.pointer e'))(hx:ev l x=some (rv (.pointer (some p)))):Bh P n c l H { dst:=d',op:=.binOp .neq t x (.const (.pointer none)) t',type:=ty,pos:=pos,after:=af,guard:=g } (rB true):=λa w Z ha _=>CJ<|by
 obtain⟨e',hu⟩:=hu;have h1:∀dd:Nat,(Op.equalIn (dd+1) t (.pointer (some p)) (.pointer none)).run P w = .ok false w:=λdd=>by simp[Op.equalIn,run_underlying hu]
 have h2:(Op.equal t (.pointer (some p)) (.pointer none)).run P w = .ok false w:=h1 9999;have h3:(eqGuard .neq t x (.const (.pointer none)) (.pointer (some p)) (.pointer none)).run P w = .ok () w:=by unfold eqGuard;split<;>simp
 have hy:a.eval (.const (.pointer none)) = .pointer none:=rfl;simp only[execOp,ha.eval hx,hy,Sem.run_bind,h3,Result.andThen_ok,binOp,h2,Sem.run_pure];rfl
section
variable {P : Program} {n : Nat} {c : Cx} {l : Fr} {H : List Ent} {d' : Option Nat} {x : Operand} {ty t t' e : TypeId} {pos : String} {af : Array Edge} {g : Option (Nat × Bool)} {v : Value}
end
theorem Lt {f:FuncId}{args:List Operand}{ats:Array TypeId}{o:Oper}{a:Act}{caps:List Value}(ho:o.op = .call { callee:=.value x,args:=args.toArray,argTypes:=ats })(hx:a.eval x = .func (.func f) #[] caps.toArray)
  (hcall:∀(as1:Array Value) (w:World),(callFunc f as1).run P w = .ok (.enter f as1) w) (w:World):(execOp a.eval o).run P w = .ok (.enter f (args.map a.eval++caps).toArray) w:=by
 simp[execOp,ho,resolve,hx,Deferred.ofValue,invoke,hcall]
theorem Hg {f:FuncId}{args:List Operand}{ats:Array TypeId}{rs:List Rp}{caps:List Value}{Hin Hr:List Ent}{Φ:Rp→List Ent→Prop}(hcall:∀(as1:Array Value) (w:World),(callFunc f as1).run P w = .ok (.enter f as1) w)(hx:ev l x=some (rv (.func (.func f) #[] caps.toArray)))(hv:I9 l args=some rs)
  (hp:H.Perm (Hin++Hr)) (hc:Fn P c.E f (rs++caps.map rv) Hin Φ) (hn:Nat.blt d n=true) (h:∀r Ho,Φ r Ho→WL P n c ops Q rest ((d,r)::l) (Ho++Hr)) :
  WL P n c ops Q ({ dst:=some d,op:=.call { callee:=.value x,args:=args.toArray,argTypes:=ats },type:=ty,pos:=pos,after:=af,guard:=none }::rest) l H:=
 He (args:=λa=>(args.map a.eval++caps).toArray) (λa w Z ha hw=>⟨Lt rfl (ha.eval hx) hcall w,by
  have hw2:=hw.perm hp;refine(hc w Z _ (by have:=(El ha hv).append (AO.rvs Z caps);simpa using this) hw2.enter).mono ?_;rintro e w' ⟨r,v,Ho,Z',he,hΦ,hr,hs⟩;exact⟨v,r,Ho++Hr,Z',he,hs.le,hr,hw2.call hs,h r Ho hΦ⟩⟩) hn
end
section
variable {P : Program} {n : Nat} {c : Cx} {ops : Array Oper} {Q : Exit → Act → World → Prop} {rest : List Oper} {l : Fr} {H : List Ent} {d : Nat} {ty : TypeId} {pos : String} {af : Array Edge} {r : Rp} {x y z3 : Operand}
theorem wo {d:Option Nat}{op:Op}{j dj:Nat}{want b:Bool}(hb:b=want)(h:WL P n c ops Q ({ dst:=d,op:=op,type:=ty,pos:=pos,after:=af,guard:=none }::rest) l H)(hj:CC ops j=some dj:=by rfl)(hv:look l dj=some (rB b):=by rfl) :
  WL P n c ops Q ({ dst:=d,op:=op,type:=ty,pos:=pos,after:=af,guard:=some (j,want) }::rest) l H:=AR hj hv hb h
theorem wf {op:Op}{j dj:Nat}{want b:Bool}(hb:b = !want)(h:WL P n c ops Q rest ((d,rv undef)::l) H)(hj:CC ops j=some dj:=by rfl)(hv:look l dj=some (rB b):=by rfl)(hn:Nat.blt d n=true:=by rfl) :
  WL P n c ops Q ({ dst:=some d,op:=op,type:=ty,pos:=pos,after:=af,guard:=some (j,want) }::rest) l H:=Ak hj hv hb hn h
theorem wu {op:Op}{j dj:Nat}{want:Bool}(h:WL P n c ops Q rest ((d,rv undef)::l) H)(hj:CC ops j=some dj:=by rfl)(hv:look l dj=some (rv undef):=by rfl)(hn:Nat.blt d n=true:=by rfl) :
  WL P n c ops Q ({ dst:=some d,op:=op,type:=ty,pos:=pos,after:=af,guard:=some (j,want) }::rest) l H:=Dz hj hv hn h
theorem wv {op:Op}(hr:Bh P n c l H { dst:=some d,op:=op,type:=ty,pos:=pos,after:=af,guard:=none } r)(h:WL P n c ops Q rest ((d,r)::l) H)(hn:Nat.blt d n=true:=by rfl):WL P n c ops Q ({ dst:=some d,op:=op,type:=ty,pos:=pos,after:=af,guard:=none }::rest) l H:=A0 hr hn h
theorem wm (h:ev l x=some r)(hk:WL P n c ops Q rest ((d,r)::l) H)(hn:Nat.blt d n=true:=by rfl):WL P n c ops Q ({ dst:=some d,op:=.move x,type:=ty,pos:=pos,after:=af,guard:=none }::rest) l H:=A0 (Aw h) hn hk
theorem wa (h:ev l x=some r)(hk:WL P n c ops Q rest ((d,r)::l) H)(hn:Nat.blt d n=true:=by rfl):WL P n c ops Q ({ dst:=some d,op:=.assign x,type:=ty,pos:=pos,after:=af,guard:=none }::rest) l H:=A0 (Aj h) hn hk
theorem DB {b:Bool}(hc:ev l z3=some (rB b))(hb:b=true)(h:ev l x=some r)(hk:WL P n c ops Q rest ((d,r)::l) H)(hn:Nat.blt d n=true:=by rfl):WL P n c ops Q ({ dst:=some d,op:=.pick z3 x y,type:=ty,pos:=pos,after:=af,guard:=none }::rest) l H:=A0 (Ar hc hb h) hn hk
theorem EK {b:Bool}(hc:ev l z3=some (rB b))(hb:b=false)(h:ev l y=some r)(hk:WL P n c ops Q rest ((d,r)::l) H)(hn:Nat.blt d n=true:=by rfl):WL P n c ops Q ({ dst:=some d,op:=.pick z3 x y,type:=ty,pos:=pos,after:=af,guard:=none }::rest) l H:=A0 (A1 hc hb h) hn hk
theorem In {f:FuncId}{args:List Operand}{ats:Array TypeId}{rs:List Rp}(hcall:∀(as1:Array Value) (w:World),(callFunc f as1).run P w = .ok (.enter f as1) w)(hc:J3 P c.E f rs r)(hv:I9 l args=some rs)(h:WL P n c ops Q rest ((d,r)::l) H)(hn:Nat.blt d n=true:=by rfl) :
  WL P n c ops Q ({ dst:=some d,op:=.call { callee:=.value (.func f),args:=args.toArray,argTypes:=ats },type:=ty,pos:=pos,after:=af,guard:=none }::rest) l H:=CN hcall hv hc rfl hn h
theorem Ep {f:FuncId}{args:List Operand}{ats:Array TypeId}{rs:List Rp}{Hin Hr:List Ent}{Φ:Rp→List Ent→Prop}(hcall:∀(as1:Array Value) (w:World),(callFunc f as1).run P w = .ok (.enter f as1) w)(hc:Fn P c.E f rs Hin Φ)(hv:I9 l args=some rs)
  (hp:H.Perm (Hin++Hr)) (hn:Nat.blt d n=true) (h:∀r Ho,Φ r Ho→WL P n c ops Q rest ((d,r)::l) (Ho++Hr)) :
  WL P n c ops Q ({ dst:=some d,op:=.call { callee:=.value (.func f),args:=args.toArray,argTypes:=ats },type:=ty,pos:=pos,after:=af,guard:=none }::rest) l H:=Df hcall hv hp hc hn h
theorem Pf {opsA:Array Oper}{f:FuncId}{args:List Operand}{ats:Array TypeId}{rs:List Rp}(hcall:∀(as1:Array Value) (w:World),(callFunc f as1).run P w = .ok (.enter f as1) w)(hc:J3 P c.E f rs r)(hv:I9 l args=some rs) :
  CE P n c opsA Q l H { dst:=some d,op:=.call { callee:=.value (.func f),args:=args.toArray,argTypes:=ats },type:=ty,pos:=pos,after:=af,guard:=none } r H:=L3 hcall hv hc rfl
theorem wt {K:Exit→Act→World→Prop}{l1:Fr}{H1:List Ent}(hl:AN l1 l:=by repeat (first | exact AN.nil | refine AN.c rfl ?_))(hH:H1.Sublist H:=by repeat (first | exact sN | refine sC ?_ | refine sS ?_)):WK n c (Exit.then (Sn n c l1 H1) K .normal) l H:=Az (By hl hH)
theorem BA {p:Prop}(hp:p){K:Exit→Act→World→Prop}{l1:Fr}{H1:List Ent}(hl:p→AN l1 l:=by intro hp;repeat (first | exact AN.nil | refine AN.c rfl ?_ | refine AN.c (by first | (simp only[hp];rfl) | simp[hp]) ?_))(hH:H1.Sublist H:=by repeat (first | exact sN | refine sC ?_ | refine sS ?_)):WK n c (Exit.then (Sn n c l1 H1) K .normal) l H:=Az (By (hl hp) hH)
end
open Go Go.RowKit Go.ChangeShapes Go.Deep
def ZW (W:World):Fz:=⟨λb=>W.heap[b]?,λ_ _=>none⟩
theorem ZW.frz (W:World):Oo (ZW W) W:=⟨λ_ _ h=>h,λ_ _ _ h=>by cases h⟩
def Hb (P:Program)(e:TypeId){α:Type}(enc:α→List Rp)(ok:α→Bool):Prop:=
 ∀{H:Type} {encH:TypeId×Value→H} {W:World} {sp:Nat→Bool} {held:Bool} {n:Nat} {cs:List Value} {x:DataW H×List MemPlace},DataW.trod encH P W 0 sp held n e cs=some x→∃y:α,ok y=true∧AO (ZW W) (enc y) cs
section
variable {P : Program} {e t : TypeId}
theorem Hb.int {k:IntKind}{enc:Int→List Rp}(ht:P.underlying e=some (.int k))(he:∀n,enc n=[rI k n]):Hb P e enc (BQ k):=λh=>by
 obtain⟨n,rfl,_,hwf⟩:=DataW.trod_int ht h;exact⟨n,hwf,by rw[he];exact⟨rfl,trivial⟩⟩
theorem Hb.str {enc:A9→List Rp}(ht:P.underlying e=some .string)(he:∀n,enc n=[rS n]):Hb P e enc PS:=λh=>by
 obtain⟨s,rfl,_,hl⟩:=DataW.trod_string ht h;exact⟨s.data.toList,T4 (by rw[Array.length_toList];exact hl),by rw[he];exact⟨congrArg Value.string (Tl s),trivial⟩⟩
theorem Hb.bool {enc:Bool→List Rp}(ht:P.underlying e=some .bool)(he:∀n,enc n=[rB n]):Hb P e enc (λ_=>true):=λh=>by
 obtain⟨b,rfl,_⟩:=DataW.trod_bool ht h;exact⟨b,rfl,by rw[he];exact⟨rfl,trivial⟩⟩
theorem Kg {W:World}{a:Addr}{v:Value}(h:W.cell? a=some v):a.spot=none∧EC (ZW W) a.block a.off=some v:=by
 unfold World.cell? at h;unfold EC ZW;dsimp only
 cases hh:W.heap[a.block]? with
 | none=>rw[hh] at h;cases h
 | some o=>
  rw[hh] at h
  cases o with
  | cells cs t fz=>
   cases hs:a.spot with
   | none=>simp[hs] at h;exact⟨rfl,h⟩
   | some _=>simp[hs] at h
  | _=>simp at h
theorem Hb.slice {α:Type}[Inhabited α]{enc:α→List Rp}{ok:α→Bool}{sz:Nat}(ht:P.underlying t=some (.slice e))(hc:P.cellsOf e=sz)(hsz:0<sz)(h:Hb P e enc ok)(hlen:∀y,(enc y).length=sz){enc':List α→List Rp}(he:∀ys,enc' ys=[BO sz (ys.map enc)]) :
  Hb P t enc' (λys=>ys.all ok&&decide (ys.length≤9223372036854775807)):=fun {H encH W sp held n cs x} hx=>by
 rcases open_slice ht hx with⟨rfl,_⟩ | ⟨a,len,cap,m,n',D,Pl,rfl,hb,hl,hm,hmm,_,hel⟩
 ·exact⟨[],by simp,by rw[he];exact⟨Nu.nil sz _,trivial⟩⟩
 ·have hlm:len≤m:=by rw[hmm];split<;>omega
  have each:∀i,i<len→∃y:α,ok y=true∧∃cs',W.cells? 0 (a.add (i*sz)) sz=some cs'∧AO (ZW W) (enc y) cs':=λi hi=>by
   obtain⟨cs',h1,h2⟩:=hel i (by omega);obtain⟨y,hy,hr⟩:=h h2;rw[hc] at h1;exact⟨y,hy,cs',h1,hr⟩
  obtain⟨f,hf⟩:=choose_lt each;refine⟨(List.range len).map f,?_,?_⟩
  ·simp only[T6,TO,List.mem_map,List.mem_range,T1];refine⟨?_,by simp;simp only[maxLen] at hm;omega⟩;rintro _ ⟨i,hi,rfl⟩;exact(hf i hi).1
  ·rw[he];refine⟨⟨some a,cap,by simp,by simpa using hl,hm,(λh=>by cases h),λi c hi=>?_⟩,trivial⟩;rw[Us,Uc] at hi;have hil:i<len:=by
    cases hq:(List.range len)[i]? with
    | none=>rw[hq] at hi;cases hi
    | some _=>have:=(List.getElem?_eq_some_iff.1 hq).1;simpa using this
   rw[List.getElem?_range hil] at hi;simp only[Option.map_some,Option.some.injEq,Function.comp] at hi;subst hi;obtain⟨_,cs',h1,hr⟩:=hf i hil;obtain⟨_,hcl,hcell⟩:=World.cells?_some h1;have hsp:a.spot=none:=by
    obtain⟨_,cs0,g1,_⟩:=hf 0 (by omega);obtain⟨_,gcl,gcell⟩:=World.cells?_some g1;have h0:=gcell 0 hsz;rw[T3 (by omega)] at h0;have:=(Kg h0).1;simpa[Addr.add] using this
   refine⟨hlen _,a,rfl,hsp,λj r hj=>?_⟩;obtain⟨u,hu,hp⟩:=hr.at hj;have hjs:j<sz:=by have:=(List.getElem?_eq_some_iff.1 hj).1;rw[hlen] at this;exact this
   have h3:=hcell j hjs;rw[hu] at h3;have h4:=(Kg h3).2;refine⟨u,?_,hp⟩;have e1:((a.add (i*sz)).add j).block=a.block:=by simp only[Addr.add];split<;>split<;>rfl
   have e2:((a.add (i*sz)).add j).off=a.off+(i*sz+j):=by simp only[Addr.add];split<;>split<;>simp_all<;>omega
   rw[e1,e2] at h4;exact h4
theorem II {Z:Fz}{cs:List Value}{o:Nat}(h:cs.length=o):AO Z [] (cs.drop o):=by rw[List.drop_of_length_le (by omega)];trivial
theorem BB {Z:Fz}{cs:List Value}{o s o':Nat}{rs rs':List Rp}(h:AO Z rs ((cs.drop o).take s))(ho:o+s=o')(h2:AO Z rs' (cs.drop o')):AO Z (rs++rs') (cs.drop o):=by
 rw[← List.take_append_drop s (cs.drop o),List.drop_drop];subst ho;exact h.append h2
theorem Hb.val {α:Type}{enc:α→List Rp}{ok:α→Bool}(h:Hb P e enc ok){r:α→Rp}(he:∀y,enc y=[r y]){H:Type}{encH:TypeId×Value→H}{W:World}{sp:Nat→Bool}{held:Bool}{v:Value}{d:DataW H}{ps:List MemPlace}
  (hone:v.cells = #[v]) (ht:DataW.Trod encH P W 0 sp held e v d ps):∃y:α,ok y=true∧(r y).p (ZW W) v:=by
 obtain⟨fuel,hf⟩:=ht;rw[hone] at hf;obtain⟨y,hy,hr⟩:=h hf;rw[he] at hr;exact⟨y,hy,hr.1⟩
theorem Hb.valAgg {α:Type}{enc:α→List Rp}{ok:α→Bool}(h:Hb P e enc ok){H:Type}{encH:TypeId×Value→H}{W:World}{sp:Nat→Bool}{held:Bool}{cs:Array Value}{d:DataW H}{ps:List MemPlace}
  (ht:DataW.Trod encH P W 0 sp held e (.agg cs) d ps):∃y:α,ok y=true∧(Bx (enc y)).p (ZW W) (.agg cs):=by
 obtain⟨fuel,hf⟩:=ht;obtain⟨y,hy,hr⟩:=h hf;exact⟨y,hy,cs.toList,by simp,hr⟩
end
theorem P4 {W w:World}(hw:Oo (ZW W) w):W.heap.size≤w.heap.size:=by
 rcases Nat.eq_zero_or_pos W.heap.size with h | h
 ·omega
 ·have h1:W.heap[W.heap.size-1]? =some (W.heap[W.heap.size-1]'(by omega)):=Array.getElem?_eq_getElem (by omega);have:=(Array.getElem?_eq_some_iff.1 (hw _ _ h1)).1;omega
theorem Ob {W:World}(hE:Nw W):GE (ZW W):=λw hw=>by
 have hb:Below W.heap.size W { w with os:=W.os,tape:=W.tape,output:=W.output }:=⟨rfl,rfl,rfl,(show W.heap.size≤w.heap.size from P4 hw),λk hk=>by
  have h1:W.heap[k]? =some (W.heap[k]'hk):=Array.getElem?_eq_getElem hk;rw[h1];exact hw k _ h1⟩
 have hE2:=hE.st0 (St.of_below hb);exact⟨KT.block { w with os:=W.os,tape:=W.tape,output:=W.output } w (λ_ _=>rfl) hE2.tabs,hE2.size⟩
theorem OH {W:World}(hE:Nw W):St ⟨W,ZW W,[],GE,[]⟩ [] (ZW W) W where
 os:=rfl
 tape:=rfl
 output:=rfl
 size:=TH _
 old:=λ_ _ _=>rfl
 has:=λ_ h=>by cases h
 own:=λ_ h=>by cases h
 dis:=.nil
 frz:=ZW.frz W
 le:=Fz.le.refl _
 new:=λ_ _ h=>.inl h
 zdis:=λ_ h=>by cases h
 env:=Ob hE
 emono:=λh hg=>GE.mono h hg
 gst:=HL.none rfl
theorem OI {W W':World}{Z Z':Fz}{E:Fz→Prop}{H:List Ent}(h:St ⟨W,Z,[],E,[]⟩ H Z' W'):Below W.heap.size W W':=⟨h.os,h.tape,h.output,h.size,λk hk=>h.old k hk (by simp)⟩
open Go
set_option maxRecDepth 100000
set_option maxHeartbeats 4000000
end Go.Proofs.YthbbedliepkakaaGreatDoor.Q
namespace Go.Proofs.YthbbedliepkakaaGreatDoor
open Go
set_option linter.unusedVariables false
structure Am where
 fKind:Int
 fInt:Int
 fStr:A9
 fN:Int
 deriving DecidableEq,Inhabited
def NH (s:A9)(ha:Int):Option (Stp (Int) (Out (Bool) (Unit))):=
 B1 (decide (ha<(s.length:Int))) (Bo (C2 ha (s.length:Int))<|B1 (((decide ((DN s ha)<32))||(decide (126<(DN s ha))))) (some (.out (.ret false))) (Bo (BQ .i64 (ha+1))<|some (.next (ha+1)))) (some (.out (.go ())))
def NF :Option (Bool):=
 some true
def K1 (F:Nat)(s:A9):Option (Bool):=
 BM (Cn (λσ=>NH s σ) F 0) (Ca λν=>NF )
def BW (ok:Bool)(i:Int):Option (Int):=
 B1 (ok) (Bo (BQ .i64 (i+1))<|some (i+1)) (some (-1))
def OW (F:Nat)(c:Am):Option (Bool):=
 Bo (imp (decide (c.fKind=4)) (imp (decide (c.fInt=0)) (imp (decide (c.fN=0)) ((K1 F c.fStr).isSome))))<|some ((decide (c.fKind=4))&&((decide (c.fInt=0))&&((decide (c.fN=0))&&(ov (K1 F c.fStr)))))
def OU (F:Nat)(ha:(List Am)→Int→Int→Option (Int))(hb:(List Am)→Int→Int→Option (Int))(v:(List Am))(i:Int):Option (Int):=
 B1 (((decide (i<0))||(decide ((v.length:Int)≤i)))) (some (-1)) (Bo (C2 i (v.length:Int))<|B1 (decide (((Ac v i).fKind)=1)) (Bo (imp (decide (((Ac v i).fInt)=0)) (imp (decide (((Ac v i).fStr)=([]:A9))) ((BW (decide (((Ac v i).fN)=0)) i).isSome)))<|Bo (imp (decide (((Ac v i).fInt)=0)) (imp (!(decide (((Ac v i).fStr)=([]:A9)))) ((BW false i).isSome)))<|Bo (imp (!(decide (((Ac v i).fInt)=0))) ((BW false i).isSome))<|some (bif decide (((Ac v i).fInt)=0) then(bif decide (((Ac v i).fStr)=([]:A9)) then(ov (BW (decide (((Ac v i).fN)=0)) i)) else(ov (BW false i))) else(ov (BW false i)))) (B1 (decide (((Ac v i).fKind)=2)) (Bo (imp (decide (((Ac v i).fInt)=0)) (imp (decide (((Ac v i).fStr)=([]:A9))) ((BW (decide (((Ac v i).fN)=0)) i).isSome)))<|Bo (imp (decide (((Ac v i).fInt)=0)) (imp (!(decide (((Ac v i).fStr)=([]:A9)))) ((BW false i).isSome)))<|Bo (imp (!(decide (((Ac v i).fInt)=0))) (imp (decide (((Ac v i).fInt)=1)) (imp (decide (((Ac v i).fStr)=([]:A9))) ((BW (decide (((Ac v i).fN)=0)) i).isSome))))<|Bo (imp (!(decide (((Ac v i).fInt)=0))) (imp (decide (((Ac v i).fInt)=1)) (imp (!(decide (((Ac v i).fStr)=([]:A9)))) ((BW false i).isSome))))<|Bo (imp (!(decide (((Ac v i).fInt)=0))) (imp (!(decide (((Ac v i).fInt)=1))) ((BW false i).isSome)))<|some (bif decide (((Ac v i).fInt)=0) then(bif decide (((Ac v i).fStr)=([]:A9)) then(ov (BW (decide (((Ac v i).fN)=0)) i)) else(ov (BW false i))) else(bif decide (((Ac v i).fInt)=1) then(bif decide (((Ac v i).fStr)=([]:A9)) then(ov (BW (decide (((Ac v i).fN)=0)) i)) else(ov (BW false i))) else(ov (BW false i))))) (B1 (decide (((Ac v i).fKind)=3)) (Bo (imp (decide (((Ac v i).fStr)=([]:A9))) ((BW (decide (((Ac v i).fN)=0)) i).isSome))<|Bo (imp (!(decide (((Ac v i).fStr)=([]:A9)))) ((BW false i).isSome))<|some (bif decide (((Ac v i).fStr)=([]:A9)) then(ov (BW (decide (((Ac v i).fN)=0)) i)) else(ov (BW false i)))) (B1 (decide (((Ac v i).fKind)=4)) (BM (OW F (Ac v i)) λhd=>BM (BW hd i) λhe=>some he) (B1 (((decide (((Ac v i).fKind)=5))&&((decide (((Ac v i).fInt)=0))&&((decide (((Ac v i).fStr)=([]:A9)))&&(decide (0≤((Ac v i).fN))))))) (Bo (BQ .i64 (i+1))<|BM (ha v (i+1) ((Ac v i).fN)) λhf=>some hf) (B1 (((decide (((Ac v i).fKind)=6))&&((decide (((Ac v i).fInt)=0))&&((decide (((Ac v i).fStr)=([]:A9)))&&(decide (0≤((Ac v i).fN))))))) (Bo (BQ .i64 (i+1))<|BM (hb v (i+1) ((Ac v i).fN)) λhg=>some hg) (some (-1))))))))
def CG (v:(List Am))(n:Int)(he:(List Am)→Int→Option (Int))(hb:Int)(ha:Int):Option (Stp (Int×Int) (Out (Int) (Int))):=
 B1 (decide (ha<n)) (BM (he v hb) λhd=>B1 (decide (hd<0)) (some (.out (.ret (-1)))) (Bo (BQ .i64 (ha+1))<|some (.next (hd,ha+1)))) (some (.out (.go hb)))
def E8 (ha:Int):Option (Int):=
 some ha
def Jj (F:Nat)(ha:(List Am)→Int→Option (Int))(v:(List Am))(i:Int)(n:Int):Option (Int):=
 BM (Cn (λσ=>CG v n ha σ.1 σ.2) F (i,0)) (Ca λν=>E8 ν)
def CY (F:Nat)(v:(List Am))(n:Int)(hf:(List Am)→Int→Option (Int))(ha:Int)(hd:A9)(hb:Int):Option (Stp (Int×A9×Int) (Out (Int) (Int))):=
 B1 (decide (hb<n)) (Bo (imp (!(decide ((v.length:Int)≤ha))) (C2 ha (v.length:Int)))<|Bo (imp (!(decide ((v.length:Int)≤ha))) ((OW F (Ac v ha)).isSome))<|B1 (((decide ((v.length:Int)≤ha))||((!(ov (OW F (Ac v ha))))||((decide (0<hb))&&(BD ((Ac v ha).fStr) hd||decide (((Ac v ha).fStr)=hd)))))) (some (.out (.ret (-1)))) (Bo (C2 ha (v.length:Int))<|Bo (BQ .i64 (ha+1))<|BM (hf v (ha+1)) λhe=>B1 (decide (he<0)) (some (.out (.ret (-1)))) (Bo (BQ .i64 (hb+1))<|some (.next (he,(Ac v ha).fStr,hb+1))))) (some (.out (.go ha)))
def HS (ha:Int):Option (Int):=
 some ha
def MQ (F:Nat)(ha:(List Am)→Int→Option (Int))(v:(List Am))(i:Int)(n:Int):Option (Int):=
 BM (Cn (λσ=>CY F v n ha σ.1 σ.2.1 σ.2.2) F (i,([]:A9),0)) (Ca λν=>HS ν)
mutual
def JM:Nat→(List Am)→Int→Option (Int)
 | 0,_,_=>none
 | nn+1,v,i=>OU nn (JN nn) (OT nn) v i
def JN:Nat→(List Am)→Int→Int→Option (Int)
 | 0,_,_,_=>none
 | nn+1,v,i,n=>Jj nn (JM nn) v i n
def OT:Nat→(List Am)→Int→Int→Option (Int)
 | 0,_,_,_=>none
 | nn+1,v,i,n=>MQ nn (JM nn) v i n
end
end Go.Proofs.YthbbedliepkakaaGreatDoor
namespace Go.Proofs.YthbbedliepkakaaGreatDoor.Q
open Go Go.RowKit
set_option linter.unusedVariables false
set_option linter.unusedSimpArgs false
set_option maxRecDepth 100000
set_option maxHeartbeats 4000000
@[reducible] def Ap (x:Am):List Rp:=[rI .i64 x.fKind,rI .i64 x.fInt,rS x.fStr,rI .i64 x.fN]
theorem Dy (x:Am):(Ap x).length=4:=rfl
theorem JE (x:Am):(Ap x).all (·.one)=true:=rfl
end Go.Proofs.YthbbedliepkakaaGreatDoor.Q
namespace Go.Proofs.YthbbedliepkakaaGreatDoor
open Go
set_option linter.unusedVariables false
structure At where
 fPairs:Bool
 fLeft:Int
 fKey:Bool
 fLast:A9
 fStarted:Bool
 deriving DecidableEq,Inhabited
structure A2 where
 fDepth:Int
 fBytes:Int
 fOutside:Bool
 fLong:Bool
 deriving DecidableEq,Inhabited
def Bl (n:Int):Option (Bool):=
 some ((decide ((-1000000000000)≤n))&&(decide (n≤1000000000000)))
def Ew (s:A9)(ha:Int):Option (Stp (Int) (Out (Bool) (Unit))):=
 B1 (decide (ha<(s.length:Int))) (Bo (C2 ha (s.length:Int))<|B1 (((decide ((DN s ha)<32))||(decide (126<(DN s ha))))) (some (.out (.ret false))) (Bo (BQ .i64 (ha+1))<|some (.next (ha+1)))) (some (.out (.go ())))
def Ev :Option (Bool):=
 some true
def Hh (F:Nat)(s:A9):Option (Bool):=
 BM (Cn (λσ=>Ew s σ) F 0) (Ca λν=>Ev )
def Gq (s:A9):Option (Int):=
 Bo (BQ .i64 ((s.length:Int)+2))<|Bo (BQ .i64 (((s.length:Int)+2)+(Lib.countByte s 34:Int)))<|Bo (BQ .i64 ((((s.length:Int)+2)+(Lib.countByte s 34:Int))+(Lib.countByte s 92:Int)))<|some ((((s.length:Int)+2)+(Lib.countByte s 34:Int))+(Lib.countByte s 92:Int))
def IY (F:Nat)(c:Am):Option (Bool):=
 B1 (decide (c.fKind=1)) (some ((decide (c.fInt=0))&&((decide (c.fStr=([]:A9)))&&(decide (c.fN=0))))) (B1 (decide (c.fKind=2)) (some (bif decide (c.fInt=0) then((decide (c.fStr=([]:A9)))&&(decide (c.fN=0))) else((decide (c.fInt=1))&&((decide (c.fStr=([]:A9)))&&(decide (c.fN=0)))))) (B1 (decide (c.fKind=3)) (some ((decide (c.fStr=([]:A9)))&&(decide (c.fN=0)))) (B1 (decide (c.fKind=4)) (Bo (imp (decide (c.fInt=0)) (imp (decide (c.fN=0)) ((Hh F c.fStr).isSome)))<|some ((decide (c.fInt=0))&&((decide (c.fN=0))&&(ov (Hh F c.fStr))))) (B1 (decide (c.fKind=5)) (some ((decide (c.fInt=0))&&((decide (c.fStr=([]:A9)))&&(decide (0≤c.fN))))) (B1 (decide (c.fKind=6)) (some ((decide (c.fInt=0))&&((decide (c.fStr=([]:A9)))&&(decide (0≤c.fN))))) (some false))))))
def Lg (c:Am):Option (Int):=
 B1 (decide (c.fKind=1)) (some 4) (B1 (decide (c.fKind=2)) (some (IntKind.wrap .i64 (5-c.fInt))) (B1 (decide (c.fKind=3)) (Bo (BQ .i64 c.fInt)<|some ((Lib.itoa c.fInt).length:Int)) (B1 (decide (c.fKind=4)) (BM (Gq c.fStr) λha=>some ha) (some (IntKind.wrap .i64 (2+(max 0 (IntKind.wrap .i64 (c.fN-1)))))))))
def C6 (ha:(List At)):Option (Stp ((List At)) (Out ((List At)) ((List At)))):=
 B1 (decide (0<(ha.length:Int))) (Bo (BQ .i64 ((ha.length:Int)-1))<|Bo (C2 ((ha.length:Int)-1) (ha.length:Int))<|Bo (BQ .i64 (((Ac ha ((ha.length:Int)-1)).fLeft)-1))<|LZ (List.set ha (Int.toNat ((ha.length:Int)-1)) (At.mk ((Ac ha ((ha.length:Int)-1)).fPairs) (((Ac ha ((ha.length:Int)-1)).fLeft)-1) ((Ac ha ((ha.length:Int)-1)).fKey) ((Ac ha ((ha.length:Int)-1)).fLast) ((Ac ha ((ha.length:Int)-1)).fStarted))) λhb=>B1 (decide (0<((Ac hb ((ha.length:Int)-1)).fLeft))) (LZ (List.set hb (Int.toNat ((ha.length:Int)-1)) (At.mk ((Ac hb ((ha.length:Int)-1)).fPairs) ((Ac hb ((ha.length:Int)-1)).fLeft) ((Ac hb ((ha.length:Int)-1)).fPairs) ((Ac hb ((ha.length:Int)-1)).fLast) ((Ac hb ((ha.length:Int)-1)).fStarted))) λhd=>some (.out (.ret hd))) (Bo (BQ .i64 ((hb.length:Int)-1))<|Bo (P0 ((hb.length:Int)-1) (hb.length:Int))<|some (.next (List.take (Int.toNat ((hb.length:Int)-1)) hb)))) (some (.out (.go ha)))
def CP (ha:(List At)):Option ((List At)):=
 some ha
def Hk (F:Nat)(stack:(List At)):Option ((List At)):=
 BM (Cn (λσ=>C6 σ) F stack) (Ca λν=>CP ν)
def CH (ha:Int)(hb:(List At))(hd:A2):Option (Stp ((List At)×Int×A2) (Out (Int×A2×Bool) (A2))):=
 Bo (BQ .i64 (ha+1))<|some (.next (hb,ha+1,hd))
def C5 (F:Nat)(v:(List Am))(ha:(List At))(hb:Int)(hd:A2):Option (Stp ((List At)×Int×A2) (Out (Int×A2×Bool) (A2))):=
 B1 (decide (hb<(v.length:Int))) (Bo (C2 hb (v.length:Int))<|BM (IY F (Ac v hb)) λhj=>B1 (!hj) (some (.out (.ret (0,hd,false)))) (Bo (imp (decide (0<(ha.length:Int))) (BQ .i64 ((ha.length:Int)-1)))<|Bo (imp (decide (0<(ha.length:Int))) (C2 ((ha.length:Int)-1) (ha.length:Int)))<|B1 (((decide (0<(ha.length:Int)))&&((Ac ha ((ha.length:Int)-1)).fKey))) (Bo (BQ .i64 ((ha.length:Int)-1))<|Bo (C2 ((ha.length:Int)-1) (ha.length:Int))<|B1 (((!decide (((Ac v hb).fKind)=4))||(((Ac ha ((ha.length:Int)-1)).fStarted)&&(BD ((Ac v hb).fStr) ((Ac ha ((ha.length:Int)-1)).fLast)||decide (((Ac v hb).fStr)=((Ac ha ((ha.length:Int)-1)).fLast)))))) (some (.out (.ret (0,hd,false)))) (LZ (List.set ha (Int.toNat ((ha.length:Int)-1)) (At.mk ((Ac ha ((ha.length:Int)-1)).fPairs) ((Ac ha ((ha.length:Int)-1)).fLeft) ((Ac ha ((ha.length:Int)-1)).fKey) ((Ac v hb).fStr) ((Ac ha ((ha.length:Int)-1)).fStarted))) λhe=>LZ (List.set he (Int.toNat ((ha.length:Int)-1)) (At.mk ((Ac he ((ha.length:Int)-1)).fPairs) ((Ac he ((ha.length:Int)-1)).fLeft) ((Ac he ((ha.length:Int)-1)).fKey) ((Ac he ((ha.length:Int)-1)).fLast) true)) λhf=>LZ (List.set hf (Int.toNat ((ha.length:Int)-1)) (At.mk ((Ac hf ((ha.length:Int)-1)).fPairs) ((Ac hf ((ha.length:Int)-1)).fLeft) false ((Ac hf ((ha.length:Int)-1)).fLast) ((Ac hf ((ha.length:Int)-1)).fStarted))) λhk=>BM (Gq ((Ac v hb).fStr)) λhh=>Bo (BQ .i64 (hh+1))<|CH hb hk (A2.mk hd.fDepth (IntKind.wrap .i64 (hd.fBytes+(hh+1))) hd.fOutside (hd.fLong||(decide (200<(((Ac v hb).fStr).length:Int))))))) (Bo (BQ .i64 ((ha.length:Int)+1))<|BM (Lg (Ac v hb)) λhg=>Bo (imp (!hd.fOutside) (imp (decide (((Ac v hb).fKind)=3)) ((Bl ((Ac v hb).fInt)).isSome)))<|B1 (decide (0<((Ac v hb).fN))) (B1 (decide ((v.length:Int)<((Ac v hb).fN))) (some (.out (.ret (0,(A2.mk (max hd.fDepth ((ha.length:Int)+1)) (IntKind.wrap .i64 (hd.fBytes+hg)) (hd.fOutside||((decide (((Ac v hb).fKind)=3))&&(!(ov (Bl ((Ac v hb).fInt)))))) (hd.fLong||(decide (200<(((Ac v hb).fStr).length:Int))))),false)))) (Bo (Js 48 (ha.length+([(At.mk (decide (((Ac v hb).fKind)=6)) ((Ac v hb).fN) (decide (((Ac v hb).fKind)=6)) ([]:A9) false)]:List At).length))<|CH hb (ha++([(At.mk (decide (((Ac v hb).fKind)=6)) ((Ac v hb).fN) (decide (((Ac v hb).fKind)=6)) ([]:A9) false)]:List At)) (A2.mk (max hd.fDepth ((ha.length:Int)+1)) (IntKind.wrap .i64 (hd.fBytes+hg)) (hd.fOutside||((decide (((Ac v hb).fKind)=3))&&(!(ov (Bl ((Ac v hb).fInt)))))) (hd.fLong||(decide (200<(((Ac v hb).fStr).length:Int))))))) (BM (Hk F ha) λhi=>B1 (decide ((hi.length:Int)=0)) (Bo (BQ .i64 (hb+1))<|some (.out (.ret (hb+1,(A2.mk (max hd.fDepth ((ha.length:Int)+1)) (IntKind.wrap .i64 (hd.fBytes+hg)) (hd.fOutside||((decide (((Ac v hb).fKind)=3))&&(!(ov (Bl ((Ac v hb).fInt)))))) (hd.fLong||(decide (200<(((Ac v hb).fStr).length:Int))))),true)))) (CH hb hi (A2.mk (max hd.fDepth ((ha.length:Int)+1)) (IntKind.wrap .i64 (hd.fBytes+hg)) (hd.fOutside||((decide (((Ac v hb).fKind)=3))&&(!(ov (Bl ((Ac v hb).fInt)))))) (hd.fLong||(decide (200<(((Ac v hb).fStr).length:Int)))))))))) (some (.out (.go hd)))
def Hi (ha:A2):Option (Int×A2×Bool):=
 some (0,ha,false)
def Hj (F:Nat)(v:(List Am)):Option (Int×A2×Bool):=
 BM (Cn (λσ=>C5 F v σ.1 σ.2.1 σ.2.2) F (([]:List At),0,(A2.mk 0 0 false false))) (Ca λν=>Hi ν)
def Ja (F:Nat)(v:(List Am)):Option (Int):=
 BM (Hj F v) λr1=>B1 (((!r1.2.2)||(!decide (r1.1=(v.length:Int))))) (some 1) (B1 (r1.2.1.fOutside) (some 2) (B1 ((r1.2.1.fLong||((decide (200<(v.length:Int)))||((decide (8<r1.2.1.fDepth))||(decide (4000<r1.2.1.fBytes)))))) (some 3) (some 0)))
end Go.Proofs.YthbbedliepkakaaGreatDoor
namespace Go.Proofs.YthbbedliepkakaaGreatDoor.Q
open Go Go.RowKit
set_option linter.unusedVariables false
set_option linter.unusedSimpArgs false
set_option maxRecDepth 100000
set_option maxHeartbeats 4000000
@[reducible] def As (x:At):List Rp:=[rB x.fPairs,rI .i64 x.fLeft,rB x.fKey,rS x.fLast,rB x.fStarted]
theorem EH (x:At):(As x).length=5:=rfl
theorem IA (x:At):(As x).all (·.one)=true:=rfl
@[reducible] def AI (x:A2):List Rp:=[rI .i64 x.fDepth,rI .i64 x.fBytes,rB x.fOutside,rB x.fLong]
theorem QH:∃inf,Tryz.prog.info? 147=some inf∧inf.zero=some (.agg #[(.bool false),(.int .i64 0),(.bool false),(.string ⟨#[]⟩),(.bool false)])∧inf.size=5∧inf.bytes=48:=by
  have key:(Tryz.prog.info? 147).map (λi=>(i.zero,i.size,i.bytes))=some (some (.agg #[(.bool false),(.int .i64 0),(.bool false),(.string ⟨#[]⟩),(.bool false)]),5,48):=by kernel_rfl
  obtain⟨inf,h1,h2⟩:=Option.map_eq_some_iff.1 key;simp only[Prod.mk.injEq] at h2;exact⟨inf,h1,h2.1,h2.2.1,h2.2.2⟩
theorem PI (parts:List (Nat×Value)):Tryz.prog.built 147 parts=Instr.fill (λi=>(#[(0,1),(1,1),(2,1),(3,1),(4,1)]:Array (Nat×Nat))[i]?) #[(.bool false),(.int .i64 0),(.bool false),(.string ⟨#[]⟩),(.bool false)] parts:=by kernel_rfl
theorem HX {n:Nat}{c:Cx}{l:Fr}{H:List Ent}{d:Option Nat}{ty:TypeId}{pos:String}{af:Array Edge}{g:Option (Nat×Bool)}{x0:Operand}{r0:Rp}(h0:ev l x0=some r0)(u0:r0.one=true){x1:Operand}{r1:Rp}(h1:ev l x1=some r1)(u1:r1.one=true){x2:Operand}{r2:Rp}(h2:ev l x2=some r2)(u2:r2.one=true):Bh Tryz.prog n c l H { dst:=d,op:=.build 147 #[(0,x0),(1,x1),(2,x2)],type:=ty,pos:=pos,after:=af,guard:=g } (Bx [r0,r1,r2,rS ([]:A9),rB false]):=λa w Z ha _=>by
  have p0:=ha.ev h0;have c0:=Bt (r0.hone u0 Z _ p0);have p1:=ha.ev h1;have c1:=Bt (r1.hone u1 Z _ p1);have p2:=ha.ev h2;have c2:=Bt (r2.hone u2 Z _ p2);have hb:Tryz.prog.built 147 [(0,a.eval x0),(1,a.eval x1),(2,a.eval x2)]=some #[a.eval x0,a.eval x1,a.eval x2,(.string ⟨#[]⟩),(.bool false)]:=by
    rw[PI];generalize a.eval x0=v0 at *;generalize a.eval x1=v1 at *;generalize a.eval x2=v2 at *;simp[Instr.fill,c0,c1,c2]
  refine⟨.agg #[a.eval x0,a.eval x1,a.eval x2,(.string ⟨#[]⟩),(.bool false)],⟨[a.eval x0,a.eval x1,a.eval x2,(.string ⟨#[]⟩),(.bool false)],rfl,p0,p1,p2,rfl,rfl,trivial⟩,?_⟩;have:=run_build w 147 #[(0,a.eval x0),(1,a.eval x1),(2,a.eval x2)] _ (by simpa using hb);simp[execOp,this]
theorem Pm (n:Int)(r:Bool)(h:Bl n=some r):Fn Tryz.prog GE 103 [rI .i64 n] [] (λR H=>R=rB r∧H=[]):=by
 refine enter (n:=9) Tryz.func103 Aa Tryz.ntmps103 Aa (λw Z=>?_);refine Bk (l':=[(0,rI .i64 n)]) (H':=[]) Aa Aa ?_;unfold Bl at h;refine Au (wv (r:=rB false) (Aj Aa) (A5 (A7 [(2,rB ((decide ((-1000000000000)≤n))&&(decide (n≤1000000000000))))] [] ?_ ?_)))
 ·refine An (wm Aa (wv (DJ Aa Aa) (wm Aa (AE (decide ((-1000000000000)≤n)) (λc1=>?_) (λc1=>?_)))))
  ·refine wo c1 (wm Aa (wo c1 (wv (DJ Aa Aa) (DB Aa c1 Aa (wa Aa (Ao ?_))))));exact BA c1
  ·refine wf c1 (wf c1 (wv (r:=rB false) (A1 (b:=decide ((-1000000000000)≤n)) Aa c1 Aa) (wa Aa (Ao ?_))));exact BA c1
 refine A4 ?_;obtain rfl:=AC h;exact A6 (BZ Tryz.results103 (AX Aa)) sN ⟨Aa,Aa⟩
theorem Qe (F:Nat)(s:A9)(r:Bool)(h:Hh F s=some r):Fn Tryz.prog GE 129 [rS s] [] (λR H=>R=rB r∧H=[]):=by
 refine enter (n:=20) Tryz.func129 Aa Tryz.ntmps129 Aa (λw Z=>?_);refine Bk (l':=[(0,rS s)]) (H':=[]) Aa Aa ?_;unfold Hh at h;refine Au (wv (r:=rB false) (Aj Aa) (A5 (Ay (Au (wm Aa (wv (BP Gm Aa) (wv (r:=rI .i64 0) (Aw Aa) (A5 (Ba ?_)))))))));obtain⟨hl,hm,hi⟩:=Bf h;refine Cc (S:=Nat×(Int)×(Unit)) (V:=(Unit)×(Unit)) 0 (λσ=>Cn (λσ=>Ew s σ) σ.1 σ.2.1=some hl) (λσ=>[(0,rS s),(5,rI .i64 (s.length:Int)),(6,rI .i64 σ.2.1)]) (λσ=>[]) (λσ=>σ.1) (F,0,()) hm (AN.c Aa (AN.c Aa (AN.c Aa AN.nil))) sN (λσ=>Ev =some r) (λσ=>[]) (λσ=>[]) ?_ ?_
 ·rintro⟨hz,hb,⟨⟩⟩ hn;refine Bk (l':=[(0,rS s),(5,rI .i64 (s.length:Int)),(6,rI .i64 hb)]) (H':=[]) Aa Aa ?_;obtain⟨ho,rfl,t37,hd,hf⟩:=GJ hn;replace hd:Ew s hb=some t37:=hd;unfold Ew at hd;refine Au (wv (Ea Aa Aa) (A5 (Ay (A8 (b:=decide (hb<(s.length:Int))) Aa (λhg=>?_) (λhg=>?_)))))
  ·have hp:=AV hg hd;refine AA (Bi (Ay (Ba (Au (wm Aa (wa Aa (A5 ?_)))))));obtain⟨hj,hk⟩:=AG hp;refine A7 [(0,rS s),(5,rI .i64 (s.length:Int)),(6,rI .i64 hb),(18,rB ((decide ((DN s hb)<32))||(decide (126<(DN s hb)))))] [] ?_ ?_
   ·refine An (wm Aa (wm Aa (wv (CZ Gm Aa Aa hj) (wv (Ea Aa Aa) (wm Aa (AE (decide ((DN s hb)<32)) (λha=>?_) (λha=>?_)))))))
    ·refine wf ha (wf ha (wf ha (wf ha (wv (r:=rB true) (Ar (b:=decide ((DN s hb)<32)) Aa ha Aa) (Ao ?_)))));exact BA ha
    ·refine wo ha (wm Aa (wo ha (wm Aa (wo ha (wv (CZ Gm Aa Aa hj) (wo ha (wv (Ct Aa Aa) (EK Aa ha Aa (Ao ?_)))))))));exact BA ha
   refine A8 (b:=((decide ((DN s hb)<32))||(decide (126<(DN s hb))))) Aa (λhh=>?_) (λhh=>?_)
   ·have hq:=AV hh hk;refine Au (wv (r:=rB false) (Aj Aa) (A5 (A4 (AM (Aq (Aq (Cr ?_)))))));have hr:=DI hq hf hi;refine AM (Aq ?_);obtain rfl:=AC hr;exact A6 (BZ Tryz.results129 (AX Aa)) sN ⟨Aa,Aa⟩
   ·have hs:=AW hh hk;refine AA (AK (Bi (An ?_)));obtain⟨ht,hu⟩:=AG hs;refine wv (BL Aa Aa ht) (wm Aa (Ao ?_));have hw:=CI hu hf;exact Az (AP (ho,hb+1,()) ⟨hw,Ue _⟩ (AN.c Aa (AN.c Aa (AN.c Aa AN.nil))) sN)
  ·have hx:=AW hg hd;refine BJ (AF ?_);have hy:=DV hx hf hi;exact AF (B2 (AP ((),()) hy AN.nil sN))
 ·rintro⟨⟨⟩,⟨⟩⟩ he;refine Ec (l':=[]) (H':=[]) Aa Aa ?_;replace he:Ev =some r:=he;unfold Ev at he;refine B0 (Bi (Au (wv (r:=rB true) (Aj Aa) (A5 (A4 ?_)))));obtain rfl:=AC he;exact A6 (BZ Tryz.results129 (AX Aa)) sN ⟨Aa,Aa⟩
theorem JF (s:A9)(r:Int)(h:Gq s=some r):Fn Tryz.prog GE 112 [rS s] [] (λR H=>R=rI .i64 r∧H=[]):=by
 refine enter (n:=12) Tryz.func112 Aa Tryz.ntmps112 Aa (λw Z=>?_);refine Bk (l':=[(0,rS s)]) (H':=[]) Aa Aa ?_;unfold Gq at h;refine Au (wv (r:=rI .i64 0) (Aj Aa) (BI (wm Aa (wv (BP Gm Aa) ?_))));obtain⟨g1,h2⟩:=AG h;refine wv (BL Aa Aa g1) (wm Aa (CN (rs:=[rS s,rS ([34]:A9)]) (r:=rI .i64 (Lib.countByte s 34:Int)) Tryz.call130 Aa (No s 34) Aa Aa ?_));obtain⟨g3,h4⟩:=AG h2;refine wv (BL Aa Aa g3) (wm Aa (CN (rs:=[rS s,rS ([92]:A9)]) (r:=rI .i64 (Lib.countByte s 92:Int)) Tryz.call130 Aa (No s 92) Aa Aa ?_));obtain⟨g5,h6⟩:=AG h4;refine wv (BL Aa Aa g5) (wa Aa (A5 (A4 ?_)));obtain rfl:=AC h6;exact A6 (BZ Tryz.results112 (AX Aa)) sN ⟨Aa,Aa⟩
theorem O8 (F:Nat)(c:Am)(r:Bool)(h:IY F c=some r):Fn Tryz.prog GE 111 [Bx (Ap c)] [] (λR H=>R=rB r∧H=[]):=by
 refine enter (n:=81) Tryz.func111 Aa Tryz.ntmps111 Aa (λw Z=>?_);refine Bk (l':=[(0,Bx (Ap c))]) (H':=[]) Aa Aa ?_;unfold IY at h;refine Au (BK Aa Aa (λb1=>?_));refine wv (r:=rB false) (Aj Aa) (A5 (Ay (Au (wv (Ai Cj Aa La Aa Aa) (wv (Ax (i:=0) Ld Aa Aa Aa) (A5 (Ba (Au (wv (Bw Aa Aa) (wa Aa (A5 (A8 (b:=decide (c.fKind=1)) Aa (λc2=>?_) (λc2=>?_)))))))))))))
 ·have h3:=AV c2 h;refine A7 [(2,rB ((decide (c.fInt=0))&&((decide (c.fStr=([]:A9)))&&(decide (c.fN=0)))))] [] ?_ ?_
  ·refine An (wv (Ai Cj Aa B5 Aa Aa) (wv (Ax (i:=0) B9 Aa Aa Aa) (wv (Bw Aa Aa) (wm Aa (AE (decide (c.fInt=0)) (λc4=>?_) (λc4=>?_))))))
   ·refine wo c4 (wv (Ai Cj Aa En Aa Aa) (wo c4 (wv (Ax (i:=0) Eo Aa Aa Aa) (wo c4 (wv (EG Aa Aa) (DB Aa c4 Aa (wm Aa (AE (decide (c.fStr=([]:A9))) (λc5=>?_) (λc5=>?_)))))))))
    ·refine wo c5 (wv (Ai Cj Aa B5 Aa Aa) (wo c5 (wv (Ax (i:=0) B9 Aa Aa Aa) (wo c5 (wv (Bw Aa Aa) (DB Aa c5 Aa (wa Aa (Ao ?_))))))));exact BA (And.intro c4 c5)
    ·refine wf c5 (wf c5 (wf c5 (wv (r:=rB false) (A1 (b:=decide (c.fStr=([]:A9))) Aa c5 Aa) (wa Aa (Ao ?_)))));exact BA (And.intro c4 c5)
   ·refine wf c4 (wf c4 (wf c4 (wv (r:=rB false) (A1 (b:=decide (c.fInt=0)) Aa c4 Aa) (wm Aa (Ak (b:=false) Aa Aa Aa Aa (Ak (b:=false) Aa Aa Aa Aa (Ak (b:=false) Aa Aa Aa Aa (wv (r:=rB false) (A1 (b:=false) Aa Aa Aa) (wa Aa (Ao ?_))))))))));exact BA c4
  refine A4 (AM (Aq ?_));obtain rfl:=AC h3;exact A6 (BZ IT (AX Aa)) sN ⟨Aa,Aa⟩
 ·have h6:=AW c2 h;refine Au (wv (Bw Aa Aa) (wa Aa (A5 (A8 (b:=decide (c.fKind=2)) Aa (λc7=>?_) (λc7=>?_)))))
  ·have h8:=AV c7 h6;refine A7 [(2,rB (bif decide (c.fInt=0) then((decide (c.fStr=([]:A9)))&&(decide (c.fN=0))) else((decide (c.fInt=1))&&((decide (c.fStr=([]:A9)))&&(decide (c.fN=0))))))] [] ?_ ?_
   ·refine An (wv (Ai Cj Aa B5 Aa Aa) (wv (Ax (i:=0) B9 Aa Aa Aa) (wv (Bw Aa Aa) (wm Aa (AE (decide (c.fInt=0)) (λc9=>?_) (λc9=>?_))))))
    ·refine wf c9 (wf c9 (wf c9 (wv (r:=rB true) (Ar (b:=decide (c.fInt=0)) Aa c9 Aa) (wm Aa (AR (b:=true) Aa Aa Aa (wv (Ai Cj Aa En Aa Aa) (AR (b:=true) Aa Aa Aa (wv (Ax (i:=0) Eo Aa Aa Aa) (AR (b:=true) Aa Aa Aa (wv (EG Aa Aa) (wv (r:=rB (decide (c.fStr=([]:A9)))) (Ar (b:=true) Aa Aa Aa) (wm Aa (AE (decide (c.fStr=([]:A9))) (λhg=>?_) (λhg=>?_))))))))))))))
     ·refine wo hg (wv (Ai Cj Aa B5 Aa Aa) (wo hg (wv (Ax (i:=0) B9 Aa Aa Aa) (wo hg (wv (Bw Aa Aa) (DB Aa hg Aa (wa Aa (Ao ?_))))))));exact BA (And.intro c9 hg)
     ·refine wf hg (wf hg (wf hg (wv (r:=rB false) (A1 (b:=decide (c.fStr=([]:A9))) Aa hg Aa) (wa Aa (Ao ?_)))));exact BA (And.intro c9 hg)
    ·refine wo c9 (wv (Ai Cj Aa B5 Aa Aa) (wo c9 (wv (Ax (i:=0) B9 Aa Aa Aa) (wo c9 (wv (Bw Aa Aa) (EK Aa c9 Aa (wm Aa (AE (decide (c.fInt=1)) (λhb=>?_) (λhb=>?_)))))))))
     ·refine wo hb (wv (Ai Cj Aa En Aa Aa) (wo hb (wv (Ax (i:=0) Eo Aa Aa Aa) (wo hb (wv (EG Aa Aa) (DB Aa hb Aa (wm Aa (AE (decide (c.fStr=([]:A9))) (λhh=>?_) (λhh=>?_)))))))))
      ·refine wo hh (wv (Ai Cj Aa B5 Aa Aa) (wo hh (wv (Ax (i:=0) B9 Aa Aa Aa) (wo hh (wv (Bw Aa Aa) (DB Aa hh Aa (wa Aa (Ao ?_))))))));exact BA (And.intro c9 (And.intro hb hh))
      ·refine wf hh (wf hh (wf hh (wv (r:=rB false) (A1 (b:=decide (c.fStr=([]:A9))) Aa hh Aa) (wa Aa (Ao ?_)))));exact BA (And.intro c9 (And.intro hb hh))
     ·refine wf hb (wf hb (wf hb (wv (r:=rB false) (A1 (b:=decide (c.fInt=1)) Aa hb Aa) (wm Aa (Ak (b:=false) Aa Aa Aa Aa (Ak (b:=false) Aa Aa Aa Aa (Ak (b:=false) Aa Aa Aa Aa (wv (r:=rB false) (A1 (b:=false) Aa Aa Aa) (wa Aa (Ao ?_))))))))));exact BA (And.intro c9 hb)
   refine A4 (AM (Aq ?_));obtain rfl:=AC h8;exact A6 (BZ IT (AX Aa)) sN ⟨Aa,Aa⟩
  ·have hp:=AW c7 h6;refine Au (wv (Bw Aa Aa) (wa Aa (A5 (A8 (b:=decide (c.fKind=3)) Aa (λhm=>?_) (λhm=>?_)))))
   ·have ht:=AV hm hp;refine A7 [(2,rB ((decide (c.fStr=([]:A9)))&&(decide (c.fN=0))))] [] ?_ ?_
    ·refine An (wv (Ai Cj Aa En Aa Aa) (wv (Ax (i:=0) Eo Aa Aa Aa) (wv (EG Aa Aa) (wm Aa (AE (decide (c.fStr=([]:A9))) (λhi=>?_) (λhi=>?_))))))
     ·refine wo hi (wv (Ai Cj Aa B5 Aa Aa) (wo hi (wv (Ax (i:=0) B9 Aa Aa Aa) (wo hi (wv (Bw Aa Aa) (DB Aa hi Aa (wa Aa (Ao ?_))))))));exact BA hi
     ·refine wf hi (wf hi (wf hi (wv (r:=rB false) (A1 (b:=decide (c.fStr=([]:A9))) Aa hi Aa) (wa Aa (Ao ?_)))));exact BA hi
    refine A4 (AM (Aq ?_));obtain rfl:=AC ht;exact A6 (BZ IT (AX Aa)) sN ⟨Aa,Aa⟩
   ·have hq:=AW hm hp;refine Au (wv (Bw Aa Aa) (wa Aa (A5 (A8 (b:=decide (c.fKind=4)) Aa (λhn=>?_) (λhn=>?_)))))
    ·have hu:=AV hn hq;obtain⟨hw,hx⟩:=AG hu;refine A7 [(2,rB ((decide (c.fInt=0))&&((decide (c.fN=0))&&(ov (Hh F c.fStr)))))] [] ?_ ?_
     ·refine An (wv (Ai Cj Aa B5 Aa Aa) (wv (Ax (i:=0) B9 Aa Aa Aa) (wv (Bw Aa Aa) (wm Aa (AE (decide (c.fInt=0)) (λha=>?_) (λha=>?_))))))
      ·refine wo ha (wv (Ai Cj Aa B5 Aa Aa) (wo ha (wv (Ax (i:=0) B9 Aa Aa Aa) (wo ha (wv (Bw Aa Aa) (DB Aa ha Aa (wm Aa (AE (decide (c.fN=0)) (λhd=>?_) (λhd=>?_)))))))))
       ·refine wo hd (wv (Ai Cj Aa En Aa Aa) (wo hd (wv (Ax (i:=0) Eo Aa Aa Aa) (wo hd (In Tryz.call129 (Qe F c.fStr (ov (Hh F c.fStr)) (L2 (DH (DH hw ha) hd))) Aa (DB Aa hd Aa (wa Aa (Ao ?_))))))));exact BA (And.intro ha hd)
       ·refine wf hd (wf hd (wf hd (wv (r:=rB false) (A1 (b:=decide (c.fN=0)) Aa hd Aa) (wa Aa (Ao ?_)))));exact BA (And.intro ha hd)
      ·refine wf ha (wf ha (wf ha (wv (r:=rB false) (A1 (b:=decide (c.fInt=0)) Aa ha Aa) (wm Aa (Ak (b:=false) Aa Aa Aa Aa (Ak (b:=false) Aa Aa Aa Aa (Ak (b:=false) Aa Aa Aa Aa (wv (r:=rB false) (A1 (b:=false) Aa Aa Aa) (wa Aa (Ao ?_))))))))));exact BA ha
     refine A4 (AM (Aq ?_));obtain rfl:=AC hx;exact A6 (BZ IT (AX Aa)) sN ⟨Aa,Aa⟩
    ·have hr:=AW hn hq;refine Ay (Au (wv (Bw Aa Aa) (wa Aa (A5 (A8 (b:=decide (c.fKind=5)) Aa (λhl=>?_) (λhl=>?_))))))
     ·have hy:=AV hl hr;refine AA (Bi (Ck Aa hl (A7 [(2,rB ((decide (c.fInt=0))&&((decide (c.fStr=([]:A9)))&&(decide (0≤c.fN)))))] [] ?_ ?_)))
      ·refine An (wv (Ai Cj Aa B5 Aa Aa) (wv (Ax (i:=0) B9 Aa Aa Aa) (wv (Bw Aa Aa) (wm Aa (AE (decide (c.fInt=0)) (λhe=>?_) (λhe=>?_))))))
       ·refine wo he (wv (Ai Cj Aa En Aa Aa) (wo he (wv (Ax (i:=0) Eo Aa Aa Aa) (wo he (wv (EG Aa Aa) (DB Aa he Aa (wm Aa (AE (decide (c.fStr=([]:A9))) (λhj=>?_) (λhj=>?_)))))))))
        ·refine wo hj (wv (Ai Cj Aa B5 Aa Aa) (wo hj (wv (Ax (i:=0) B9 Aa Aa Aa) (wo hj (wv (EO Aa Aa) (DB Aa hj Aa (wa Aa (Ao ?_))))))));exact BA (And.intro he hj)
        ·refine wf hj (wf hj (wf hj (wv (r:=rB false) (A1 (b:=decide (c.fStr=([]:A9))) Aa hj Aa) (wa Aa (Ao ?_)))));exact BA (And.intro he hj)
       ·refine wf he (wf he (wf he (wv (r:=rB false) (A1 (b:=decide (c.fInt=0)) Aa he Aa) (wm Aa (Ak (b:=false) Aa Aa Aa Aa (Ak (b:=false) Aa Aa Aa Aa (Ak (b:=false) Aa Aa Aa Aa (wv (r:=rB false) (A1 (b:=false) Aa Aa Aa) (wa Aa (Ao ?_))))))))));exact BA he
      refine A4 (AM (Aq ?_));obtain rfl:=AC hy;exact A6 (BZ IT (AX Aa)) sN ⟨Aa,Aa⟩
     ·have hs:=AW hl hr;refine An (wv (Bw Aa Aa) (wa Aa (A5 (A8 (b:=decide (c.fKind=6)) Aa (λho=>?_) (λho=>?_)))))
      ·have hz:=AV ho hs;refine A7 [(2,rB ((decide (c.fInt=0))&&((decide (c.fStr=([]:A9)))&&(decide (0≤c.fN)))))] [] ?_ ?_
       ·refine An (wv (Ai Cj Aa B5 Aa Aa) (wv (Ax (i:=0) B9 Aa Aa Aa) (wv (Bw Aa Aa) (wm Aa (AE (decide (c.fInt=0)) (λhf=>?_) (λhf=>?_))))))
        ·refine wo hf (wv (Ai Cj Aa En Aa Aa) (wo hf (wv (Ax (i:=0) Eo Aa Aa Aa) (wo hf (wv (EG Aa Aa) (DB Aa hf Aa (wm Aa (AE (decide (c.fStr=([]:A9))) (λhk=>?_) (λhk=>?_)))))))))
         ·refine wo hk (wv (Ai Cj Aa B5 Aa Aa) (wo hk (wv (Ax (i:=0) B9 Aa Aa Aa) (wo hk (wv (EO Aa Aa) (DB Aa hk Aa (wa Aa (Ao ?_))))))));exact BA (And.intro hf hk)
         ·refine wf hk (wf hk (wf hk (wv (r:=rB false) (A1 (b:=decide (c.fStr=([]:A9))) Aa hk Aa) (wa Aa (Ao ?_)))));exact BA (And.intro hf hk)
        ·refine wf hf (wf hf (wf hf (wv (r:=rB false) (A1 (b:=decide (c.fInt=0)) Aa hf Aa) (wm Aa (Ak (b:=false) Aa Aa Aa Aa (Ak (b:=false) Aa Aa Aa Aa (Ak (b:=false) Aa Aa Aa Aa (wv (r:=rB false) (A1 (b:=false) Aa Aa Aa) (wa Aa (Ao ?_))))))))));exact BA hf
       refine A4 (AM (Aq ?_));obtain rfl:=AC hz;exact A6 (BZ IT (AX Aa)) sN ⟨Aa,Aa⟩
      ·have h0:=AW ho hs;refine AA (AK (Bi (Au (wv (r:=rB false) (Aj Aa) (A5 (A4 ?_))))));obtain rfl:=AC h0;exact A6 (BZ IT (AX Aa)) (sS sN) ⟨Aa,Aa⟩
theorem Qf (c:Am)(r:Int)(h:Lg c=some r):Fn Tryz.prog GE 113 [Bx (Ap c)] [] (λR H=>R=rI .i64 r∧H=[]):=by
 refine enter (n:=28) Tryz.func113 Aa Tryz.ntmps113 Aa (λw Z=>?_);refine Bk (l':=[(0,Bx (Ap c))]) (H':=[]) Aa Aa ?_;unfold Lg at h;refine Au (BK Aa Aa (λb1=>?_));refine wv (r:=rI .i64 0) (Aj Aa) (A5 (Ay (Au (wv (Ai Cj Aa La Aa Aa) (wv (Ax (i:=0) Ld Aa Aa Aa) (A5 (Ba (Au (wv (Bw Aa Aa) (wa Aa (A5 (A8 (b:=decide (c.fKind=1)) Aa (λc2=>?_) (λc2=>?_)))))))))))))
 ·have h3:=AV c2 h;refine Au (wv (r:=rI .i64 4) (Aj Aa) (A5 (A4 (AM (Aq ?_)))));obtain rfl:=AC h3;exact A6 (BZ Lc (AX Aa)) (sS sN) ⟨Aa,Aa⟩
 ·have h4:=AW c2 h;refine Au (wv (Bw Aa Aa) (wa Aa (A5 (A8 (b:=decide (c.fKind=2)) Aa (λc5=>?_) (λc5=>?_)))))
  ·have h6:=AV c5 h4;refine Au (wv (Ai Cj Aa B5 Aa Aa) (wv (Ax (i:=0) B9 Aa Aa Aa) (wv (r:=rI .i64 (IntKind.wrap .i64 (5-c.fInt))) (Pi Aa Aa) (wa Aa (A5 (A4 (AM (Aq ?_))))))));obtain rfl:=AC h6;exact A6 (BZ Lc (AX Aa)) (sS sN) ⟨Aa,Aa⟩
  ·have h7:=AW c5 h4;refine Au (wv (Bw Aa Aa) (wa Aa (A5 (A8 (b:=decide (c.fKind=3)) Aa (λc8=>?_) (λc8=>?_)))))
   ·have h9:=AV c8 h7;refine Au (wv (Ai Cj Aa B5 Aa Aa) (wv (Ax (i:=0) B9 Aa Aa Aa) ?_));obtain⟨hd,he⟩:=AG h9;refine CN (rs:=[rI .i64 c.fInt]) (r:=rS (Lib.itoa c.fInt)) Tryz.call65 Aa (LL c.fInt hd) Aa Aa (wv (BP Gm Aa) (wa Aa (A5 (A4 (AM (Aq ?_))))));obtain rfl:=AC he;exact A6 (BZ Lc (AX Aa)) (sS sN) ⟨Aa,Aa⟩
   ·have hb:=AW c8 h7;refine Au (wv (Bw Aa Aa) (wa Aa (A5 (A8 (b:=decide (c.fKind=4)) Aa (λha=>?_) (λha=>?_)))))
    ·have hf:=AV ha hb;refine Au (wv (Ai Cj Aa En Aa Aa) (wv (Ax (i:=0) Eo Aa Aa Aa) ?_));obtain⟨hg,hh,hi⟩:=Bf hf;refine In Tryz.call112 (JF c.fStr hg hh) Aa (wa Aa (A5 (A4 (AM (Aq ?_)))));obtain rfl:=AC hi;exact A6 (BZ Lc (AX Aa)) (sS sN) ⟨Aa,Aa⟩
    ·have hj:=AW ha hb;refine AA (AK (Bi (Au (wv (Ai Cj Aa B5 Aa Aa) (wv (Ax (i:=0) B9 Aa Aa Aa) (wv (r:=rI .i64 (IntKind.wrap .i64 (c.fN-1))) (Pi Aa Aa) (wv (Ro Tryz.underlying3 Aa Aa) (wv (r:=rI .i64 (IntKind.wrap .i64 (2+(max 0 (IntKind.wrap .i64 (c.fN-1)))))) (M0 Aa Aa) (wa Aa (A5 (A4 ?_)))))))))));obtain rfl:=AC hj;exact A6 (BZ Lc (AX Aa)) (sS sN) ⟨Aa,Aa⟩
theorem N4 (F:Nat)(hg:Value)(stack:(List At))(r:(List At))(h:Hk F stack=some r):Fn Tryz.prog GE 114 [rv hg] [.row hg 147 5 (List.map As stack)] (λR H=>∃u0:Value,R=rv u0∧H=[.row u0 147 5 (List.map As r)]):=by
 refine enter (n:=38) Tryz.func114 Aa Tryz.ntmps114 Aa (λw Z=>?_);refine Bk (l':=[(0,rv hg)]) (H':=[.row hg 147 5 (List.map As stack)]) Aa Aa ?_;unfold Hk at h;refine Au (wv (r:=rv (.slice none 0 0)) (Aj Aa) (A5 (Ay (Ba ?_))));obtain⟨hq,hr,hn⟩:=Bf h;refine Cc (S:=Nat×((List At))×(Value)) (V:=((List At))×(Value)) 0 (λσ=>Cn (λσ=>C6 σ) σ.1 σ.2.1=some hq) (λσ=>[(0,rv σ.2.2),(2,rv (.slice none 0 0))]) (λσ=>[.row σ.2.2 147 5 (List.map As σ.2.1)]) (λσ=>σ.1) (F,stack,hg) hr (AN.c Aa (AN.c Aa AN.nil)) (sC sN) (λσ=>CP σ.1=some r) (λσ=>[(0,rv σ.2),(2,rv (.slice none 0 0))]) (λσ=>[.row σ.2 147 5 (List.map As σ.1)]) ?_ ?_
 ·rintro⟨hG,ha,hd⟩ hs;refine Bk (l':=[(0,rv hd),(2,rv (.slice none 0 0))]) (H':=[.row hd 147 5 (List.map As ha)]) Aa Aa ?_;obtain⟨ht,rfl,hu,hh,hj⟩:=GJ hs;replace hh:C6 ha=some hu:=hh;unfold C6 at hh;refine Ay (Au (wm Aa (wv (BN (ys:=ha) (enc:=As) (i:=0) EE Aa Aa) (wv (Ct Aa Aa) (A5 (A8 (b:=decide (0<(ha.length:Int))) Aa (λhk=>?_) (λhk=>?_)))))))
  ·have hw:=AV hk hh;refine AA (Bi (Ba (Au (wm Aa (wm Aa (wv (BN (ys:=ha) (enc:=As) (i:=0) EE Aa Aa) ?_))))));obtain⟨hx,hy⟩:=AG hw;refine wv (EF Aa Aa hx) ?_;obtain⟨he,hz⟩:=AG hy;refine wv (r:=rv (Dx 5 hd (Int.toNat ((ha.length:Int)-1)) 0)) (EZ (i:=0) EE Lb Aa Aa Aa (Bv he)) (wa Aa (BI (wm Aa (wv (r:=rv (Dx 5 hd (Int.toNat ((ha.length:Int)-1)) 0)) (B7 (k:=0) Aa (Bv he) Aa Aa) (wv (r:=rv (Dx 5 hd (Int.toNat ((ha.length:Int)-1)) 1)) (DC (k:=0) ED Aa B5 Aa (Bv he) Aa Aa Aa) (wv (r:=rI .i64 ((Ac ha ((ha.length:Int)-1)).fLeft)) (Es (enc:=As) (ys:=ha) (i:=0) (j:=(ha.length:Int)-1) B9 Aa Aa he Aa) ?_))))));obtain⟨h0,h1⟩:=AG hz;refine wv (EF Aa Aa h0) (wv (r:=rv (Dx 5 hd (Int.toNat ((ha.length:Int)-1)) 0)) (B7 (k:=0) Aa (Bv he) Aa Aa) (wv (r:=rv (Dx 5 hd (Int.toNat ((ha.length:Int)-1)) 1)) (DC (k:=0) ED Aa B5 Aa (Bv he) Aa Aa Aa) (HN (enc:=As) (ys:=ha) (y':=(At.mk ((Ac ha ((ha.length:Int)-1)).fPairs) (((Ac ha ((ha.length:Int)-1)).fLeft)-1) ((Ac ha ((ha.length:Int)-1)).fKey) ((Ac ha ((ha.length:Int)-1)).fLast) ((Ac ha ((ha.length:Int)-1)).fStarted))) (i:=0) (j:=(ha.length:Int)-1) B5 Aa Aa (B8 Aa) Aa he Aa Aa (H':=[.row hd 147 5 (List.map As (List.set ha (Int.toNat ((ha.length:Int)-1)) (At.mk ((Ac ha ((ha.length:Int)-1)).fPairs) (((Ac ha ((ha.length:Int)-1)).fLeft)-1) ((Ac ha ((ha.length:Int)-1)).fKey) ((Ac ha ((ha.length:Int)-1)).fLast) ((Ac ha ((ha.length:Int)-1)).fStarted))))]) Aa ?_)));obtain⟨hb,hf,ho⟩:=HG h1;rw[← hf];refine A5 (Ay (Au (wm Aa (wv (r:=rv (Dx 5 hd (Int.toNat ((ha.length:Int)-1)) 0)) (B7 (k:=0) Aa (Bv (BY he hf)) Aa Aa) (wv (r:=rv (Dx 5 hd (Int.toNat ((ha.length:Int)-1)) 1)) (DC (k:=0) ED Aa B5 Aa (Bv (BY he hf)) Aa Aa Aa) (wv (r:=rI .i64 ((Ac hb ((ha.length:Int)-1)).fLeft)) (Es (enc:=As) (ys:=hb) (i:=0) (j:=(ha.length:Int)-1) B9 Aa Aa (BY he hf) Aa) (wv (Ct Aa Aa) (A5 (A8 (b:=decide (0<((Ac hb ((ha.length:Int)-1)).fLeft))) Aa (λhl=>?_) (λhl=>?_))))))))))
   ·have h2:=AV hl ho;refine Au (wm Aa (wm Aa (wv (r:=rv (Dx 5 hd (Int.toNat ((ha.length:Int)-1)) 0)) (B7 (k:=0) Aa (Bv (BY he hf)) Aa Aa) (wv (r:=rv (Dx 5 hd (Int.toNat ((ha.length:Int)-1)) 0)) (DC (k:=0) ED Aa Gn Aa (Bv (BY he hf)) Aa Aa Aa) (wv (r:=rB ((Ac hb ((ha.length:Int)-1)).fPairs)) (Es (enc:=As) (ys:=hb) (i:=0) (j:=(ha.length:Int)-1) PQ Aa Aa (BY he hf) Aa) (wv (r:=rv (Dx 5 hd (Int.toNat ((ha.length:Int)-1)) 0)) (B7 (k:=0) Aa (Bv (BY he hf)) Aa Aa) (wv (r:=rv (Dx 5 hd (Int.toNat ((ha.length:Int)-1)) 2)) (DC (k:=0) ED Aa Gn Aa (Bv (BY he hf)) Aa Aa Aa) (HN (enc:=As) (ys:=hb) (y':=(At.mk ((Ac hb ((ha.length:Int)-1)).fPairs) ((Ac hb ((ha.length:Int)-1)).fLeft) ((Ac hb ((ha.length:Int)-1)).fPairs) ((Ac hb ((ha.length:Int)-1)).fLast) ((Ac hb ((ha.length:Int)-1)).fStarted))) (i:=0) (j:=(ha.length:Int)-1) Gn Aa Aa (B8 Aa) Aa (BY he hf) Aa Aa (H':=[.row hd 147 5 (List.map As (List.set hb (Int.toNat ((ha.length:Int)-1)) (At.mk ((Ac hb ((ha.length:Int)-1)).fPairs) ((Ac hb ((ha.length:Int)-1)).fLeft) ((Ac hb ((ha.length:Int)-1)).fPairs) ((Ac hb ((ha.length:Int)-1)).fLast) ((Ac hb ((ha.length:Int)-1)).fStarted))))]) Aa ?_))))))));obtain⟨hH,h3,h4⟩:=HG h2;rw[← h3];refine BI (wm Aa (wa Aa (A5 (A4 (Aq (AM (Aq (Cr ?_))))))));have h5:=DI h4 hj hn;refine AM (Aq ?_);obtain rfl:=AC h5;exact A6 (BZ Tryz.results114 (AX Aa)) (sC sN) ⟨hd,Aa,Aa⟩
   ·have h6:=AW hl ho;refine AA (Bi (An (wm Aa (wm Aa (wv (BN (ys:=hb) (enc:=As) (i:=0) EE Aa Aa) ?_)))));obtain⟨h7,h8⟩:=AG h6;refine wv (EF Aa Aa h7) ?_;obtain⟨h9,hA⟩:=AG h8;refine Sw (i:=0) EE Lb Aa Aa Aa h9 Aa (λhB=>?_);refine wa Aa (Ao (AK ?_));have hC:=CI hA hj;exact Az (AP (ht,List.take (Int.toNat ((hb.length:Int)-1)) hb,hB) ⟨hC,Ue _⟩ (AN.c Aa (AN.c Aa AN.nil)) (sC sN))
  ·have hD:=AW hk hh;refine BJ (AF ?_);have hE:=DV hD hj hn;exact AF (B2 (AP (ha,hd) hE (AN.c Aa (AN.c Aa AN.nil)) (sC sN)))
 ·rintro⟨hp,hm⟩ hi;refine Ec (l':=[(0,rv hm),(2,rv (.slice none 0 0))]) (H':=[.row hm 147 5 (List.map As hp)]) Aa Aa ?_;replace hi:CP hp=some r:=hi;unfold CP at hi;refine B0 (Bi (Au (wm Aa (wa Aa (A5 (A4 ?_))))));obtain rfl:=AC hi;exact A6 (BZ Tryz.results114 (AX Aa)) (sC sN) ⟨hm,Aa,Aa⟩
theorem Qg (F:Nat)(v:(List Am))(r:Int×A2×Bool)(h:Hj F v=some r):Fn Tryz.prog GE 88 [BO 4 (List.map Ap v)] [] (λR H=>R=Dp [rI .i64 r.1,Bx (AI r.2.1),rB r.2.2]∧H=[]):=by
 refine enter (n:=152) Tryz.func88 Aa Tryz.ntmps88 Aa (λw Z=>?_);refine Bk (l':=[(0,BO 4 (List.map Ap v))]) (H':=[]) Aa Aa ?_;unfold Hj at h;refine Au (wv (r:=rI .i64 0) (Aj Aa) (Ee (cs:=[rI .i64 0,rI .i64 0,rB false,rB false]) Tryz.zeroValue121 Aa Aa (λb1=>?_)));refine wv (r:=rB false) (Aj Aa) (A5 (O4 (Au (Ee (cs:=[rI .i64 0,rI .i64 0,rB false,rB false]) Tryz.zeroValue121 Aa Aa (λb2=>?_)))));refine BI (wv (r:=rv (.slice none 0 0)) (Aj Aa) (A5 (Ay (O5 (Bi (Ay (Au (wm Aa (wv (C9 (ys:=v) (enc:=Ap) I2 Aa) (wv (r:=rI .i64 0) (Aw Aa) (A5 (Ba (WC.nilrow (e:=147) (sz:=5) (Ed (H2:=[.blk b2 [rI .i64 0,rI .i64 0,rB false,rB false] 121,.blk b1 [rI .i64 0,rI .i64 0,rB false,rB false] 121,.row (.slice none 0 0                                                                                                                                                   ) 147 5 (List.map As ([]:List At))]) ((Ad (i:=1) Aa).trans (Tz _ ((Ad (i:=1) Aa).trans (Tz _ (T2 _))))) ?_))))))))))))));obtain⟨hQ,hR,hy⟩:=Bf h;refine Cc (S:=Nat×((List At)×Int×A2)×(Value)) (V:=(A2)×(Unit)) 0 (λσ=>Cn (λσ=>C5 F v σ.1 σ.2.1 σ.2.2) σ.1 σ.2.1=some hQ) (λσ=>[(0,BO 4 (List.map Ap v)),(3,rv (.pointer (some ⟨b1,0,none⟩))),(5,rv (.pointer (some ⟨b2,0,none⟩))),(6,rv σ.2.2),(11,BO 4 (List.map Ap v)),(12,rI .i64 (v.length:Int)),(13,rI .i64 σ.2.1.2.1)]) (λσ=>[.blk b2 (AI σ.2.1.2.2) 121,.blk b1 [rI .i64 0,rI .i64 0,rB false,rB false] 121,.row σ.2.2 147 5 (List.map As σ.2.1.1)]) (λσ=>σ.1) (F,(([]:List At),0,(A2.mk 0 0 false false)),(.slice none 0 0                                                                                                                                                   )) hR (AN.c Aa (AN.c Aa (AN.c5 Aa Aa Aa Aa Aa AN.nil))) (sC (sC (sC sN))) (λσ=>Hi σ.1=some r) (λσ=>[(3,rv (.pointer (some ⟨b1,0,none⟩))),(5,rv (.pointer (some ⟨b2,0,none⟩)))]) (λσ=>[.blk b2 (AI σ.1) 121,.blk b1 [rI .i64 0,rI .i64 0,rB false,rB false] 121]) ?_ ?_
 ·rintro⟨gI,⟨hd,hb,ha⟩,he⟩ hS;refine Bk (l':=[(0,BO 4 (List.map Ap v)),(3,rv (.pointer (some ⟨b1,0,none⟩))),(5,rv (.pointer (some ⟨b2,0,none⟩))),(6,rv he),(11,BO 4 (List.map Ap v)),(12,rI .i64 (v.length:Int)),(13,rI .i64 hb)]) (H':=[.blk b2 (AI ha) 121,.blk b1 [rI .i64 0,rI .i64 0,rB false,rB false] 121,.row he 147 5 (List.map As hd)]) Aa Aa ?_;obtain⟨hT,rfl,h4,hz,hx⟩:=GJ hS;replace hz:C5 F v hd hb ha=some h4:=hz;unfold C5 at hz;refine Au (wv (Ea Aa Aa) (A5 (Ay (A8 (b:=decide (hb<(v.length:Int))) Aa (λh5=>?_) (λh5=>?_)))))
  ·have hU:=AV h5 hz;refine AA (Bi (DS (S:=((List At)×A2)×(Value)) (λσ=>CH hb σ.1.1 σ.1.2=some h4) (λσ=>[(0,BO 4 (List.map Ap v)),(3,rv (.pointer (some ⟨b1,0,none⟩))),(5,rv (.pointer (some ⟨b2,0,none⟩))),(6,rv σ.2),(11,BO 4 (List.map Ap v)),(12,rI .i64 (v.length:Int)),(13,rI .i64 hb)]) (λσ=>[.blk b2 (AI σ.1.2) 121,.blk b1 [rI .i64 0,rI .i64 0,rB false,rB false] 121,.row σ.2 147 5 (List.map As σ.1.1)]) ?_ ?_))
   ·refine Ba (Au (wm Aa ?_));obtain⟨hV,hW⟩:=AG hU;refine wv (Bn (enc:=Ap) (ys:=v) I2 KZ Aa Aa hV) (wv (Gv Tryz.isAgg95 KZ Aa Aa Aa) (Ee (cs:=[rI .i64 0,rI .i64 0,rS ([]:A9),rI .i64 0]) Rv Aa Aa (λhf=>?_)));refine wa Aa (CS (i:=0) KZ Aa Aa Aa (CF.c Aa) Aa Aa (cs':=[rI .i64 ((Ac v hb).fKind),rI .i64 ((Ac v hb).fInt),rS ((Ac v hb).fStr),rI .i64 ((Ac v hb).fN)]) Aa (H':=[.blk hf (Ap (Ac v hb)) 95,.blk b2 (AI ha) 121,.blk b1 [rI .i64 0,rI .i64 0,rB false,rB false] 121,.row he 147 5 (List.map As hd)]) Aa (A5 (Ay (Au (wv (Bz (i:=0) Tryz.isAgg95 KZ Aa Aa Aa Aa) ?_)))));obtain⟨hH,hX,hI⟩:=Bf hW;refine In Tryz.call111 (O8 F (Ac v hb) hH hX) Aa (wv (C8 Aa) (A5 (A8 (b:=!hH) Aa (λh6=>?_) (λh6=>?_))))
    ·have hY:=AV h6 hI;refine Ay (E3 (H1:=[.blk hf (Ap (Ac v hb)) 95,.blk b2 (AI ha) 121,.blk b1 (AI ha) 121,.row he 147 5 (List.map As hd)]) [3,5] [⟨[],Bx (AI ha),1⟩,⟨[],rI .i64 0,0⟩,⟨[0],rv undef,2⟩,⟨[],rB false,0⟩] (rle [(3,_),(2,[.blk hf (Ap (Ac v hb)) 95,.blk b2 (AI ha) 121,.blk b1 (AI ha) 121,.row he 147 5 (List.map As hd)])]) [2,4,3] ?_ ?_)
     ·refine of (Bz (i:=1) G7 DF Aa Aa Aa Aa) (oq (Aj Aa) (H0 Aa (K4 (CL (i:=2) DF Aa Aa Aa (CF.c Aa) Aa Aa (cs':=[rI .i64 ha.fDepth,rI .i64 ha.fBytes,rB ha.fOutside,rB ha.fLong]) Aa (H':=[.blk hf (Ap (Ac v hb)) 95,.blk b2 (AI ha) 121,.blk b1 (AI ha) 121,.row he 147 5 (List.map As hd)]) Aa)) ?_));refine oq (Aj Aa) ?_;exact C0
     refine Bi (A4 (Aq (AM (Aq (Aq (Cr ?_))))));have hZ:=DI hY hx hy;refine AM (Aq (Hf ?_));obtain rfl:=AC hZ;exact A6 (OS Oy (AX Aa) (Jg (i:=2) G7 DF Aa Aa Aa) (AX Aa)) (sS (sS (sS (sS sN)))) ⟨Aa,Aa⟩
    ·have ga:=AW h6 hI;refine AA (Bi (Ay (Au (wm Aa (wv (BN (ys:=hd) (enc:=As) (i:=3) EE Aa Aa) (wa Aa (A5 ?_)))))));obtain⟨gb,gc⟩:=AG ga;obtain⟨h7,hJ⟩:=AG gc;refine A7 [(0,BO 4 (List.map Ap v)),(3,rv (.pointer (some ⟨b1,0,none⟩))),(5,rv (.pointer (some ⟨b2,0,none⟩))),(6,rv he),(7,rI .i64 hb),(8,rv (.pointer (some ⟨hf,0,none⟩))),(9,rI .i64 (hd.length:Int)),(11,BO 4 (List.map Ap v)),(12,rI .i64 (v.length:Int)),(13,rI .i64 hb),(33,rB ((decide (0<(hd.length:Int)))&&((Ac hd ((hd.length:Int)-1)).fKey)))] [.blk hf (Ap (Ac v hb)) 95,.blk b2 (AI ha) 121,.blk b1 [rI .i64 0,rI .i64 0,rB false,rB false] 121,.row he 147 5 (List.map As hd)] ?_ ?_
     ·refine An (wm Aa (wv (Ct Aa Aa) (wm Aa (AE (decide (0<(hd.length:Int))) (λhi=>?_) (λhi=>?_)))))
      ·refine wo hi (wm Aa (wo hi (wm Aa (wo hi (wv (EF Aa Aa (DH gb hi)) (wo hi (wv (r:=rv (Dx 5 he (Int.toNat ((hd.length:Int)-1)) 0)) (EZ (i:=3) EE Lb Aa Aa Aa (Bv (DH h7 hi))) (wo hi (wv (r:=rv (Dx 5 he (Int.toNat ((hd.length:Int)-1)) 2)) (DC (k:=3) ED Aa Gn Aa (Bv (DH h7 hi)) Aa Aa Aa) (wo hi (wv (r:=rB ((Ac hd ((hd.length:Int)-1)).fKey)) (Es (enc:=As) (ys:=hd) (i:=3) (j:=(hd.length:Int)-1) PQ Aa Aa (DH h7 hi) Aa) (DB Aa hi Aa (Ao ?_)))))))))))));exact BA hi
      ·refine wf hi (wf hi (wf hi (wf hi (wf hi (wf hi (wv (r:=rB false) (A1 (b:=decide (0<(hd.length:Int))) Aa hi Aa) (Ao ?_)))))));exact BA hi
     refine A8 (b:=((decide (0<(hd.length:Int)))&&((Ac hd ((hd.length:Int)-1)).fKey))) Aa (λh8=>?_) (λh8=>?_)
     ·have gd:=AV h8 hJ;refine Au (wm Aa (wm Aa ?_));obtain⟨ge,gf⟩:=AG gd;refine wv (EF Aa Aa ge) ?_;obtain⟨hj,hK⟩:=AG gf;refine wv (r:=rv (Dx 5 he (Int.toNat ((hd.length:Int)-1)) 0)) (EZ (i:=3) EE Lb Aa Aa Aa (Bv hj)) (wa Aa (A5 (Ay (A7 [(0,BO 4 (List.map Ap v)),(3,rv (.pointer (some ⟨b1,0,none⟩))),(5,rv (.pointer (some ⟨b2,0,none⟩))),(6,rv he),(8,rv (.pointer (some ⟨hf,0,none⟩))),(10,rv (Dx 5 he (Int.toNat ((hd.length:Int)-1)) 0)),(11,BO 4 (List.map Ap v)),(12,rI .i64 (v.length:Int)),(13,rI .i64 hb),(38,rv (.pointer (some ⟨hf,0,none⟩))),(39,rI .i64 ((Ac v hb).fKind)),(40,rB (!decide (((Ac v hb).fKind)=4))),(41,rB (!decide (((Ac v hb).fKind)=4))),(55,rB ((!decide (((Ac v hb).fKind)=4))||(((Ac hd ((hd.length:Int)-1)).fStarted)&&(BD ((Ac v hb).fStr) ((Ac hd ((hd.length:Int)-1)).fLast)||decide (((Ac v hb).fStr)=((Ac hd ((hd.length:Int)-1)).fLast))))))] [.blk hf (Ap (Ac v hb)) 95,.blk b2 (AI ha) 121,.blk b1 [rI .i64 0,rI .i64 0,rB false,rB false] 121,.row he 147 5 (List.map As hd)] ?_ ?_))))
      ·refine AE (!decide (((Ac v hb).fKind)=4)) (λhh=>?_) (λhh=>?_)
       ·refine Dt [0,3,5,6,8,10,11,12,13] [⟨[],rv (.pointer (some ⟨hf,0,none⟩)),0⟩,⟨[0],rI .i64 ((Ac v hb).fKind),1⟩,⟨[1],rB (!decide (((Ac v hb).fKind)=4)),0⟩,⟨[2],rB (!decide (((Ac v hb).fKind)=4)),0⟩,⟨[3],rv undef,0⟩,⟨[4,3],rv undef,0⟩,⟨[5,3],rv undef,0⟩,⟨[6,3],rv undef,0⟩,⟨[7,3],rv undef,0⟩,⟨[8],rv undef,0⟩,⟨[9,8],rv undef,0⟩,⟨[8],rv undef,0⟩,⟨[11,8],rv undef,0⟩,⟨[12,8],rv undef,0⟩,⟨[13,8],rv undef,0⟩,⟨[10,14,8],rv undef,0⟩,⟨[8,15,3],rv undef,0⟩,⟨[3,16],rB true,0⟩] [38,39,40,41,42,43,44,45,46,47,48,49,50,51,52,53,54,55,0,3,5,6,8,10,11,12,13] ?_ ?_
        ·refine oq (Ai Cj Aa La Aa Aa) (of (Ax (i:=0) Ld Aa Aa Aa) (oq (EY Aa Aa) (oq (Aw Aa) (oz hh (oz hh (oz hh (oz hh (oz hh (ou (ou (ou (ou (ou (ou (ou (oz hh (oq (Ar (b:=!decide (((Ac v hb).fKind)=4)) Aa hh Aa) ?_)))))))))))))))));exact C0
        exact BA hh
       ·refine AE ((Ac hd ((hd.length:Int)-1)).fStarted) (λhk=>?_) (λhk=>?_)
        ·refine Dt [0,3,5,6,8,10,11,12,13] [⟨[],rv (.pointer (some ⟨hf,0,none⟩)),0⟩,⟨[0],rI .i64 ((Ac v hb).fKind),1⟩,⟨[1],rB (!decide (((Ac v hb).fKind)=4)),0⟩,⟨[2],rB (!decide (((Ac v hb).fKind)=4)),0⟩,⟨[3],rv (Dx 5 he (Int.toNat ((hd.length:Int)-1)) 0),0⟩,⟨[4,3],rv (Dx 5 he (Int.toNat ((hd.length:Int)-1)) 0),1⟩,⟨[5,3],rv (Dx 5 he (Int.toNat ((hd.length:Int)-1)) 4),1⟩,⟨[6,3],rB ((Ac hd ((hd.length:Int)-1)).fStarted),1⟩,⟨[7,3],rB ((Ac hd ((hd.length:Int)-1)).fStarted),0⟩,⟨[8],rv (.pointer (some ⟨hf,2,none⟩)),0⟩,⟨[9,8],rS ((Ac v hb).fStr),1⟩,⟨[8],rv (Dx 5 he (Int.toNat ((hd.length:Int)-1)) 0),0⟩,⟨[11,8],rv (Dx 5 he (Int.toNat ((hd.length:Int)-1)) 0),1⟩,⟨[12,8],rv (Dx 5 he (Int.toNat ((hd.length:Int)-1)) 3),1⟩,⟨[13,8],rS ((Ac hd ((hd.length:Int)-1)).fLast),1⟩,⟨[10,14,8],rB (BD ((Ac v hb).fStr) ((Ac hd ((hd.length:Int)-1)).fLast)||decide (((Ac v hb).fStr)=((Ac hd ((hd.length:Int)-1)).fLast))),0⟩,⟨[8,15,3],rB (BD ((Ac v hb).fStr) ((Ac hd ((hd.length:Int)-1)).fLast)||decide (((Ac v hb).fStr)=((Ac hd ((hd.length:Int)-1)).fLast))),0⟩,⟨[3,16],rB (BD ((Ac v hb).fStr) ((Ac hd ((hd.length:Int)-1)).fLast)||decide (((Ac v hb).fStr)=((Ac hd ((hd.length:Int)-1)).fLast))),0⟩] [38,39,40,41,42,43,44,45,46,47,48,49,50,51,52,53,54,55,0,3,5,6,8,10,11,12,13] ?_ ?_
         ·refine oq (Ai Cj Aa La Aa Aa) (of (Ax (i:=0) Ld Aa Aa Aa) (oq (EY Aa Aa) (oq (Aw Aa) (on hh (oq (Aw Aa) (on hh (of (B7 (k:=3) Aa (Bv hj) Aa Aa) (on hh (of (DC (k:=3) ED Aa Gn Aa (Bv hj) Aa Aa Aa) (on hh (of (Es (enc:=As) (ys:=hd) (i:=3) (j:=(hd.length:Int)-1) PQ Aa Aa hj Aa) (on hh (oq (Aw Aa) (on hk (oq (Ai Cj Aa En Aa Aa) (on hk (of (Ax (i:=0) Eo Aa Aa Aa) (on hk (oq (Aw Aa) (on hk (of (B7 (k:=3) Aa (Bv hj) Aa Aa) (on hk (of (DC (k:=3) ED Aa En Aa (Bv hj) Aa Aa Aa) ?_)))))))))))))))))))))));refine on hk (of (Es (enc:=As) (ys:=hd) (i:=3) (j:=(hd.length:Int)-1) Eo Aa Aa hj Aa) (on hk (oq (Rn Aa Aa) (on hh (oq (Ar Aa hk Aa) (oq (A1 Aa hh Aa) ?_))))));exact C0
         exact BA (And.intro hh hk)
        ·refine Dt [0,3,5,6,8,10,11,12,13] [⟨[],rv (.pointer (some ⟨hf,0,none⟩)),0⟩,⟨[0],rI .i64 ((Ac v hb).fKind),1⟩,⟨[1],rB (!decide (((Ac v hb).fKind)=4)),0⟩,⟨[2],rB (!decide (((Ac v hb).fKind)=4)),0⟩,⟨[3],rv (Dx 5 he (Int.toNat ((hd.length:Int)-1)) 0),0⟩,⟨[4,3],rv (Dx 5 he (Int.toNat ((hd.length:Int)-1)) 0),1⟩,⟨[5,3],rv (Dx 5 he (Int.toNat ((hd.length:Int)-1)) 4),1⟩,⟨[6,3],rB ((Ac hd ((hd.length:Int)-1)).fStarted),1⟩,⟨[7,3],rB ((Ac hd ((hd.length:Int)-1)).fStarted),0⟩,⟨[8],rv undef,0⟩,⟨[9,8],rv undef,0⟩,⟨[8],rv undef,0⟩,⟨[11,8],rv undef,0⟩,⟨[12,8],rv undef,0⟩,⟨[13,8],rv undef,0⟩,⟨[10,14,8],rv undef,0⟩,⟨[8,15,3],rB false,0⟩,⟨[3,16],rB false,0⟩] [38,39,40,41,42,43,44,45,46,47,48,49,50,51,52,53,54,55,0,3,5,6,8,10,11,12,13] ?_ ?_
         ·refine oq (Ai Cj Aa La Aa Aa) (of (Ax (i:=0) Ld Aa Aa Aa) (oq (EY Aa Aa) (oq (Aw Aa) (on hh (oq (Aw Aa) (on hh (of (B7 (k:=3) Aa (Bv hj) Aa Aa) (on hh (of (DC (k:=3) ED Aa Gn Aa (Bv hj) Aa Aa Aa) (on hh (of (Es (enc:=As) (ys:=hd) (i:=3) (j:=(hd.length:Int)-1) PQ Aa Aa hj Aa) (on hh (oq (Aw Aa) (oz hk (oz hk (oz hk (oz hk (oz hk (oz hk (oz hk (on hh (oq (A1 (b:=(Ac hd ((hd.length:Int)-1)).fStarted) Aa hk Aa) (oq (A1 Aa hh Aa) ?_)))))))))))))))))))))));exact C0
         exact BA (And.intro hh hk)
      refine A8 (b:=((!decide (((Ac v hb).fKind)=4))||(((Ac hd ((hd.length:Int)-1)).fStarted)&&(BD ((Ac v hb).fStr) ((Ac hd ((hd.length:Int)-1)).fLast)||decide (((Ac v hb).fStr)=((Ac hd ((hd.length:Int)-1)).fLast)))))) Aa (λh9=>?_) (λh9=>?_)
      ·have gg:=AV h9 hK;refine Ay (E3 (H1:=[.blk hf (Ap (Ac v hb)) 95,.blk b2 (AI ha) 121,.blk b1 (AI ha) 121,.row he 147 5 (List.map As hd)]) [3,5] [⟨[],Bx (AI ha),1⟩,⟨[],rI .i64 0,0⟩,⟨[0],rv undef,2⟩,⟨[],rB false,0⟩] (rle [(3,_),(2,[.blk hf (Ap (Ac v hb)) 95,.blk b2 (AI ha) 121,.blk b1 (AI ha) 121,.row he 147 5 (List.map As hd)])]) [2,4,3] ?_ ?_)
       ·refine of (Bz (i:=1) G7 DF Aa Aa Aa Aa) (oq (Aj Aa) (H0 Aa (K4 (CL (i:=2) DF Aa Aa Aa (CF.c Aa) Aa Aa (cs':=[rI .i64 ha.fDepth,rI .i64 ha.fBytes,rB ha.fOutside,rB ha.fLong]) Aa (H':=[.blk hf (Ap (Ac v hb)) 95,.blk b2 (AI ha) 121,.blk b1 (AI ha) 121,.row he 147 5 (List.map As hd)]) Aa)) ?_));refine oq (Aj Aa) ?_;exact C0
       refine Bi (A4 (Aq (Aq (AM (Aq (Aq (Cr ?_)))))));have gh:=DI gg hx hy;refine AM (Aq (Hf ?_));obtain rfl:=AC gh;exact A6 (OS Oy (AX Aa) (Jg (i:=2) G7 DF Aa Aa Aa) (AX Aa)) (sS (sS (sS (sS sN)))) ⟨Aa,Aa⟩
      ·have gi:=AW h9 hK;refine AA (Bi (Au (wm Aa (wm Aa (wm Aa (wv (Ai Cj Aa En Aa Aa) (wv (Ax (i:=0) Eo Aa Aa Aa) (wv (r:=rv (Dx 5 he (Int.toNat ((hd.length:Int)-1)) 0)) (B7 (k:=3) Aa (Bv hj) Aa Aa) (wv (r:=rv (Dx 5 he (Int.toNat ((hd.length:Int)-1)) 3)) (DC (k:=3) ED Aa En Aa (Bv hj) Aa Aa Aa) (HN (enc:=As) (ys:=hd) (y':=(At.mk ((Ac hd ((hd.length:Int)-1)).fPairs) ((Ac hd ((hd.length:Int)-1)).fLeft) ((Ac hd ((hd.length:Int)-1)).fKey) ((Ac v hb).fStr) ((Ac hd ((hd.length:Int)-1)).fStarted))) (i:=3) (j:=(hd.length:Int)-1) En Aa Aa (B8 Aa) Aa hj Aa Aa (H':=[.blk hf (Ap (Ac v hb)) 95,.blk b2 (AI ha) 121,.blk b1 [rI .i64 0,rI .i64 0,rB false,rB false] 121,.row he 147 5 (List.map As (List.set hd (Int.toNat ((hd.length:Int)-1)) (At.mk ((Ac hd ((hd.length:Int)-1)).fPairs) ((Ac hd ((hd.length:Int)-1)).fLeft) ((Ac hd ((hd.length:Int)-1)).fKey) ((Ac v hb).fStr) ((Ac hd ((hd.length:Int)-1)).fStarted))))]) Aa ?_))))))))));obtain⟨hr,hw,gj⟩:=HG gi;rw[← hw];refine wv (r:=rv (Dx 5 he (Int.toNat ((hd.length:Int)-1)) 0)) (B7 (k:=3) Aa (Bv (BY hj hw)) Aa Aa) (wv (r:=rv (Dx 5 he (Int.toNat ((hd.length:Int)-1)) 4)) (DC (k:=3) ED Aa Gn Aa (Bv (BY hj hw)) Aa Aa Aa) (HN (enc:=As) (ys:=hr) (y':=(At.mk ((Ac hr ((hd.length:Int)-1)).fPairs) ((Ac hr ((hd.length:Int)-1)).fLeft) ((Ac hr ((hd.length:Int)-1)).fKey) ((Ac hr ((hd.length:Int)-1)).fLast) true)) (i:=3) (j:=(hd.length:Int)-1) Gn Aa Aa (B8 Aa) Aa (BY hj hw) Aa Aa (H':=[.blk hf (Ap (Ac v hb)) 95,.blk b2 (AI ha) 121,.blk b1 [rI .i64 0,rI .i64 0,rB false,rB false] 121,.row he 147 5 (List.map As (List.set hr (Int.toNat ((hd.length:Int)-1)) (At.mk ((Ac hr ((hd.length:Int)-1)).fPairs) ((Ac hr ((hd.length:Int)-1)).fLeft) ((Ac hr ((hd.length:Int)-1)).fKey) ((Ac hr ((hd.length:Int)-1)).fLast) true)))]) Aa ?_));obtain⟨hs,h1,gl⟩:=HG gj;rw[← h1];refine wv (r:=rv (Dx 5 he (Int.toNat ((hd.length:Int)-1)) 0)) (B7 (k:=3) Aa (Bv (BY (BY hj hw) h1)) Aa Aa) (wv (r:=rv (Dx 5 he (Int.toNat ((hd.length:Int)-1)) 2)) (DC (k:=3) ED Aa Gn Aa (Bv (BY (BY hj hw) h1)) Aa Aa Aa) (HN (enc:=As) (ys:=hs) (y':=(At.mk ((Ac hs ((hd.length:Int)-1)).fPairs) ((Ac hs ((hd.length:Int)-1)).fLeft) false ((Ac hs ((hd.length:Int)-1)).fLast) ((Ac hs ((hd.length:Int)-1)).fStarted))) (i:=3) (j:=(hd.length:Int)-1) Gn Aa Aa (B8 Aa) Aa (BY (BY hj hw) h1) Aa Aa (H':=[.blk hf (Ap (Ac v hb)) 95,.blk b2 (AI ha) 121,.blk b1 [rI .i64 0,rI .i64 0,rB false,rB false] 121,.row he 147 5 (List.map As (List.set hs (Int.toNat ((hd.length:Int)-1)) (At.mk ((Ac hs ((hd.length:Int)-1)).fPairs) ((Ac hs ((hd.length:Int)-1)).fLeft) false ((Ac hs ((hd.length:Int)-1)).fLast) ((Ac hs ((hd.length:Int)-1)).fStarted))))]) Aa ?_));obtain⟨ht,gm,gp⟩:=HG gl;rw[← gm];refine A5 (Ay ?_);obtain⟨hl,gq,gr⟩:=Bf gp;obtain⟨gs,gt⟩:=AG gr;refine E3 (H1:=[.blk hf (Ap (Ac v hb)) 95,.blk b2 [rI .i64 ha.fDepth,rI .i64 (IntKind.wrap .i64 (ha.fBytes+(hl+1))),rB ha.fOutside,rB ha.fLong] 121,.blk b1 [rI .i64 0,rI .i64 0,rB false,rB false] 121,.row he 147 5 (List.map As ht)]) [0,3,5,6,8,11,12,13,38,39,40,41] [⟨[],rv (.pointer (some ⟨b2,1,none⟩)),0⟩,⟨[0],rI .i64 ha.fBytes,1⟩,⟨[],rv (.pointer (some ⟨hf,2,none⟩)),0⟩,⟨[2],rS ((Ac v hb).fStr),1⟩,⟨[3],rI .i64 hl,0⟩,⟨[4],rI .i64 (hl+1),0⟩,⟨[1,5],rI .i64 (IntKind.wrap .i64 (ha.fBytes+(hl+1))),0⟩,⟨[],rv (.pointer (some ⟨b2,1,none⟩)),0⟩,⟨[7,6],rv undef,2⟩] (rle [(9,_),(1,[.blk hf (Ap (Ac v hb)) 95,.blk b2 [rI .i64 ha.fDepth,rI .i64 (IntKind.wrap .i64 (ha.fBytes+(hl+1))),rB ha.fOutside,rB ha.fLong] 121,.blk b1 [rI .i64 0,rI .i64 0,rB false,rB false] 121,.row he 147 5 (List.map As ht)])]) [68,69,70,71,72,73,74,75,0,3,5,6,8,11,12,13,38,39,40,41] ?_ ?_
       ·refine oq (Ai CR Aa B5 Aa Aa) (of (Ax (i:=1) B9 Aa Aa Aa) (oq (Ai Cj Aa En Aa Aa) (of (Ax (i:=0) Eo Aa Aa Aa) (JO Aa (λH=>Pf Tryz.call112 (JF ((Ac v hb).fStr) hl gq) Aa) ?_))));refine oq (BL Aa Aa gs) (oq (M0 Aa Aa) (oq (Ai CR Aa B5 Aa Aa) (H0 Aa (K4 (Kh (i:=1) B5 Aa Aa (B8 Aa) Aa Aa (cs':=[rI .i64 ha.fDepth,rI .i64 (IntKind.wrap .i64 (ha.fBytes+(hl+1))),rB ha.fOutside,rB ha.fLong]) Aa (H':=[.blk hf (Ap (Ac v hb)) 95,.blk b2 [rI .i64 ha.fDepth,rI .i64 (IntKind.wrap .i64 (ha.fBytes+(hl+1))),rB ha.fOutside,rB ha.fLong] 121,.blk b1 [rI .i64 0,rI .i64 0,rB false,rB false] 121,.row he 147 5 (List.map As ht)]) Aa)) ?_)));exact C0
       refine Bi (A7 [(0,BO 4 (List.map Ap v)),(3,rv (.pointer (some ⟨b1,0,none⟩))),(5,rv (.pointer (some ⟨b2,0,none⟩))),(6,rv he),(11,BO 4 (List.map Ap v)),(12,rI .i64 (v.length:Int)),(13,rI .i64 hb),(38,rv (.pointer (some ⟨hf,0,none⟩))),(39,rI .i64 ((Ac v hb).fKind)),(40,rB (!decide (((Ac v hb).fKind)=4))),(41,rB (!decide (((Ac v hb).fKind)=4))),(68,rv (.pointer (some ⟨b2,1,none⟩))),(69,rI .i64 ha.fBytes),(70,rv (.pointer (some ⟨hf,2,none⟩))),(71,rS ((Ac v hb).fStr)),(72,rI .i64 hl),(73,rI .i64 (hl+1)),(74,rI .i64 (IntKind.wrap .i64 (ha.fBytes+(hl+1)))),(75,rv (.pointer (some ⟨b2,1,none⟩)))] [.blk hf (Ap (Ac v hb)) 95,.blk b2 [rI .i64 ha.fDepth,rI .i64 (IntKind.wrap .i64 (ha.fBytes+(hl+1))),rB ha.fOutside,rB (ha.fLong||(decide (200<(((Ac v hb).fStr).length:Int))))] 121,.blk b1 [rI .i64 0,rI .i64 0,rB false,rB false] 121,.row he 147 5 (List.map As ht)] ?_ ?_)
       ·refine An (wv (Ai CR Aa Gn Aa Aa) (wv (Ax (i:=1) PQ Aa Aa Aa) (wm Aa (AE (ha.fLong) (λho=>?_) (λho=>?_)))))
        ·refine wf ho (wf ho (wf ho (wf ho (wv (r:=rB true) (Ar (b:=ha.fLong) rfl ho rfl) (wv (Ai CR rfl Gn rfl rfl) (Cz (i:=1) Gn rfl rfl (B8 rfl) rfl rfl (cs':=[rI .i64 ha.fDepth,rI .i64 (IntKind.wrap .i64 (ha.fBytes+(hl+1))),rB ha.fOutside,rB true]) rfl (H':=[.blk hf (Ap (Ac v hb)) 95,.blk b2 [rI .i64 ha.fDepth,rI .i64 (IntKind.wrap .i64 (ha.fBytes+(hl+1))),rB ha.fOutside,rB true] 121,.blk b1 [rI .i64 0,rI .i64 0,rB false,rB false] 121,.row he 147 5 (List.map As ht)]) rfl (Ao (GN (H':=[.blk hf (Ap (Ac v hb)) 95,.blk b2 [rI .i64 ha.fDepth,rI .i64 (IntKind.wrap .i64 (ha.fBytes+(hl+1))),rB ha.fOutside,rB (ha.fLong||(decide (200<(((Ac v hb).fStr).length:Int))))] 121,.blk b1 [rI .i64 0,rI .i64 0,rB false,rB false] 121,.row he 147 5 (List.map As ht)]) (by simp only[ho,TK,TQ,TW,TF,TU,TR,TX,TT,TA,TI,TD,T8]) ?_))))))));exact wt
        ·refine wo ho (wv (Ai Cj rfl En rfl rfl) (wo ho (wv (Ax (i:=0) Eo rfl rfl rfl) (wo ho (wv (BP Gm rfl) (wo ho (wv (Ct rfl rfl) (EK rfl ho rfl (wv (Ai CR rfl Gn rfl rfl) (Cz (i:=1) Gn rfl rfl (B8 rfl) rfl rfl (cs':=[rI .i64 ha.fDepth,rI .i64 (IntKind.wrap .i64 (ha.fBytes+(hl+1))),rB ha.fOutside,rB (decide (200<(((Ac v hb).fStr).length:Int)))]) rfl (H':=[.blk hf (Ap (Ac v hb)) 95,.blk b2 [rI .i64 ha.fDepth,rI .i64 (IntKind.wrap .i64 (ha.fBytes+(hl+1))),rB ha.fOutside,rB (decide (200<(((Ac v hb).fStr).length:Int)))] 121,.blk b1 [rI .i64 0,rI .i64 0,rB false,rB false] 121,.row he 147 5 (List.map As ht)]) rfl (Ao (GN (H':=[.blk hf (Ap (Ac v hb)) 95,.blk b2 [rI .i64 ha.fDepth,rI .i64 (IntKind.wrap .i64 (ha.fBytes+(hl+1))),rB ha.fOutside,rB (ha.fLong||(decide (200<(((Ac v hb).fStr).length:Int))))] 121,.blk b1 [rI .i64 0,rI .i64 0,rB false,rB false] 121,.row he 147 5 (List.map As ht)]) (by simp only[ho,TK,TQ,TW,TF,TU,TR,TX,TT,TA,TI,TD,T8]) ?_))))))))))));exact wt
       exact BJ (AF (B0 (Az (AP ((ht,(A2.mk ha.fDepth (IntKind.wrap .i64 (ha.fBytes+(hl+1))) ha.fOutside (ha.fLong||(decide (200<(((Ac v hb).fStr).length:Int)))))),he) gt (AN.c Aa (AN.c Aa (AN.c5 Aa Aa Aa Aa Aa AN.nil))) (sS (sC (sC (sC sN))))))))
     ·have gu:=AW h8 hJ;refine AA (Bi (Au (wv (Ai CR Aa B5 Aa Aa) (wv (Ax (i:=1) B9 Aa Aa Aa) (wm Aa (wv (BN (ys:=hd) (enc:=As) (i:=3) EE Aa Aa) ?_))))));obtain⟨gv,gw⟩:=AG gu;refine wv (BL Aa Aa gv) (wv (Ro Tryz.underlying3 Aa Aa) (wv (Ai CR Aa B5 Aa Aa) (Cz (i:=1) B5 Aa Aa (B8 Aa) Aa Aa (cs':=[rI .i64 (max ha.fDepth ((hd.length:Int)+1)),rI .i64 ha.fBytes,rB ha.fOutside,rB ha.fLong]) Aa (H':=[.blk hf (Ap (Ac v hb)) 95,.blk b2 [rI .i64 (max ha.fDepth ((hd.length:Int)+1)),rI .i64 ha.fBytes,rB ha.fOutside,rB ha.fLong] 121,.blk b1 [rI .i64 0,rI .i64 0,rB false,rB false] 121,.row he 147 5 (List.map As hd)]) Aa (A5 (Ay ?_)))));obtain⟨hg,gx,gy⟩:=Bf gw;refine E3 (H1:=[.blk hf (Ap (Ac v hb)) 95,.blk b2 [rI .i64 (max ha.fDepth ((hd.length:Int)+1)),rI .i64 (IntKind.wrap .i64 (ha.fBytes+hg)),rB ha.fOutside,rB ha.fLong] 121,.blk b1 [rI .i64 0,rI .i64 0,rB false,rB false] 121,.row he 147 5 (List.map As hd)]) [0,3,5,6,7,8,11,12,13] [⟨[],rv (.pointer (some ⟨b2,1,none⟩)),0⟩,⟨[0],rI .i64 ha.fBytes,1⟩,⟨[],Bx (Ap (Ac v hb)),1⟩,⟨[2],rI .i64 hg,0⟩,⟨[1,3],rI .i64 (IntKind.wrap .i64 (ha.fBytes+hg)),0⟩,⟨[],rv (.pointer (some ⟨b2,1,none⟩)),0⟩,⟨[5,4],rv undef,2⟩] (rle [(7,_),(1,[.blk hf (Ap (Ac v hb)) 95,.blk b2 [rI .i64 (max ha.fDepth ((hd.length:Int)+1)),rI .i64 (IntKind.wrap .i64 (ha.fBytes+hg)),rB ha.fOutside,rB ha.fLong] 121,.blk b1 [rI .i64 0,rI .i64 0,rB false,rB false] 121,.row he 147 5 (List.map As hd)])]) [92,93,94,95,96,97,0,3,5,6,7,8,11,12,13] ?_ ?_
      ·refine oq (Ai CR Aa B5 Aa Aa) (of (Ax (i:=1) B9 Aa Aa Aa) (of (Bz (i:=0) Tryz.isAgg95 KZ Aa Aa Aa Aa) (JO Aa (λH=>Pf Tryz.call113 (Qf (Ac v hb) hg gx) Aa) ?_)));refine oq (M0 Aa Aa) (oq (Ai CR Aa B5 Aa Aa) (H0 Aa (K4 (Kh (i:=1) B5 Aa Aa (B8 Aa) Aa Aa (cs':=[rI .i64 (max ha.fDepth ((hd.length:Int)+1)),rI .i64 (IntKind.wrap .i64 (ha.fBytes+hg)),rB ha.fOutside,rB ha.fLong]) Aa (H':=[.blk hf (Ap (Ac v hb)) 95,.blk b2 [rI .i64 (max ha.fDepth ((hd.length:Int)+1)),rI .i64 (IntKind.wrap .i64 (ha.fBytes+hg)),rB ha.fOutside,rB ha.fLong] 121,.blk b1 [rI .i64 0,rI .i64 0,rB false,rB false] 121,.row he 147 5 (List.map As hd)]) Aa)) ?_));exact C0
      refine Bi ?_;obtain⟨gz,hL⟩:=AG gy;refine A7 [(0,BO 4 (List.map Ap v)),(3,rv (.pointer (some ⟨b1,0,none⟩))),(5,rv (.pointer (some ⟨b2,0,none⟩))),(6,rv he),(7,rI .i64 hb),(8,rv (.pointer (some ⟨hf,0,none⟩))),(11,BO 4 (List.map Ap v)),(12,rI .i64 (v.length:Int)),(13,rI .i64 hb),(92,rv (.pointer (some ⟨b2,1,none⟩))),(93,rI .i64 ha.fBytes),(94,Bx (Ap (Ac v hb))),(95,rI .i64 hg),(96,rI .i64 (IntKind.wrap .i64 (ha.fBytes+hg))),(97,rv (.pointer (some ⟨b2,1,none⟩)))] [.blk hf (Ap (Ac v hb)) 95,.blk b2 [rI .i64 (max ha.fDepth ((hd.length:Int)+1)),rI .i64 (IntKind.wrap .i64 (ha.fBytes+hg)),rB (ha.fOutside||((decide (((Ac v hb).fKind)=3))&&(!(ov (Bl ((Ac v hb).fInt)))))),rB ha.fLong] 121,.blk b1 [rI .i64 0,rI .i64 0,rB false,rB false] 121,.row he 147 5 (List.map As hd)] ?_ ?_
      ·refine An (wv (Ai CR Aa Gn Aa Aa) (wv (Ax (i:=1) PQ Aa Aa Aa) (wm Aa (AE (ha.fOutside) (λhm=>?_) (λhm=>?_)))))
       ·refine wf hm (wf hm (wf hm (wf hm (wu (wu (wu (wu (wf hm (wv (r:=rB true) (Ar (b:=ha.fOutside) rfl hm rfl) (wv (Ai CR rfl Gn rfl rfl) (Cz (i:=1) Gn rfl rfl (B8 rfl) rfl rfl (cs':=[rI .i64 (max ha.fDepth ((hd.length:Int)+1)),rI .i64 (IntKind.wrap .i64 (ha.fBytes+hg)),rB true,rB ha.fLong]) rfl (H':=[.blk hf (Ap (Ac v hb)) 95,.blk b2 [rI .i64 (max ha.fDepth ((hd.length:Int)+1)),rI .i64 (IntKind.wrap .i64 (ha.fBytes+hg)),rB true,rB ha.fLong] 121,.blk b1 [rI .i64 0,rI .i64 0,rB false,rB false] 121,.row he 147 5 (List.map As hd)]) rfl (Ao (GN (H':=[.blk hf (Ap (Ac v hb)) 95,.blk b2 [rI .i64 (max ha.fDepth ((hd.length:Int)+1)),rI .i64 (IntKind.wrap .i64 (ha.fBytes+hg)),rB (ha.fOutside||((decide (((Ac v hb).fKind)=3))&&(!(ov (Bl ((Ac v hb).fInt)))))),rB ha.fLong] 121,.blk b1 [rI .i64 0,rI .i64 0,rB false,rB false] 121,.row he 147 5 (List.map As hd)]) (by simp only[hm,TK,TQ,TW,TF,TU,TR,TX,TT,TA,TI,TD,T8]) ?_)))))))))))));exact wt
       ·refine wo hm (wv (Ai Cj Aa La Aa Aa) (wo hm (wv (Ax (i:=0) Ld Aa Aa Aa) (wo hm (wv (Bw Aa Aa) (wo hm (wm Aa (AE (decide (((Ac v hb).fKind)=3)) (λhn=>?_) (λhn=>?_)))))))))
        ·refine wo hn (wv (Ai Cj rfl B5 rfl rfl) (wo hn (wv (Ax (i:=0) B9 rfl rfl rfl) (wo hn (In Tryz.call103 (Pm ((Ac v hb).fInt) (ov (Bl ((Ac v hb).fInt))) (L2 (DH (Gh gz hm) hn))) rfl (wo hn (wv (C8 rfl) (wo hm (DB rfl hn rfl (EK rfl hm rfl (wv (Ai CR rfl Gn rfl rfl) (Cz (i:=1) Gn rfl rfl (B8 rfl) rfl rfl (cs':=[rI .i64 (max ha.fDepth ((hd.length:Int)+1)),rI .i64 (IntKind.wrap .i64 (ha.fBytes+hg)),rB (!(ov (Bl ((Ac v hb).fInt)))),rB ha.fLong]) rfl (H':=[.blk hf (Ap (Ac v hb)) 95,.blk b2 [rI .i64 (max ha.fDepth ((hd.length:Int)+1)),rI .i64 (IntKind.wrap .i64 (ha.fBytes+hg)),rB (!(ov (Bl ((Ac v hb).fInt)))),rB ha.fLong] 121,.blk b1 [rI .i64 0,rI .i64 0,rB false,rB false] 121,.row he 147 5 (List.map As hd)]) rfl (Ao (GN (H':=[.blk hf (Ap (Ac v hb)) 95,.blk b2 [rI .i64 (max ha.fDepth ((hd.length:Int)+1)),rI .i64 (IntKind.wrap .i64 (ha.fBytes+hg)),rB (ha.fOutside||((decide (((Ac v hb).fKind)=3))&&(!(ov (Bl ((Ac v hb).fInt)))))),rB ha.fLong] 121,.blk b1 [rI .i64 0,rI .i64 0,rB false,rB false] 121,.row he 147 5 (List.map As hd)]) (by simp only[hm,hn,TK,TQ,TW,TF,TU,TR,TX,TT,TA,TI,TD,T8]) ?_))))))))))))));exact wt
        ·refine wf hn (wf hn (wf hn (wf hn (wo hm (wv (r:=rB false) (A1 (b:=decide (((Ac v hb).fKind)=3)) rfl hn rfl) (EK rfl hm rfl (wv (Ai CR rfl Gn rfl rfl) (Cz (i:=1) Gn rfl rfl (B8 rfl) rfl rfl (cs':=[rI .i64 (max ha.fDepth ((hd.length:Int)+1)),rI .i64 (IntKind.wrap .i64 (ha.fBytes+hg)),rB false,rB ha.fLong]) rfl (H':=[.blk hf (Ap (Ac v hb)) 95,.blk b2 [rI .i64 (max ha.fDepth ((hd.length:Int)+1)),rI .i64 (IntKind.wrap .i64 (ha.fBytes+hg)),rB false,rB ha.fLong] 121,.blk b1 [rI .i64 0,rI .i64 0,rB false,rB false] 121,.row he 147 5 (List.map As hd)]) rfl (Ao (GN (H':=[.blk hf (Ap (Ac v hb)) 95,.blk b2 [rI .i64 (max ha.fDepth ((hd.length:Int)+1)),rI .i64 (IntKind.wrap .i64 (ha.fBytes+hg)),rB (ha.fOutside||((decide (((Ac v hb).fKind)=3))&&(!(ov (Bl ((Ac v hb).fInt)))))),rB ha.fLong] 121,.blk b1 [rI .i64 0,rI .i64 0,rB false,rB false] 121,.row he 147 5 (List.map As hd)]) (by simp only[hm,hn,TK,TQ,TW,TF,TU,TR,TX,TT,TA,TI,TD,T8]) ?_))))))))));exact wt
      refine A7 [(0,BO 4 (List.map Ap v)),(3,rv (.pointer (some ⟨b1,0,none⟩))),(5,rv (.pointer (some ⟨b2,0,none⟩))),(6,rv he),(7,rI .i64 hb),(8,rv (.pointer (some ⟨hf,0,none⟩))),(11,BO 4 (List.map Ap v)),(12,rI .i64 (v.length:Int)),(13,rI .i64 hb),(92,rv (.pointer (some ⟨b2,1,none⟩))),(93,rI .i64 ha.fBytes),(94,Bx (Ap (Ac v hb))),(95,rI .i64 hg),(96,rI .i64 (IntKind.wrap .i64 (ha.fBytes+hg))),(97,rv (.pointer (some ⟨b2,1,none⟩)))] [.blk hf (Ap (Ac v hb)) 95,.blk b2 [rI .i64 (max ha.fDepth ((hd.length:Int)+1)),rI .i64 (IntKind.wrap .i64 (ha.fBytes+hg)),rB (ha.fOutside||((decide (((Ac v hb).fKind)=3))&&(!(ov (Bl ((Ac v hb).fInt)))))),rB (ha.fLong||(decide (200<(((Ac v hb).fStr).length:Int))))] 121,.blk b1 [rI .i64 0,rI .i64 0,rB false,rB false] 121,.row he 147 5 (List.map As hd)] ?_ ?_
      ·refine An (wv (Ai CR Aa Gn Aa Aa) (wv (Ax (i:=1) PQ Aa Aa Aa) (wm Aa (AE (ha.fLong) (λhp=>?_) (λhp=>?_)))))
       ·refine wf hp (wf hp (wf hp (wf hp (wv (r:=rB true) (Ar (b:=ha.fLong) rfl hp rfl) (wv (Ai CR rfl Gn rfl rfl) (Cz (i:=1) Gn rfl rfl (B8 rfl) rfl rfl (cs':=[rI .i64 (max ha.fDepth ((hd.length:Int)+1)),rI .i64 (IntKind.wrap .i64 (ha.fBytes+hg)),rB (ha.fOutside||((decide (((Ac v hb).fKind)=3))&&(!(ov (Bl ((Ac v hb).fInt)))))),rB true]) rfl (H':=[.blk hf (Ap (Ac v hb)) 95,.blk b2 [rI .i64 (max ha.fDepth ((hd.length:Int)+1)),rI .i64 (IntKind.wrap .i64 (ha.fBytes+hg)),rB (ha.fOutside||((decide (((Ac v hb).fKind)=3))&&(!(ov (Bl ((Ac v hb).fInt)))))),rB true] 121,.blk b1 [rI .i64 0,rI .i64 0,rB false,rB false] 121,.row he 147 5 (List.map As hd)]) rfl (Ao (GN (H':=[.blk hf (Ap (Ac v hb)) 95,.blk b2 [rI .i64 (max ha.fDepth ((hd.length:Int)+1)),rI .i64 (IntKind.wrap .i64 (ha.fBytes+hg)),rB (ha.fOutside||((decide (((Ac v hb).fKind)=3))&&(!(ov (Bl ((Ac v hb).fInt)))))),rB (ha.fLong||(decide (200<(((Ac v hb).fStr).length:Int))))] 121,.blk b1 [rI .i64 0,rI .i64 0,rB false,rB false] 121,.row he 147 5 (List.map As hd)]) (by simp only[hp,TK,TQ,TW,TF,TU,TR,TX,TT,TA,TI,TD,T8]) ?_))))))));exact wt
       ·refine wo hp (wv (Ai Cj rfl En rfl rfl) (wo hp (wv (Ax (i:=0) Eo rfl rfl rfl) (wo hp (wv (BP Gm rfl) (wo hp (wv (Ct rfl rfl) (EK rfl hp rfl (wv (Ai CR rfl Gn rfl rfl) (Cz (i:=1) Gn rfl rfl (B8 rfl) rfl rfl (cs':=[rI .i64 (max ha.fDepth ((hd.length:Int)+1)),rI .i64 (IntKind.wrap .i64 (ha.fBytes+hg)),rB (ha.fOutside||((decide (((Ac v hb).fKind)=3))&&(!(ov (Bl ((Ac v hb).fInt)))))),rB (decide (200<(((Ac v hb).fStr).length:Int)))]) rfl (H':=[.blk hf (Ap (Ac v hb)) 95,.blk b2 [rI .i64 (max ha.fDepth ((hd.length:Int)+1)),rI .i64 (IntKind.wrap .i64 (ha.fBytes+hg)),rB (ha.fOutside||((decide (((Ac v hb).fKind)=3))&&(!(ov (Bl ((Ac v hb).fInt)))))),rB (decide (200<(((Ac v hb).fStr).length:Int)))] 121,.blk b1 [rI .i64 0,rI .i64 0,rB false,rB false] 121,.row he 147 5 (List.map As hd)]) rfl (Ao (GN (H':=[.blk hf (Ap (Ac v hb)) 95,.blk b2 [rI .i64 (max ha.fDepth ((hd.length:Int)+1)),rI .i64 (IntKind.wrap .i64 (ha.fBytes+hg)),rB (ha.fOutside||((decide (((Ac v hb).fKind)=3))&&(!(ov (Bl ((Ac v hb).fInt)))))),rB (ha.fLong||(decide (200<(((Ac v hb).fStr).length:Int))))] 121,.blk b1 [rI .i64 0,rI .i64 0,rB false,rB false] 121,.row he 147 5 (List.map As hd)]) (by simp only[hp,TK,TQ,TW,TF,TU,TR,TX,TT,TA,TI,TD,T8]) ?_))))))))))));exact wt
      refine Ay (Au (wv (Ai Cj Aa B5 Aa Aa) (wv (Ax (i:=0) B9 Aa Aa Aa) (wv (Ct Aa Aa) (A5 (A8 (b:=decide (0<((Ac v hb).fN))) Aa (λhA=>?_) (λhA=>?_)))))))
      ·have hN:=AV hA hL;refine Ay (Au (wv (Ai Cj Aa B5 Aa Aa) (wv (Ax (i:=0) B9 Aa Aa Aa) (wm Aa (wv (C9 (ys:=v) (enc:=Ap) I2 Aa) (wv (Ct Aa Aa) (A5 (A8 (b:=decide ((v.length:Int)<((Ac v hb).fN))) Aa (λhB=>?_) (λhB=>?_)))))))))
       ·have g0:=AV hB hN;refine Ay (E3 (H1:=[.blk hf (Ap (Ac v hb)) 95,.blk b2 [rI .i64 (max ha.fDepth ((hd.length:Int)+1)),rI .i64 (IntKind.wrap .i64 (ha.fBytes+hg)),rB (ha.fOutside||((decide (((Ac v hb).fKind)=3))&&(!(ov (Bl ((Ac v hb).fInt)))))),rB (ha.fLong||(decide (200<(((Ac v hb).fStr).length:Int))))] 121,.blk b1 [rI .i64 (max ha.fDepth ((hd.length:Int)+1)),rI .i64 (IntKind.wrap .i64 (ha.fBytes+hg)),rB (ha.fOutside||((decide (((Ac v hb).fKind)=3))&&(!(ov (Bl ((Ac v hb).fInt)))))),rB (ha.fLong||(decide (200<(((Ac v hb).fStr).length:Int))))] 121,.row he 147 5 (List.map As hd)]) [3,5] [⟨[],Bx [rI .i64 (max ha.fDepth ((hd.length:Int)+1)),rI .i64 (IntKind.wrap .i64 (ha.fBytes+hg)),rB (ha.fOutside||((decide (((Ac v hb).fKind)=3))&&(!(ov (Bl ((Ac v hb).fInt)))))),rB (ha.fLong||(decide (200<(((Ac v hb).fStr).length:Int))))],1⟩,⟨[],rI .i64 0,0⟩,⟨[0],rv undef,2⟩,⟨[],rB false,0⟩] (rle [(3,_),(2,[.blk hf (Ap (Ac v hb)) 95,.blk b2 [rI .i64 (max ha.fDepth ((hd.length:Int)+1)),rI .i64 (IntKind.wrap .i64 (ha.fBytes+hg)),rB (ha.fOutside||((decide (((Ac v hb).fKind)=3))&&(!(ov (Bl ((Ac v hb).fInt)))))),rB (ha.fLong||(decide (200<(((Ac v hb).fStr).length:Int))))] 121,.blk b1 [rI .i64 (max ha.fDepth ((hd.length:Int)+1)),rI .i64 (IntKind.wrap .i64 (ha.fBytes+hg)),rB (ha.fOutside||((decide (((Ac v hb).fKind)=3))&&(!(ov (Bl ((Ac v hb).fInt)))))),rB (ha.fLong||(decide (200<(((Ac v hb).fStr).length:Int))))] 121,.row he 147 5 (List.map As hd)])]) [2,4,3] ?_ ?_)
        ·refine of (Bz (i:=1) G7 DF Aa Aa Aa Aa) (oq (Aj Aa) (H0 Aa (K4 (CL (i:=2) DF Aa Aa Aa (CF.c Aa) Aa Aa (cs':=[rI .i64 (max ha.fDepth ((hd.length:Int)+1)),rI .i64 (IntKind.wrap .i64 (ha.fBytes+hg)),rB (ha.fOutside||((decide (((Ac v hb).fKind)=3))&&(!(ov (Bl ((Ac v hb).fInt)))))),rB (ha.fLong||(decide (200<(((Ac v hb).fStr).length:Int))))]) Aa (H':=[.blk hf (Ap (Ac v hb)) 95,.blk b2 [rI .i64 (max ha.fDepth ((hd.length:Int)+1)),rI .i64 (IntKind.wrap .i64 (ha.fBytes+hg)),rB (ha.fOutside||((decide (((Ac v hb).fKind)=3))&&(!(ov (Bl ((Ac v hb).fInt)))))),rB (ha.fLong||(decide (200<(((Ac v hb).fStr).length:Int))))] 121,.blk b1 [rI .i64 (max ha.fDepth ((hd.length:Int)+1)),rI .i64 (IntKind.wrap .i64 (ha.fBytes+hg)),rB (ha.fOutside||((decide (((Ac v hb).fKind)=3))&&(!(ov (Bl ((Ac v hb).fInt)))))),rB (ha.fLong||(decide (200<(((Ac v hb).fStr).length:Int))))] 121,.row he 147 5 (List.map As hd)]) Aa)) ?_));refine oq (Aj Aa) ?_;exact C0
        refine Bi (A4 (Aq (Aq (AM (Aq (Aq (Cr ?_)))))));have g1:=DI g0 hx hy;refine AM (Aq (Hf ?_));obtain rfl:=AC g1;exact A6 (OS Oy (AX Aa) (Jg (i:=2) G7 DF Aa Aa Aa) (AX Aa)) (sS (sS (sS (sS sN)))) ⟨Aa,Aa⟩
       ·have g2:=AW hB hN;refine AA (Bi (Au (wm Aa (wv (Ai Cj Aa La Aa Aa) (wv (Ax (i:=0) Ld Aa Aa Aa) (wv (Bw Aa Aa) (wv (Ai Cj Aa B5 Aa Aa) (wv (Ax (i:=0) B9 Aa Aa Aa) (wv (Ai Cj Aa La Aa Aa) (wv (Ax (i:=0) Ld Aa Aa Aa) (wv (Bw Aa Aa) (wv (r:=Bx [rB (decide (((Ac v hb).fKind)=6)),rI .i64 ((Ac v hb).fN),rB (decide (((Ac v hb).fKind)=6)),rS ([]:A9),rB false]) (HX Aa Aa Aa Aa Aa Aa) (Cd (ys:=([(At.mk (decide (((Ac v hb).fKind)=6)) ((Ac v hb).fN) (decide (((Ac v hb).fKind)=6)) ([]:A9) false)]:List At)) (enc:=As) (css:=[[rB (decide (((Ac v hb).fKind)=6)),rI .i64 ((Ac v hb).fN),rB (decide (((Ac v hb).fKind)=6)),rS ([]:A9),rB false]]) (xs:=[.tmp 139]) EE Lb Tryz.zeroValue147 Aa Aa Aa ⟨Oq.agg ⟨Up.refl _,Up.refl _,Up.refl _,Up.refl _,Up.refl _,trivial⟩,trivial⟩ Aa EH Aa Aa Aa (λg3=>?_))))))))))))));obtain⟨g4,g5⟩:=AG g2;obtain⟨inf,hinf⟩:=QH;refine D0 (xs:=hd) (ys:=([(At.mk (decide (((Ac v hb).fKind)=6)) ((Ac v hb).fN) (decide (((Ac v hb).fKind)=6)) ([]:A9) false)]:List At)) (enc:=As) (i:=4) EE hinf.1 hinf.2.1 hinf.2.2.1 hinf.2.2.2 Aa Aa Aa Aa Aa (Ma.w (i:=0) Aa Aa) EH IA g4 Aa (λhO=>?_);exact wa Aa (A5 (BJ (AF (B0 (Bg (H2:=[.blk b2 [rI .i64 (max ha.fDepth ((hd.length:Int)+1)),rI .i64 (IntKind.wrap .i64 (ha.fBytes+hg)),rB (ha.fOutside||((decide (((Ac v hb).fKind)=3))&&(!(ov (Bl ((Ac v hb).fInt)))))),rB (ha.fLong||(decide (200<(((Ac v hb).fStr).length:Int))))] 121,.blk b1 [rI .i64 0,rI .i64 0,rB false,rB false] 121,.row hO 147 5 (List.map As (hd++([(At.mk (decide (((Ac v hb).fKind)=6)) ((Ac v hb).fN) (decide (((Ac v hb).fKind)=6)) ([]:A9) false)]:List At))),.row (.slice (some ⟨g3,0,none⟩) 1 1) 147 5 (List.map As ([(At.mk (decide (((Ac v hb).fKind)=6)) ((Ac v hb).fN) (decide (((Ac v hb).fKind)=6)) ([]:A9) false)]:List At)),.blk hf (Ap (Ac v hb)) 95]) ((Ad (i:=3) Aa).trans (Tz _ ((Ad (i:=3) Aa).trans (Tz _ (T2 _))))) (Az (AP ((hd++([(At.mk (decide (((Ac v hb).fKind)=6)) ((Ac v hb).fN) (decide (((Ac v hb).fKind)=6)) ([]:A9) false)]:List At),(A2.mk (max ha.fDepth ((hd.length:Int)+1)) (IntKind.wrap .i64 (ha.fBytes+hg)) (ha.fOutside||((decide (((Ac v hb).fKind)=3))&&(!(ov (Bl ((Ac v hb).fInt)))))) (ha.fLong||(decide (200<(((Ac v hb).fStr).length:Int)))))),hO) g5 (AN.c Aa (AN.c Aa (AN.c5 Aa Aa Aa Aa Aa AN.nil))) (sC (sC (sC (sS (sS sN))))))))))))
      ·have g6:=AW hA hL;refine AA (Bi (Au (wm Aa ?_)));obtain⟨hu,g7,hP⟩:=Bf g6;refine Ep (Hr:=[.blk hf (Ap (Ac v hb)) 95,.blk b2 [rI .i64 (max ha.fDepth ((hd.length:Int)+1)),rI .i64 (IntKind.wrap .i64 (ha.fBytes+hg)),rB (ha.fOutside||((decide (((Ac v hb).fKind)=3))&&(!(ov (Bl ((Ac v hb).fInt)))))),rB (ha.fLong||(decide (200<(((Ac v hb).fStr).length:Int))))] 121,.blk b1 [rI .i64 0,rI .i64 0,rB false,rB false] 121]) Tryz.call114 (N4 F he hd hu g7) Aa ((Ad (i:=3) Aa).trans (Tz _ (T2 _))) Aa ?_;rintro _ _ ⟨h0,rfl,rfl⟩;refine wa Aa (BI (wm Aa (wv (BN (ys:=hu) (enc:=As) (i:=0) EE Aa Aa) (wv (Bw Aa Aa) (A5 (A8 (b:=decide ((hu.length:Int)=0)) Aa (λhC=>?_) (λhC=>?_)))))))
       ·have g8:=AV hC hP;refine Ay ?_;obtain⟨g9,gA⟩:=AG g8;refine E3 (H1:=[.row h0 147 5 (List.map As hu),.blk hf (Ap (Ac v hb)) 95,.blk b2 [rI .i64 (max ha.fDepth ((hd.length:Int)+1)),rI .i64 (IntKind.wrap .i64 (ha.fBytes+hg)),rB (ha.fOutside||((decide (((Ac v hb).fKind)=3))&&(!(ov (Bl ((Ac v hb).fInt)))))),rB (ha.fLong||(decide (200<(((Ac v hb).fStr).length:Int))))] 121,.blk b1 [rI .i64 (max ha.fDepth ((hd.length:Int)+1)),rI .i64 (IntKind.wrap .i64 (ha.fBytes+hg)),rB (ha.fOutside||((decide (((Ac v hb).fKind)=3))&&(!(ov (Bl ((Ac v hb).fInt)))))),rB (ha.fLong||(decide (200<(((Ac v hb).fStr).length:Int))))] 121]) [3,5,7] [⟨[],rI .i64 hb,0⟩,⟨[0],rI .i64 (hb+1),0⟩,⟨[],Bx [rI .i64 (max ha.fDepth ((hd.length:Int)+1)),rI .i64 (IntKind.wrap .i64 (ha.fBytes+hg)),rB (ha.fOutside||((decide (((Ac v hb).fKind)=3))&&(!(ov (Bl ((Ac v hb).fInt)))))),rB (ha.fLong||(decide (200<(((Ac v hb).fStr).length:Int))))],1⟩,⟨[1],rI .i64 (hb+1),0⟩,⟨[2],rv undef,2⟩,⟨[],rB true,0⟩] (rle [(5,_),(2,[.row h0 147 5 (List.map As hu),.blk hf (Ap (Ac v hb)) 95,.blk b2 [rI .i64 (max ha.fDepth ((hd.length:Int)+1)),rI .i64 (IntKind.wrap .i64 (ha.fBytes+hg)),rB (ha.fOutside||((decide (((Ac v hb).fKind)=3))&&(!(ov (Bl ((Ac v hb).fInt)))))),rB (ha.fLong||(decide (200<(((Ac v hb).fStr).length:Int))))] 121,.blk b1 [rI .i64 (max ha.fDepth ((hd.length:Int)+1)),rI .i64 (IntKind.wrap .i64 (ha.fBytes+hg)),rB (ha.fOutside||((decide (((Ac v hb).fKind)=3))&&(!(ov (Bl ((Ac v hb).fInt)))))),rB (ha.fLong||(decide (200<(((Ac v hb).fStr).length:Int))))] 121])]) [2,4,3] ?_ ?_
        ·refine oq (Aw Aa) (oq (BL Aa Aa g9) (of (Bz (i:=2) G7 DF Aa Aa Aa Aa) (oq (Aj Aa) (H0 Aa (K4 (CL (i:=3) DF Aa Aa Aa (CF.c Aa) Aa Aa (cs':=[rI .i64 (max ha.fDepth ((hd.length:Int)+1)),rI .i64 (IntKind.wrap .i64 (ha.fBytes+hg)),rB (ha.fOutside||((decide (((Ac v hb).fKind)=3))&&(!(ov (Bl ((Ac v hb).fInt)))))),rB (ha.fLong||(decide (200<(((Ac v hb).fStr).length:Int))))]) Aa (H':=[.row h0 147 5 (List.map As hu),.blk hf (Ap (Ac v hb)) 95,.blk b2 [rI .i64 (max ha.fDepth ((hd.length:Int)+1)),rI .i64 (IntKind.wrap .i64 (ha.fBytes+hg)),rB (ha.fOutside||((decide (((Ac v hb).fKind)=3))&&(!(ov (Bl ((Ac v hb).fInt)))))),rB (ha.fLong||(decide (200<(((Ac v hb).fStr).length:Int))))] 121,.blk b1 [rI .i64 (max ha.fDepth ((hd.length:Int)+1)),rI .i64 (IntKind.wrap .i64 (ha.fBytes+hg)),rB (ha.fOutside||((decide (((Ac v hb).fKind)=3))&&(!(ov (Bl ((Ac v hb).fInt)))))),rB (ha.fLong||(decide (200<(((Ac v hb).fStr).length:Int))))] 121]) Aa)) ?_))));refine oq (Aj Aa) ?_;exact C0
        refine Bi (A4 (AM (Aq (Aq (Cr ?_)))));have gB:=DI gA hx hy;refine AM (Aq (Hf ?_));obtain rfl:=AC gB;exact A6 (OS Oy (AX Aa) (Jg (i:=3) G7 DF Aa Aa Aa) (AX Aa)) (sS (sS (sS (sS sN)))) ⟨Aa,Aa⟩
       ·have gC:=AW hC hP;exact AA (AK (Bg (H2:=[.blk b2 [rI .i64 (max ha.fDepth ((hd.length:Int)+1)),rI .i64 (IntKind.wrap .i64 (ha.fBytes+hg)),rB (ha.fOutside||((decide (((Ac v hb).fKind)=3))&&(!(ov (Bl ((Ac v hb).fInt)))))),rB (ha.fLong||(decide (200<(((Ac v hb).fStr).length:Int))))] 121,.blk b1 [rI .i64 0,rI .i64 0,rB false,rB false] 121,.row h0 147 5 (List.map As hu),.blk hf (Ap (Ac v hb)) 95]) ((Ad (i:=2) Aa).trans (Tz _ ((Ad (i:=2) Aa).trans (Tz _ (T2 _))))) (Az (AP ((hu,(A2.mk (max ha.fDepth ((hd.length:Int)+1)) (IntKind.wrap .i64 (ha.fBytes+hg)) (ha.fOutside||((decide (((Ac v hb).fKind)=3))&&(!(ov (Bl ((Ac v hb).fInt)))))) (ha.fLong||(decide (200<(((Ac v hb).fStr).length:Int)))))),h0) gC (AN.c Aa (AN.c Aa (AN.c5 Aa Aa Aa Aa Aa AN.nil))) (sC (sC (sC (sS sN))))))))
   ·rintro⟨⟨hD,hE⟩,hG⟩ h2;refine Bk (l':=[(0,BO 4 (List.map Ap v)),(3,rv (.pointer (some ⟨b1,0,none⟩))),(5,rv (.pointer (some ⟨b2,0,none⟩))),(6,rv hG),(11,BO 4 (List.map Ap v)),(12,rI .i64 (v.length:Int)),(13,rI .i64 hb)]) (H':=[.blk b2 (AI hE) 121,.blk b1 [rI .i64 0,rI .i64 0,rB false,rB false] 121,.row hG 147 5 (List.map As hD)]) Aa Aa ?_;replace h2:CH hb hD hE=some h4:=h2;unfold CH at h2;refine An ?_;obtain⟨gD,gE⟩:=AG h2;refine wv (BL Aa Aa gD) (wm Aa (Ao ?_));have gF:=CI gE hx;exact Az (AP (hT,(hD,hb+1,hE),hG) ⟨gF,Ue _⟩ (AN.c Aa (AN.c Aa (AN.c5 Aa Aa Aa Aa Aa AN.nil))) (sC (sC (sC sN))))
  ·have gG:=AW h5 hz;refine BJ (AF ?_);have gH:=DV gG hx hy;exact AF (B2 (AP (ha,()) gH (AN.c Aa (AN.c Aa AN.nil)) (sC (sC (sS sN)))))
 ·rintro⟨hq,⟨⟩⟩ h3;refine Ec (l':=[(3,rv (.pointer (some ⟨b1,0,none⟩))),(5,rv (.pointer (some ⟨b2,0,none⟩)))]) (H':=[.blk b2 (AI hq) 121,.blk b1 [rI .i64 0,rI .i64 0,rB false,rB false] 121]) Aa Aa ?_;replace h3:Hi hq=some r:=h3;unfold Hi at h3;refine B0 (Bi (Ay (E3 (H1:=[.blk b2 (AI hq) 121,.blk b1 (AI hq) 121]) [3,5] [⟨[],Bx (AI hq),1⟩,⟨[],rI .i64 0,0⟩,⟨[0],rv undef,2⟩,⟨[],rB false,0⟩] (rle [(3,_),(2,[.blk b2 (AI hq) 121,.blk b1 (AI hq) 121])]) [2,4,3] ?_ ?_)))
  ·refine of (Bz (i:=0) G7 DF Aa Aa Aa Aa) (oq (Aj Aa) (H0 Aa (K4 (CL (i:=1) DF Aa Aa Aa (CF.c Aa) Aa Aa (cs':=[rI .i64 hq.fDepth,rI .i64 hq.fBytes,rB hq.fOutside,rB hq.fLong]) Aa (H':=[.blk b2 (AI hq) 121,.blk b1 (AI hq) 121]) Aa)) ?_));refine oq (Aj Aa) ?_;exact C0
  refine Bi (A4 (Hf ?_));obtain rfl:=AC h3;exact A6 (OS Oy (AX Aa) (Jg (i:=1) G7 DF Aa Aa Aa) (AX Aa)) (sS (sS sN)) ⟨Aa,Aa⟩
theorem O9 (F:Nat)(v:(List Am))(r:Int)(h:Ja F v=some r):Fn Tryz.prog GE 76 [BO 4 (List.map Ap v)] [] (λR H=>R=rI .i64 r∧H=[]):=by
 refine enter (n:=42) Tryz.func76 Aa Tryz.ntmps76 Aa (λw Z=>?_);refine Bk (l':=[(0,BO 4 (List.map Ap v))]) (H':=[]) Aa Aa ?_;unfold Ja at h;refine Au (wv (r:=rI .i64 0) (Aj Aa) (BI (wm Aa ?_)));obtain⟨r1,e3,h2⟩:=Bf h;refine In Tryz.call88 (Qg F v r1 e3) Aa (wm Aa (wv (AD Aa Aa) (wv (AD Aa Aa) (wv (AD Aa Aa) (Ee (cs:=[rI .i64 0,rI .i64 0,rB false,rB false]) Tryz.zeroValue121 Aa Aa (λb4=>?_))))));refine wa Aa (CS (i:=0) DF Aa Aa Aa (CF.c Aa) Aa Aa (cs':=[rI .i64 r1.2.1.fDepth,rI .i64 r1.2.1.fBytes,rB r1.2.1.fOutside,rB r1.2.1.fLong]) Aa (H':=[.blk b4 (AI r1.2.1) 121]) Aa (wa Aa (A5 (Ay (Ba (A7 [(0,BO 4 (List.map Ap v)),(4,rv (.pointer (some ⟨b4,0,none⟩))),(12,rB ((!r1.2.2)||(!decide (r1.1=(v.length:Int)))))] [.blk b4 (AI r1.2.1) 121] ?_ ?_))))))
 ·refine An (wm Aa (wv (C8 Aa) (wm Aa (AE (!r1.2.2) (λc5=>?_) (λc5=>?_)))))
  ·refine wf c5 (wf c5 (wf c5 (wf c5 (wv (r:=rB true) (Ar (b:=!r1.2.2) Aa c5 Aa) (wa Aa (Ao ?_))))));exact BA c5
  ·refine wo c5 (wm Aa (wo c5 (wm Aa (wo c5 (wv (C9 (ys:=v) (enc:=Ap) I2 Aa) (wo c5 (wv (EY Aa Aa) (EK Aa c5 Aa (wa Aa (Ao ?_))))))))));exact BA c5
 refine A8 (b:=((!r1.2.2)||(!decide (r1.1=(v.length:Int))))) Aa (λc6=>?_) (λc6=>?_)
 ·have h7:=AV c6 h2;refine Au (wv (r:=rI .i64 1) (Aj Aa) (A5 (A4 (AM (Aq ?_)))));obtain rfl:=AC h7;exact A6 (BZ PY (AX Aa)) (sS sN) ⟨Aa,Aa⟩
 ·have h8:=AW c6 h2;refine Au (wv (Ai CR Aa Gn Aa Aa) (wv (Ax (i:=0) PQ Aa Aa Aa) (wa Aa (A5 (A8 (b:=r1.2.1.fOutside) Aa (λc9=>?_) (λc9=>?_))))))
  ·have hg:=AV c9 h8;refine Au (wv (r:=rI .i64 2) (Aj Aa) (A5 (A4 (AM (Aq ?_)))));obtain rfl:=AC hg;exact A6 (BZ PY (AX Aa)) (sS sN) ⟨Aa,Aa⟩
  ·have hf:=AW c9 h8;refine A7 [(24,rB (r1.2.1.fLong||((decide (200<(v.length:Int)))||((decide (8<r1.2.1.fDepth))||(decide (4000<r1.2.1.fBytes))))))] [] ?_ ?_
   ·refine An (wv (Ai CR Aa Gn Aa Aa) (wv (Ax (i:=0) PQ Aa Aa Aa) (wm Aa (AE (r1.2.1.fLong) (λha=>?_) (λha=>?_)))))
    ·refine wf ha (wf ha (wf ha (wv (r:=rB true) (Ar (b:=r1.2.1.fLong) Aa ha Aa) (wm Aa (Ak (b:=true) Aa Aa Aa Aa (Ak (b:=true) Aa Aa Aa Aa (Ak (b:=true) Aa Aa Aa Aa (wv (r:=rB true) (Ar (b:=true) Aa Aa Aa) (wm Aa (Ak (b:=true) Aa Aa Aa Aa (Ak (b:=true) Aa Aa Aa Aa (Ak (b:=true) Aa Aa Aa Aa (wv (r:=rB true) (Ar (b:=true) Aa Aa Aa) (wa Aa (Ao ?_)))))))))))))));exact BA ha
    ·refine wo ha (wm Aa (wo ha (wv (C9 (ys:=v) (enc:=Ap) I2 Aa) (wo ha (wv (Ct Aa Aa) (EK Aa ha Aa (wm Aa (AE (decide (200<(v.length:Int))) (λhb=>?_) (λhb=>?_)))))))))
     ·refine wf hb (wf hb (wf hb (wv (r:=rB true) (Ar (b:=decide (200<(v.length:Int))) Aa hb Aa) (wm Aa (Ak (b:=true) Aa Aa Aa Aa (Ak (b:=true) Aa Aa Aa Aa (Ak (b:=true) Aa Aa Aa Aa (wv (r:=rB true) (Ar (b:=true) Aa Aa Aa) (wa Aa (Ao ?_))))))))));exact BA (And.intro ha hb)
     ·refine wo hb (wv (Ai CR Aa B5 Aa Aa) (wo hb (wv (Ax (i:=0) B9 Aa Aa Aa) (wo hb (wv (Ct Aa Aa) (EK Aa hb Aa (wm Aa (AE (decide (8<r1.2.1.fDepth)) (λhd=>?_) (λhd=>?_)))))))))
      ·refine wf hd (wf hd (wf hd (wv (r:=rB true) (Ar (b:=decide (8<r1.2.1.fDepth)) Aa hd Aa) (wa Aa (Ao ?_)))));exact BA (And.intro ha (And.intro hb hd))
      ·refine wo hd (wv (Ai CR Aa B5 Aa Aa) (wo hd (wv (Ax (i:=0) B9 Aa Aa Aa) (wo hd (wv (Ct Aa Aa) (EK Aa hd Aa (wa Aa (Ao ?_))))))));exact BA (And.intro ha (And.intro hb hd))
   refine A8 (b:=(r1.2.1.fLong||((decide (200<(v.length:Int)))||((decide (8<r1.2.1.fDepth))||(decide (4000<r1.2.1.fBytes)))))) Aa (λhe=>?_) (λhe=>?_)
   ·have hh:=AV he hf;refine Au (wv (r:=rI .i64 3) (Aj Aa) (A5 (A4 (AM (Aq ?_)))));obtain rfl:=AC hh;exact A6 (BZ PY (AX Aa)) sN ⟨Aa,Aa⟩
   ·have hi:=AW he hf;refine AA (AK (Bi (Au (wv (r:=rI .i64 0) (Aj Aa) (A5 (A4 ?_))))));obtain rfl:=AC hi;exact A6 (BZ PY (AX Aa)) sN ⟨Aa,Aa⟩
end Go.Proofs.YthbbedliepkakaaGreatDoor.Q
namespace Go.Proofs.YthbbedliepkakaaGreatDoor
open Go
set_option linter.unusedVariables false
end Go.Proofs.YthbbedliepkakaaGreatDoor
namespace Go.Proofs.YthbbedliepkakaaGreatDoor.Q
open Go Go.RowKit
set_option linter.unusedVariables false
set_option linter.unusedSimpArgs false
set_option maxRecDepth 100000
set_option maxHeartbeats 4000000
end Go.Proofs.YthbbedliepkakaaGreatDoor.Q
namespace Go.Proofs.YthbbedliepkakaaGreatDoor
open Go
set_option linter.unusedVariables false
end Go.Proofs.YthbbedliepkakaaGreatDoor
namespace Go.Proofs.YthbbedliepkakaaGreatDoor.Q
open Go Go.RowKit
set_option linter.unusedVariables false
set_option linter.unusedSimpArgs false
set_option maxRecDepth 100000
set_option maxHeartbeats 4000000
end Go.Proofs.YthbbedliepkakaaGreatDoor.Q
namespace Go.Proofs.YthbbedliepkakaaGreatDoor
open Go
set_option linter.unusedVariables false
end Go.Proofs.YthbbedliepkakaaGreatDoor
namespace Go.Proofs.YthbbedliepkakaaGreatDoor.Q
open Go Go.RowKit
set_option linter.unusedVariables false
set_option linter.unusedSimpArgs false
set_option maxRecDepth 100000
set_option maxHeartbeats 4000000
end Go.Proofs.YthbbedliepkakaaGreatDoor.Q
namespace Go.Proofs.YthbbedliepkakaaGreatDoor
open Go
set_option linter.unusedVariables false
end Go.Proofs.YthbbedliepkakaaGreatDoor
namespace Go.Proofs.YthbbedliepkakaaGreatDoor.Q
open Go Go.RowKit
set_option linter.unusedVariables false
set_option linter.unusedSimpArgs false
set_option maxRecDepth 100000
set_option maxHeartbeats 4000000
end Go.Proofs.YthbbedliepkakaaGreatDoor.Q
namespace Go.Proofs.YthbbedliepkakaaGreatDoor
open Go
set_option linter.unusedVariables false
set_option linter.unusedSimpArgs false
section
variable {T S : Type}
def BC:List (A9×T)→A9→Option T
 | [],_=>none
 | p::r,k=>bif decide (p.1=k) then some p.2 else BC r k
def Cb (xs:List (A9×T))(k:A9)(z:T):T:=(BC xs k).getD z
def Cf (xs:List (A9×T))(k:A9):Bool:=(BC xs k).isSome
def mins (k:A9)(v:T):List (A9×T)→List (A9×T)
 | []=>[(k,v)]
 | p::r=>bif BD k p.1 then(k,v)::p::r else p::mins k v r
def mput (xs:List (A9×T))(k:A9)(v:T):List (A9×T):=xs.map λp=>bif decide (p.1=k) then(k,v) else p
def mset (xs:List (A9×T))(k:A9)(v:T):List (A9×T):=bif Cf xs k then mput xs k v else mins k v xs
def mdel (xs:List (A9×T))(k:A9):List (A9×T):=xs.filter λp=>!decide (p.1=k)
def A3 (f:T→S)(xs:List (A9×T)):List (A9×S):=xs.map λp=>(p.1,f p.2)
theorem H6 (f:T→S):∀(xs:List (A9×T)) (k:A9),BC (A3 f xs) k=(BC xs k).map f
 | [],k=>rfl
 | p::r,k=>by
  show(bif decide (p.1=k) then some (f p.2) else BC (A3 f r) k)=_;rw[BC,H6 f r k]
  cases decide (p.1=k)<;>rfl
theorem Pp (f:T→S)(xs:List (A9×T))(k:A9):Cf (A3 f xs) k=Cf xs k:=by
 unfold Cf;rw[H6];cases BC xs k<;>rfl
theorem L9 (f:T→S)(k:A9)(v:T):∀xs:List (A9×T),A3 f (mins k v xs)=mins k (f v) (A3 f xs)
 | []=>rfl
 | p::r=>by
  show A3 f (bif BD k p.1 then(k,v)::p::r else p::mins k v r)=(bif BD k p.1 then(k,f v)::(p.1,f p.2)::A3 f r else(p.1,f p.2)::mins k (f v) (A3 f r));rw[← L9 f k v r]
  cases BD k p.1<;>rfl
theorem Po (f:T→S)(xs:List (A9×T))(k:A9)(v:T):A3 f (mset xs k v)=mset (A3 f xs) k (f v):=by
 unfold mset;rw[Pp]
 cases Cf xs k with
 | false=>exact L9 f k v xs
 | true=>
  show A3 f (mput xs k v)=mput (A3 f xs) k (f v);unfold A3 mput;rw[Us,Us];refine List.map_congr_left λp _=>?_;show _=(bif decide (p.1=k) then(k,f v) else(p.1,f p.2));simp only[Function.comp]
  cases decide (p.1=k)<;>rfl
theorem Pq (f:T→S)(xs:List (A9×T))(k:A9):A3 f (mdel xs k)=mdel (A3 f xs) k:=by
 unfold A3 mdel;rw[List.filter_map];rfl
theorem Gb (f:T→S)(xs:List (A9×T)):(A3 f xs).length=xs.length:=by simp[A3]
theorem HY (k:A9)(v:T):∀xs:List (A9×T),(mins k v xs).Perm ((k,v)::xs)
 | []=>T2 _
 | p::r=>by
  rw[mins]
  cases BD k p.1 with
  | true=>exact T2 _
  | false=>exact((HY k v r).cons p).trans (List.Perm.swap _ _ _)
def DK (x:T):List T→List (List T)
 | []=>[[x]]
 | y::r=>(x::y::r)::(DK x r).map (y::·)
def GA:List T→List (List T)
 | []=>[[]]
 | x::r=>(GA r).flatMap (DK x)
theorem It (x:T):∀(a b:List T),a++x::b∈DK x (a++b)
 | [],[]=>by simp[DK]
 | [],y::b=>by simp[DK]
 | y::a,b=>by
  simp only[List.cons_append,DK,Uq,List.mem_map];exact .inr ⟨_,It x a b,rfl⟩
theorem JR:∀(xs ys:List T),ys.Perm xs→ys∈GA xs
 | [],ys,h=>by rw[h.eq_nil];simp[GA]
 | x::r,ys,h=>by
  have hx:x∈ys:=h.symm.subset (List.mem_cons_self ..);obtain⟨a,b,rfl⟩:=List.append_of_mem hx;have h2:(a++b).Perm r:=(List.perm_middle.symm.trans h).cons_inv;simp only[GA,List.mem_flatMap];exact⟨a++b,JR r _ h2,It x a b⟩
def K6 {R:Type}[DecidableEq R](xs:List T)(K:List T→Option R):Option R:=match K xs with
 | none=>none
 | some r=>bif (GA xs).all (λp=>decide (K p=some r)) then some r else none
theorem K5 {R:Type}[DecidableEq R]{xs:List T}{K:List T→Option R}{r:R}(h:K6 xs K=some r):∀p:List T,p.Perm xs→K p=some r:=λp hp=>by
 unfold K6 at h
 cases hk:K xs with
 | none=>rw[hk] at h;cases h
 | some q=>
  rw[hk] at h;simp only at h
  cases ha:(GA xs).all (λp=>decide (K p=some q)) with
  | false=>rw[ha] at h;cases h
  | true=>
   rw[ha] at h;cases h;exact Uk (List.all_eq_true.1 ha p (JR xs p hp))
theorem Ez (x:T):∀(xs ys:List T),ys∈DK x xs→ys.Perm (x::xs)
 | [],ys,h=>by simp[DK] at h;rw[h]
 | y::r,ys,h=>by
  simp only[DK,Uq,List.mem_map] at h;rcases h with rfl | ⟨z,hz,rfl⟩
  ·exact T2 _
  ·exact((Ez x r z hz).cons y).trans (List.Perm.swap _ _ _)
theorem Jl:∀(xs ys:List T),ys∈GA xs→ys.Perm xs
 | [],ys,h=>by simp[GA] at h;rw[h]
 | x::r,ys,h=>by
  simp only[GA,List.mem_flatMap] at h;obtain⟨z,hz,hy⟩:=h;exact(Ez x z ys hy).trans ((Jl r z hz).cons x)
theorem RF {R:Type}[DecidableEq R]{xs:List T}{K:List T→Option R}{r:R}(h:∀p:List T,p.Perm xs→K p=some r):K6 xs K=some r:=by
 unfold K6;rw[h xs (T2 _)];have:(GA xs).all (λp=>decide (K p=some r))=true:=List.all_eq_true.2 λp hp=>T4 (h p (Jl xs p hp));simp only[this];rfl
def JB {St O:Type}(body:T→St→Option (Stp St (Out O St))):List T→St→Option (Out O St)
 | [],s=>some (.go s)
 | x::r,s=>match body x s with
  | none=>none
  | some (.next s')=>JB body r s'
  | some (.out o)=>some o
def SL {St R:Type}(body:T→St→Option (Stp St (Out R St)))(ys:List T)(K:St→Option R)(r:R):Stp St (Out R St)→Prop
 | .next s'=>∀q:List T,q.Perm ys→BM (JB body q s') (Ca K)=some r
 | .out o=>Ca K o=some r
theorem Ng {St R:Type}{body:T→St→Option (Stp St (Out R St))}{ys ys':List T}{p:T}{s:St}{K:St→Option R}{r:R}(h:∀q:List T,q.Perm ys→BM (JB body q s) (Ca K)=some r)(hp:ys.Perm (p::ys')):∃t,body p s=some t∧SL body ys' K r t:=by
 have h1:∀q:List T,q.Perm ys'→BM (JB body (p::q) s) (Ca K)=some r:=λq hq=>h _ ((hq.cons p).trans hp.symm)
 cases hb:body p s with
 | none=>
  have:=h1 ys' (T2 _);rw[JB,hb] at this;cases this
 | some t=>
  refine⟨t,rfl,?_⟩
  cases t with
  | next s'=>
   intro q hq;have:=h1 q hq;rw[JB,hb] at this;exact this
  | out o=>
   have:=h1 ys' (T2 _);rw[JB,hb] at this;exact this
theorem IN {St R:Type}{body:T→St→Option (Stp St (Out R St))}{ys:List T}{s:St}{K:St→Option R}{r:R}(h:∀q:List T,q.Perm ys→BM (JB body q s) (Ca K)=some r)(hy:ys=[]):K s=some r:=by
 subst hy;exact h [] (T2 _)
theorem Da {St R:Type}{body:T→St→Option (Stp St (Out R St))}{ys:List T}{s':St}{K:St→Option R}{r:R}{t:Stp St (Out R St)}(h:some (Stp.next s')=some t)(ht:SL body ys K r t):∀q:List T,q.Perm ys→BM (JB body q s') (Ca K)=some r:=by cases h;exact ht
theorem Eh {ys ys':List T}{p:T}(h:ys.Perm (p::ys')):ys'.length<ys.length:=by rw[h.length_eq];exact Ue _
end
section
variable {T S : Type}
def NC (lt:T→T→Bool)(x:T):List T→List T
 | []=>[x]
 | y::r=>bif lt y x then y::NC lt x r else x::y::r
def G3 (lt:T→T→Bool):List T→List T
 | []=>[]
 | x::r=>NC lt x (G3 lt r)
theorem HQ (lt:T→T→Bool)(x:T):∀xs:List T,(NC lt x xs).Perm (x::xs)
 | []=>T2 _
 | y::r=>by
  rw[NC]
  cases lt y x with
  | true=>exact((HQ lt x r).cons y).trans (List.Perm.swap _ _ _)
  | false=>exact T2 _
theorem D7 (lt:T→T→Bool):∀xs:List T,(G3 lt xs).Perm xs
 | []=>T2 _
 | x::r=>(HQ lt x _).trans ((D7 lt r).cons x)
def Dg (lt:T→T→Bool):List T→Bool
 | []=>true
 | x::r=>r.all (λy=>lt x y||lt y x)&&Dg lt r
structure Rs (lt:T→T→Bool):Prop where
 irrefl:∀x,lt x x=false
 ntrans:∀x y z,lt x y=false→lt y z=false→lt x z=false
 asym:∀x y,lt x y=true→lt y x=false
theorem GQ {lt:T→T→Bool}:∀{xs:List T},Dg lt xs=true→xs.Pairwise λx y=>(lt x y||lt y x)=true
 | [],_=>List.Pairwise.nil
 | x::r,h=>by
  simp only[Dg,T6,TO] at h;exact List.pairwise_cons.2 ⟨λy hy=>h.1 y hy,GQ h.2⟩
theorem Jm {R:T→T→Prop}(hs:∀x y,R x y→R y x):∀{xs:List T},xs.Pairwise R→∀a b,a∈xs→b∈xs→a=b∨R a b
 | [],_,a,b,h,_=>by cases h
 | x::r,h,a,b,ha,hb=>by
  rw[List.pairwise_cons] at h;rcases List.mem_cons.1 ha with e | ha1
  ·rcases List.mem_cons.1 hb with e2 | hb1
   ·exact .inl (e.trans e2.symm)
   ·exact .inr (e▸h.1 b hb1)
  ·rcases List.mem_cons.1 hb with e2 | hb1
   ·exact .inr (hs _ _ (e2▸h.1 a ha1))
   ·exact Jm hs h.2 a b ha1 hb1
theorem Ip {lt:T→T→Bool}(L:Rs lt)(x:T):∀{xs:List T},(xs.Pairwise λx y=>lt y x=false)→(NC lt x xs).Pairwise λx y=>lt y x=false
 | [],_=>List.pairwise_singleton _ _
 | y::r,h=>by
  rw[List.pairwise_cons] at h;rw[NC]
  cases hy:lt y x with
  | true=>
   refine List.pairwise_cons.2 ⟨λz hz=>?_,Ip L x h.2⟩;rcases List.mem_cons.1 ((HQ lt x r).subset hz) with e | h1
   ·rw[e];exact L.asym _ _ hy
   ·exact h.1 z h1
  | false=>
   refine List.pairwise_cons.2 ⟨λz hz=>?_,List.pairwise_cons.2 h⟩;rcases List.mem_cons.1 hz with e | h1
   ·rw[e];exact hy
   ·exact L.ntrans _ _ _ (h.1 z h1) hy
theorem GP {lt:T→T→Bool}(L:Rs lt):∀xs:List T,(G3 lt xs).Pairwise λx y=>lt y x=false
 | []=>List.Pairwise.nil
 | x::r=>Ip L x (GP L r)
theorem OJ {lt:T→T→Bool}(L:Rs lt){xs ys:List T}(hd:Dg lt xs=true)(hp:ys.Perm xs)(hs:ys.Pairwise λx y=>lt y x=false):ys=G3 lt xs:=by
 refine List.Perm.eq_of_pairwise (le:=λx y=>lt y x=false) ?_ hs (GP L xs) (hp.trans (D7 lt xs).symm);intro a b ha hb h2 h3;have hb':b∈xs:=(D7 lt xs).subset hb;rcases Jm (R:=λx y=>(lt x y||lt y x)=true) (λx y h=>by rw[Bool.or_comm];exact h) (GQ hd) a b (hp.subset ha) hb' with h | h
 ·exact h
 ·rw[h2,h3] at h;cases h
theorem My {lt:T→T→Bool}{xs ys:List T}(hd:Dg lt xs=true)(hp:ys.Perm xs):Dg lt ys=true:=by
 have h1:=(hp.symm.pairwise_iff (R:=λx y=>(lt x y||lt y x)=true) (fun {x y} h=>by rw[Bool.or_comm];exact h)).1 (GQ hd);clear hd hp
 induction ys with
 | nil=>rfl
 | cons x r ih=>
  rw[List.pairwise_cons] at h1;simp only[Dg,T6,TO];exact⟨h1.1,ih h1.2⟩
theorem NB {lt:T→T→Bool}(L:Rs lt){xs ys:List T}(hd:Dg lt xs=true)(hp:ys.Perm xs):G3 lt ys=G3 lt xs:=OJ L hd ((D7 lt ys).trans hp) (GP L ys)
inductive All2 (R:T→S→Prop):List T→List S→Prop
 | nil:All2 R [] []
 | cons {x y xs ys}:R x y→All2 R xs ys→All2 R (x::xs) (y::ys)
theorem All2.length {R:T→S→Prop}{xs:List T}{ys:List S}(h:All2 R xs ys):xs.length=ys.length:=by
 induction h with
 | nil=>rfl
 | cons _ _ ih=>simp[ih]
theorem All2.perm {R:T→S→Prop}{ys zs:List S}(hp:ys.Perm zs):∀{xs:List T},All2 R xs ys→∃xs',xs'.Perm xs∧All2 R xs' zs:=by
 induction hp with
 | nil=>intro xs h;exact⟨xs,T2 _,h⟩
 | cons a _ ih=>
  intro xs h
  cases h with
  | cons h1 h2=>obtain⟨x',p,h3⟩:=ih h2;exact⟨_,p.cons _,.cons h1 h3⟩
 | swap a b l=>
  intro xs h
  cases h with
  | cons h1 h2=>cases h2 with
   | cons h3 h4=>exact⟨_,List.Perm.swap _ _ _,.cons h3 (.cons h1 h4)⟩
 | trans _ _ ih1 ih2=>
  intro xs h;obtain⟨x1,p1,h1⟩:=ih1 h;obtain⟨x2,p2,h2⟩:=ih2 h1;exact⟨x2,p2.trans p1,h2⟩
end
def C1 (n1 n2 p1 p2:Int):Bool:=decide (n1<n2)||(decide (n1=n2)&&decide (p1<p2))
theorem JT {n1 n2 p1 p2:Int}:C1 n1 n2 p1 p2=true↔n1<n2∨(n1=n2∧p1<p2):=by
 unfold C1;simp
theorem H8 {n1 n2 p1 p2:Int}:C1 n1 n2 p1 p2=false↔¬ n1<n2∧(n1=n2→¬ p1<p2):=by
 unfold C1;simp
theorem Nc {T:Type}(n p:T→Int):Rs λx y=>C1 (n x) (n y) (p x) (p y):=⟨λx=>H8.2 ⟨by omega,λ_=>by omega⟩,λx y z h1 h2=>by
 rw[H8] at *;exact⟨by omega,λe=>by omega⟩,λx y h=>by
 rw[JT] at h;rw[H8];exact⟨by omega,λe=>by omega⟩⟩
structure Av where
 fID:A9
 fTenant:A9
 fSource:A9
 fKey:A9
 fAt:Int
 fCause:A9
 fBody:(List Am)
 deriving DecidableEq,Inhabited
structure Ab where
 fEvent:Av
 fAt:Int
 fReceives:Int
 fHeld:Bool
 fPlace:Int
 deriving DecidableEq,Inhabited
def KK (ys:(List Am)):Option ((List Am)):=
 Bo (Js 40 (([]:List Am).length+ys.length))<|some (([]:List Am)++ys)
def Id (F:Nat)(e:Av):Option (Int):=
 B1 (((!(Eb e.fID))||((!(Eb e.fTenant))||((!(Eb e.fSource))||(bif !decide (e.fKey=([]:A9)) then((!(Eb e.fKey))||((!decide (e.fCause=([]:A9)))&&(!(Eb e.fCause)))) else((!decide (e.fCause=([]:A9)))&&(!(Eb e.fCause)))))))) (some 4) (B1 (((decide (e.fAt<0))||(decide (1073741824<e.fAt)))) (some 2) (BM (Ja F e.fBody) λha=>some ha))
end Go.Proofs.YthbbedliepkakaaGreatDoor
namespace Go.Proofs.YthbbedliepkakaaGreatDoor.Q
open Go Go.RowKit
set_option linter.unusedVariables false
set_option linter.unusedSimpArgs false
def KM (ops:List Oper)(N:Nat):Bool:=
 let cl:=Jx ops []
 (List.range ops.length).all (λi=>(De (ops.getD i default)).all (·<i))&&
 (List.range ops.length).all (λi=>i<N||(List.range i).all (λj=>(cl.getD i 0).testBit j))
section
variable {P : Program} {Q : Exit → Act → World → Prop}
theorem LS {listed:Array Bool}{len m:Nat}(hs:listed.size=len)(hm:m≤len)(h:∀j,j<len→(listed.getD j true=true↔j<m)):listed.toList.count false=len-m:=by
 have:listed.toList=List.replicate m true++List.replicate (len-m) false:=by
  apply List.ext_getElem
  ·simp[hs];omega
  ·intro j h1 h2;have hj:j<len:=by simpa[hs] using h1
   have:=h j hj;rw[Array.getD_eq_getD_getElem?,Array.getElem?_eq_getElem (by omega)] at this;simp only[TN] at this;rw[Array.getElem_toList,List.getElem_append]
   split
   ·rename_i h3
    simp at h3;simp[this.2 h3]
   ·rename_i h3
    simp at h3;simp only[List.getElem_replicate]
    cases hb:listed[j] with
    | false=>rfl
    | true=>have:=this.1 hb;omega
 rw[this];simp[List.count_append,List.count_replicate]
theorem Nj {listed:Array Bool}{j:Nat}(h:j<listed.size)(d d':Bool):listed.getD j d=listed.getD j d':=by
 simp[Array.getD_eq_getD_getElem?,Array.getElem?_eq_getElem h]
theorem Jy {ops:List Oper}{listed:Array Bool}{i:Nat}{o:Oper}(ho:ops[i]? =some o)(hb:∀e∈De o,listed.getD e true=true)
  (hcl:∀j o,ops[j]? =some o→listed.getD j true=true→∀e∈De o,listed.getD e true=true) (j:Nat) (h:((Jx ops []).getD i 0).testBit j=true):j=i∨listed.getD j true=true:=
 E1 ops (λk=>k=i∨listed.getD k true=true) ops [] (λt o' ht e he hF=>by
  rcases hF with hF | hF
  ·simp at hF;subst hF;rw[ho] at ht;simp at ht;subst ht;exact .inr (hb e he)
  ·exact .inr (hcl t o' ht (by simpa using hF) e he)) (λj i hb=>by simp at hb) i j h (.inl rfl)
theorem GT {ops:List Oper}{listed:Array Bool}{i:Nat}(hsz:listed.size=ops.length)(hlt:∀i,i<ops.length→∀e∈De (ops.getD i default),e<i)(h:i∈Region.ready .any ops.toArray listed) :
  listed.getD i true=false∧i<ops.length∧∃o,ops[i]? =some o∧∀e∈De o,listed.getD e true=true:=by
 obtain⟨h1,o,ho,h2⟩:=mem_ready.1 h;have ho':ops[i]? =some o:=by simpa using ho
 have hil:=(List.getElem?_eq_some_iff.1 ho').1;refine⟨h1,hil,o,ho',λe he=>?_⟩;have hei:=hlt i hil e (by rw[T5,ho'];exact he);simp only[De,List.mem_map,List.mem_filter] at he;obtain⟨x,⟨hx1,hx2⟩,rfl⟩:=he;have h3:=h2 x (by simpa using hx1) hx2;rw[Nj (by omega) true false];exact h3
theorem GF {ops:List Oper}{listed:Array Bool}(hsz:listed.size=ops.length)(hlt:∀i,i<ops.length→∀e∈De (ops.getD i default),e<i)(h:Region.ready .any ops.toArray listed=[]) :
  ∀j,j<ops.length→listed.getD j true=true:=by
 intro j
 induction j using Nat.strongRecOn with
 | ind j ih=>
  intro hj
  cases hb:listed.getD j true with
  | true=>rfl
  | false=>
   have:j∈Region.ready .any ops.toArray listed:=mem_ready.2 ⟨hb,ops[j],by simp[hj],λe he hbn=>by
    have hel:e.on<j:=hlt j hj e.on (by
     rw[T5,T3 hj];simp only[De,TN,List.mem_map,List.mem_filter];exact⟨e,⟨by simpa using he,hbn⟩,rfl⟩)
    rw[Nj (by omega) false true];exact ih e.on hel (by omega)⟩
   rw[h] at this;cases this
theorem IH {listed:Array Bool}{i j:Nat}(hi:i<listed.size):(listed.setIfInBounds i true).getD j true=true↔(j=i∨listed.getD j true=true):=by
 by_cases hj:i=j
 ·subst hj;simp[hi]
 ·rw[getD_set_ne true hj];exact⟨.inr,λh=>h.elim (λh=>absurd h.symm hj) id⟩
theorem ND {listed:Array Bool}{i fuel:Nat}(hi:i<listed.size)(hun:listed.getD i true=false)(hc:listed.toList.count false=fuel+1):(listed.setIfInBounds i true).toList.count false=fuel:=by
 have hfi:listed.toList[i]? =some false:=by
  rw[Array.getD_eq_getD_getElem?,Array.getElem?_eq_getElem hi] at hun;simp at hun;simp[hi,hun]
 rw[Array.toList_setIfInBounds];have h1:=List.count_set (a:=true) (b:=false) (l:=listed.toList) (i:=i) (by simpa using hi);have h2:listed.toList[i]'(by simpa using hi)=false:=by
  have:=List.getElem?_eq_some_iff.1 hfi;exact this.2
 rw[h1,h2,hc];rfl
theorem Il {ops:List Oper}{N:Nat}(hlt:∀i,i<ops.length→∀e∈De (ops.getD i default),e<i)
  (hch:∀i,N≤i→i<ops.length→∀j,j<i→((Jx ops []).getD i 0).testBit j=true):∀(k m:Nat) (listed:Array Bool) (a:Act) (w:World),m+k=ops.length→N≤m→listed.size=ops.length→
   (∀j,j<ops.length→(listed.getD j true=true↔j<m))→(∀j o,ops[j]? =some o→listed.getD j true=true→∀e∈De o,listed.getD e true=true)→wpList P ops.toArray Q (ops.drop m) a w→wpAny P .any ops.toArray Q k listed a w
 | 0,m,listed,a,w,hk,hN,hsz,hl,hcl,h=>by
  refine⟨?_,?_⟩
  ·cases hr:Region.ready .any ops.toArray listed with
   | nil=>rfl
   | cons i r=>
    obtain⟨h1,h2,_⟩:=GT hsz hlt (i:=i) (by rw[hr];simp);rw[(hl i h2).2 (by omega)] at h1;cases h1
  ·rw[List.drop_of_length_le (by omega)] at h;exact h
 | k+1,m,listed,a,w,hk,hN,hsz,hl,hcl,h=>by
  refine⟨λhr=>?_,λi hi=>?_⟩
  ·have:=(hl m (by omega)).1 (GF hsz hlt hr m (by omega));omega
  ·obtain⟨h1,h2,o,ho,hb⟩:=GT hsz hlt hi;have him:i=m:=by
    have hmi : ¬ i<m:=λh'=>by rw[(hl i h2).2 h'] at h1;cases h1
    by_cases e:i=m
    ·exact e
    ·rcases Jy ho hb hcl m (hch i (by omega) h2 m (by omega)) with h3 | h3
     ·exact h3.symm
     ·have:=(hl m (by omega)).1 h3;omega
   subst him;have hd:ops.drop i=o::ops.drop (i+1):=by
    rw[List.drop_eq_getElem_cons h2]
    congr 1
    exact(List.getElem?_eq_some_iff.1 ho).2
   rw[hd] at h;have ih:∀a' w',wpList P ops.toArray Q (ops.drop (i+1)) a' w'→wpAny P .any ops.toArray Q k (listed.setIfInBounds i true) a' w':=λa' w' h'=>by
    refine Il hlt hch k (i+1) _ a' w' (by omega) (by omega) (by simpa using hsz) (λj hj=>?_) (λj o' hj hlj e he=>?_) h'
    ·rw[IH (by omega),hl j hj];omega
    ·rw[IH (by omega)] at hlj ⊢;rcases hlj with rfl | hlj
     ·rw[ho] at hj;simp at hj;subst hj;exact .inr (hb e he)
     ·exact .inr (hcl j o' hj hlj e he)
   unfold wpOp;have hoA:ops.toArray[i]? =some o:=by simpa using ho
   simp only[hoA];simp only[wpList] at h
   split
   ·rename_i hw'
    rw[TP hw'] at h;exact h.imp (λh=>Oper.wp_mono ih h) (λh=>h)
   ·rename_i hw'
    rw[TE hw'] at h;exact ih _ _ h
theorem O2 {id:Nat}{ops:List Oper}{N:Nat}(hm:P.follows .mixedOrders=true)(hB:KM ops N=true)(hN:N≤ops.length)(I:(Nat→Bool)→Act→World→Prop)
  (hext:∀S S' a w,(∀j,j<N→S j=S' j)→I S a w→I S' a w) {a:Act} {w:World} (h0:I (λ_=>false) a { w with drawn:=w.drawn+1 })
  (step:∀S i o a w,i<N→S i=false→ops[i]? =some o→(∀e∈De o,e<i∧S e=true)→I S a w→∀K:Act→World→Prop,(∀a' w',I (λj=>j ==i||S j) a' w'→K a' w')→
   (Region.wanted o (yielded ops.toArray a.tmps)=true→o.wp P a w K Q)∧(Region.wanted o (yielded ops.toArray a.tmps)=false→K (a.put o.dst undef) w))
  (fin:∀a w,I (λ_=>true) a w→wpList P ops.toArray Q (ops.drop N) a w):(Code.region id ops.toArray true).wp P Q a w:=by
 simp only[KM,T6,TO,List.mem_range,T1,TS] at hB;obtain⟨hlt,hch0⟩:=hB;have hch:∀i,N≤i→i<ops.length→∀j,j<i→((Jx ops []).getD i 0).testBit j=true:=λi h1 h2 j hj=>by
  rcases hch0 i h2 with h3 | h3
  ·omega
  ·exact h3 j hj
 refine wp_region_any hm ?_;have main:∀(fuel:Nat) (listed:Array Bool) (a:Act) (w:World),listed.size=ops.length→listed.toList.count false=fuel→I (λj=>listed.getD j true) a w→
   (∀j o,ops[j]? =some o→listed.getD j true=true→∀e∈De o,listed.getD e true=true)→(∀j,N≤j→j<ops.length→listed.getD j true=false)→wpAny P .any ops.toArray Q fuel listed a w:=by
  intro fuel;have allin:∀(fuel:Nat) (listed:Array Bool) (a:Act) (w:World),listed.size=ops.length→listed.toList.count false=fuel→I (λj=>listed.getD j true) a w→
   (∀j o,ops[j]? =some o→listed.getD j true=true→∀e∈De o,listed.getD e true=true)→(∀j,N≤j→j<ops.length→listed.getD j true=false)→(∀j,j<N→listed.getD j true=true)→wpAny P .any ops.toArray Q fuel listed a w:=by
   intro fuel listed a w hsz hc hI hcl hlast hall;have hl:∀j,j<ops.length→(listed.getD j true=true↔j<N):=λj hj=>by
    constructor
    ·intro h
     by_cases hjN:j<N
     ·exact hjN
     ·rw[hlast j (by omega) hj] at h;cases h
    ·exact hall j
   have:=LS hsz hN hl;refine Il hlt hch fuel N listed a w (by omega) (TH _) hsz hl hcl (fin a w (hext _ _ a w (λj hj=>hall j hj) hI))
  induction fuel with
  | zero=>
   intro listed a w hsz hc hI hcl hlast;refine allin 0 listed a w hsz hc hI hcl hlast (λj hj=>?_)
   cases hb:listed.getD j true with
   | true=>rfl
   | false=>
    have:false∈listed.toList:=by
     rw[Array.getD_eq_getD_getElem?,Array.getElem?_eq_getElem (by omega)] at hb;simp at hb;rw[← hb];simp
    have:=List.count_pos_iff.2 this;omega
  | succ fuel ih=>
   intro listed a w hsz hc hI hcl hlast
   by_cases hall:∀j,j<N→listed.getD j true=true
   ·exact allin (fuel+1) listed a w hsz hc hI hcl hlast hall
   ·refine⟨λhr=>absurd (λj hj=>GF hsz hlt hr j (by omega)) hall,λi hi=>?_⟩;obtain⟨h1,h2,o,ho,hb⟩:=GT hsz hlt hi;have hiN:i<N:=by
     by_cases h:i<N
     ·exact h
     ·refine absurd (λj hj=>?_) hall;rcases Jy ho hb hcl j (hch i (by omega) h2 j (by omega)) with h3 | h3
      ·omega
      ·exact h3
    have K':∀a' w',I (λj=>j ==i||listed.getD j true) a' w'→wpAny P .any ops.toArray Q fuel (listed.setIfInBounds i true) a' w':=λa' w' hI'=>by
     refine ih _ a' w' (by simpa using hsz) (ND (by omega) h1 hc) (hext _ _ a' w' (λj hj=>?_) hI') (λj o' hj hlj e he=>?_) (λj h3 h4=>?_)
     ·have:=IH (listed:=listed) (i:=i) (j:=j) (by omega)
      cases hq:(listed.setIfInBounds i true).getD j true with
      | true=>
       rw[hq] at this;rcases this.1 rfl with h | h
       ·simp[h]
       ·simp[h]
      | false=>
       rw[hq] at this;have h5 : ¬ (j=i∨listed.getD j true=true):=λh=>by have:=this.2 h;cases this
       cases hz:listed.getD j true with
       | true=>exact absurd (.inr hz) h5
       | false=>
        have:j≠i:=λh=>h5 (.inl h);simp[this]
     ·rw[IH (by omega)] at hlj ⊢;rcases hlj with rfl | hlj
      ·rw[ho] at hj;simp at hj;subst hj;exact .inr (hb e he)
      ·exact .inr (hcl j o' hj hlj e he)
     ·rw[getD_set_ne true (by omega)];exact hlast j h3 h4
    obtain⟨k1,k2⟩:=step _ i o a w hiN h1 ho (λe he=>⟨hlt i h2 e (by rw[T5,ho];exact he),hb e he⟩) hI _ K';unfold wpOp;have hoA:ops.toArray[i]? =some o:=by simpa using ho
    simp only[hoA]
    split
    ·rename_i hw';exact .inl (k1 hw')
    ·rename_i hw';exact k2 (by simpa using hw')
 have e0:∀j,j<ops.length→(Array.replicate ops.length false).getD j true=false:=λj hj=>by simp[hj]
 have hsz0:ops.toArray.size=ops.length:=by simp
 rw[hsz0];refine main ops.length (Array.replicate ops.length false) a _ (by simp) (by simp) (hext _ _ _ _ (λj hj=>(e0 j (by omega)).symm) h0) (λj o hj hl=>?_) (λj _ h2=>e0 j h2);rw[e0 j (List.getElem?_eq_some_iff.1 hj).1] at hl;cases hl
end
structure Sa where
 deps:List Nat
 r:Rp
 al:Option (List Rp×TypeId):=none
 late:Option (Nat×List Rp):=none
 sto:Option Nat:=none
def DA (sp:List Sa)(i:Nat):Sa:=sp.getD i { deps:=[],r:=rv undef }
def OK (sp:List Sa):List Sp:=sp.map λs=>⟨s.deps,s.r,0⟩
def HR (β:Nat→Nat)(s:Sa)(i:Nat):Rp:=match s.al with
 | none=>s.r
 | some _=>rv (.pointer (some ⟨β i,0,none⟩))
def If (S:Nat→Bool)(late:Option (Nat×List Rp))(cs:List Rp):List Rp:=match late with
 | none=>cs
 | some q=>if S q.1 then q.2 else cs
def DL (S:Nat→Bool)(β:Nat→Nat):List Sa→Nat→List Ent
 | [],_=>[]
 | s::r,t=>match s.al with
  | some p=>if S t then .blk (β t) (If S s.late p.1) p.2::DL S β r (t+1) else DL S β r (t+1)
  | none=>DL S β r (t+1)
def Od (β:Nat→Nat):List Sa→Nat→List Ent
 | [],_=>[]
 | s::r,t=>match s.al with
  | some p=>.blk (β t) (match s.late with | none=>p.1 | some q=>q.2) p.2::Od β r (t+1)
  | none=>Od β r (t+1)
def I0 (β:Nat→Nat):List Oper→List Sa→Nat→Fr→Fr
 | o::os,s::sp,i,l=>match o.dst with
  | some d=>(d,HR β s i)::I0 β os sp (i+1) l
  | none=>I0 β os sp (i+1) l
 | _,_,_,l=>l
theorem GX {S S':Nat→Bool}{late:Option (Nat×List Rp)}{cs:List Rp}(h:∀q,late=some q→S q.1=S' q.1):If S late cs=If S' late cs:=by
 unfold If
 cases late with
 | none=>rfl
 | some q=>simp only[];rw[h q rfl]
theorem Dd (S:Nat→Bool)(β:Nat→Nat)(s:Sa)(r:List Sa)(t:Nat):DL S β (s::r) t=match s.al with
  | some p=>if S t then .blk (β t) (If S s.late p.1) p.2::DL S β r (t+1) else DL S β r (t+1)
  | none=>DL S β r (t+1):=rfl
theorem DY {S S':Nat→Bool}{β β':Nat→Nat}:∀(r:List Sa) (t0:Nat),(∀(t:Nat) (s:Sa),r[t]? =some s→s.al≠none→S (t0+t)=S' (t0+t)∧(S (t0+t)=true→β (t0+t)=β' (t0+t)∧∀q,s.late=some q→S q.1=S' q.1))→DL S β r t0=DL S' β' r t0
 | [],_,_=>rfl
 | s::r,t0,h=>by
  have ih:=DY r (t0+1) (λt s hs hn=>by
   have:=h (t+1) s (by simpa using hs) hn;rw[show t0+1+t=t0+(t+1) from by omega];exact this)
  unfold DL;rw[ih]
  cases ha:s.al with
  | none=>rfl
  | some p=>
   obtain⟨h1,h2⟩:=h 0 s rfl (by rw[ha];exact nofun);simp only[Nat.add_zero] at h1 h2;simp only[];rw[← h1]
   split
   ·rename_i hS;rw[(h2 hS).1,GX (h2 hS).2]
   ·rfl
theorem LQ (β:Nat→Nat):∀(r:List Sa) (t0:Nat),DL (λ_=>true) β r t0=Od β r t0
 | [],_=>rfl
 | s::r,t0=>by
  unfold DL Od;rw[LQ β r (t0+1)]
  cases s.al with
  | none=>rfl
  | some p=>cases hl:s.late<;>simp[If,hl]
theorem JY (β:Nat→Nat):∀(r:List Sa) (t0:Nat),DL (λ_=>false) β r t0=[]
 | [],_=>rfl
 | s::r,t0=>by
  unfold DL;rw[JY β r (t0+1)]
  cases s.al<;>simp
theorem LP {S:Nat→Bool}{β:Nat→Nat}{i b:Nat}{p:List Rp×TypeId}:∀(r:List Sa) (t0 k:Nat) (s:Sa),i=t0+k→r[k]? =some s→s.al=some p→S i=false→(∀(t:Nat) (s:Sa) (q:Nat×List Rp),r[t]? =some s→s.al≠none→s.late=some q→q.1≠i)→(∀q,s.late=some q→S q.1=false∧q.1≠i)→
  (DL (λj=>j ==i||S j) (λj=>if j=i then b else β j) r t0).Perm (.blk b p.1 p.2::DL S β r t0)
 | [],_,_,_,_,h,_,_,_,_=>by simp at h
 | s'::r,t0,0,s,hi,h,ha,hS,hne,hl=>by
  simp at h hi;subst h;subst hi;have e:=DY (S:=λj=>j ==i||S j) (S':=S) (β:=λj=>if j=i then b else β j) (β':=β) r (i+1) (λt s hs hn=>by
   have:i+1+t≠i:=by omega
   refine⟨by simp[this],λ_=>⟨by simp[this],λq hq=>?_⟩⟩;have:=hne (t+1) s q (by simpa using hs) hn hq;simp[this])
  have ec:If (λj=>j ==i||S j) s'.late p.1=p.1:=by
   unfold If
   cases hq:s'.late with
   | none=>rfl
   | some q=>
    obtain⟨h1,h2⟩:=hl q hq;simp[h1,h2]
  unfold DL;rw[e,ha];simp only[hS,BEq.rfl,TW,Uo,ec];simp
 | s'::r,t0,k+1,s,hi,h,ha,hS,hne,hl=>by
  have ih:=LP (S:=S) (β:=β) (i:=i) (b:=b) (p:=p) r (t0+1) k s (by omega) (by simpa using h) ha hS (λt s q hs=>hne (t+1) s q (by simpa using hs)) hl;have hne0:t0≠i:=by omega
  have hne':(t0 ==i)=false:=by simpa using hne0
  unfold DL
  cases ha':s'.al with
  | none=>exact ih
  | some q=>
   simp only[hne',TF,TE hne0];rw[GX (S:=λj=>j ==i||S j) (S':=S) (λq hq=>by
    have:=hne 0 s' q rfl (by rw[ha'];exact nofun) hq;simp[this])]
   cases hS':S t0 with
   | true=>simpa using(Tz _ ih).trans (List.Perm.swap _ _ _)
   | false=>simpa using ih
theorem LO {S:Nat→Bool}{β:Nat→Nat}{i j:Nat}{p:List Rp×TypeId}{ncs:List Rp}:∀(r:List Sa) (t0 k:Nat) (s:Sa),j=t0+k→r[k]? =some s→s.al=some p→s.late=some (i,ncs)→S j=true→S i=false→(∀(t:Nat) (s:Sa) (q:Nat×List Rp),r[t]? =some s→s.al≠none→s.late=some q→t0+t≠j→q.1≠i)→(∀(t:Nat) (s:Sa),r[t]? =some s→s.al≠none→t0+t≠i)→
  ∃H',(DL S β r t0).Perm (.blk (β j) p.1 p.2::H')∧(DL (λj=>j ==i||S j) β r t0).Perm (.blk (β j) ncs p.2::H')
 | [],_,_,_,_,h,_,_,_,_,_,_=>by simp at h
 | s'::r,t0,0,s,hj,h,ha,hl,hSj,hSi,hne,hni=>by
  simp at h hj;subst h;subst hj;have e:=DY (S:=λx=>x ==i||S x) (S':=S) (β:=β) (β':=β) r (j+1) (λt s hs hn=>by
   have h1:=hni (t+1) s (by simpa using hs) hn;have h1':j+1+t≠i:=by omega
   refine⟨by simp[h1'],λ_=>⟨rfl,λq hq=>?_⟩⟩;have:=hne (t+1) s q (by simpa using hs) hn hq (by omega);simp[this])
  refine⟨DL S β r (j+1),?_,?_⟩
  ·rw[Dd];rw[ha];simp[hSj,If,hl,hSi]
  ·rw[Dd];rw[ha,e];simp[hSj,If,hl]
 | s'::r,t0,k+1,s,hj,h,ha,hl,hSj,hSi,hne,hni=>by
  obtain⟨H',h1,h2⟩:=LO (S:=S) (β:=β) (i:=i) (j:=j) (p:=p) (ncs:=ncs) r (t0+1) k s (by omega) (by simpa using h) ha hl hSj hSi (λt s q hs hn hq hx=>hne (t+1) s q (by simpa using hs) hn hq (by omega)) (λt s hs hn=>by
   have:=hni (t+1) s (by simpa using hs) hn;omega)
  cases ha':s'.al with
  | none=>exact⟨H',by rw[Dd,ha'];exact h1,by rw[Dd,ha'];exact h2⟩
  | some q=>
   have hi0:=hni 0 s' rfl (by rw[ha'];exact nofun);have hi0':(t0 ==i)=false:=by simpa using hi0
   have ec:If (λx=>x ==i||S x) s'.late q.1=If S s'.late q.1:=GX (λq hq=>by
    have:=hne 0 s' q rfl (by rw[ha'];exact nofun) hq (by omega);simp[this])
   cases hS':S t0 with
   | true=>
    refine⟨.blk (β t0) (If S s'.late q.1) q.2::H',?_,?_⟩
    ·rw[Dd];rw[ha'];simpa[hS'] using(Tz _ h1).trans (List.Perm.swap _ _ _)
    ·rw[Dd];rw[ha'];simp only[hi0',TF,hS',Uo,ec];exact(Tz _ h2).trans (List.Perm.swap _ _ _)
   | false=>
    refine⟨H',?_,?_⟩
    ·rw[Dd];rw[ha'];simpa[hS'] using h1
    ·rw[Dd];rw[ha'];simp only[hi0',TF,hS'];simpa using h2
def Tc (n:Nat)(ops:List Oper)(N:Nat)(keys:List Nat)(deps:List (List Nat))(als:List Bool)(lates stos:List (Option Nat)):Bool:=
 KM ops N&&decide (N≤ops.length)&&
 (List.range N).all (λi=>match BG ops i with
  | some d=>decide (d<n)&&!keys.contains d&&(List.range N).all (λj=>j ==i||BG ops j !=some d)
  | none=>true)&&
 (List.range N).all (λi=>(deps.getD i []).all (λj=>decide (j<N)&&(De (ops.getD i default)).contains j&&!als.getD j true))&&
 (List.range N).all (λi=>match stos.getD i none with
  | some j=>decide (j<N)&&(De (ops.getD i default)).contains j&&als.getD j false&&!als.getD i true
  | none=>true)&&
 (List.range N).all (λj=>match lates.getD j none with
  | some k=>decide (k<N)&&als.getD j false&&stos.getD k none ==some j
  | none=>true)
def So (P:Program)(n:Nat)(c:Cx)(opsA:Array Oper)(Q:Exit→Act→World→Prop)(l:Fr)(o:Oper)(p:List Rp×TypeId):Prop:=
 ∀H a w Z (K:Act→World→Prop),BU n l a Z→St c H Z w→(∀b w',St c (.blk b p.1 p.2::H) Z w'→K (a.put o.dst (.pointer (some ⟨b,0,none⟩))) w')→
  Region.wanted o (yielded opsA a.tmps)=true∧o.wp P a w K Q
def Sm (P:Program)(n:Nat)(c:Cx)(opsA:Array Oper)(Q:Exit→Act→World→Prop)(ops:List Oper)(sp:List Sa)(l0:Fr)(H:List Ent)(i:Nat)(o:Oper):Prop:=
 match (DA sp i).sto with
 | some j=>o.dst=none∧∃d p ncs,BG ops j=some d∧(DA sp j).al=some p∧(DA sp j).late=some (i,ncs)∧
   ∀b H,CE P n c opsA Q ((d,rv (.pointer (some ⟨b,0,none⟩)))::Bs ops (OK sp) (DA sp i).deps l0) (.blk b p.1 p.2::H) o (rv undef) (.blk b ncs p.2::H)
 | none=>match (DA sp i).al with
  | none=>∀E,CE P n c opsA Q (Bs ops (OK sp) (DA sp i).deps l0) (H++E) o (DA sp i).r (H++E)
  | some p=>So P n c opsA Q (Bs ops (OK sp) (DA sp i).deps l0) o p
def Ha (P:Program)(n:Nat)(c:Cx)(opsA:Array Oper)(Q:Exit→Act→World→Prop)(ops:List Oper)(sp:List Sa)(l0:Fr)(H:List Ent):Nat→List Oper→Prop
 | i,o::rest=>Sm P n c opsA Q ops sp l0 H i o∧Ha P n c opsA Q ops sp l0 H (i+1) rest
 | _,[]=>True
section
variable {P : Program} {n : Nat} {c : Cx} {opsA : Array Oper} {Q : Exit → Act → World → Prop} {l l0 : Fr} {H : List Ent} {sp : List Sa}
theorem Ha.at {ops:List Oper}:∀{k:Nat} {rest:List Oper},Ha P n c opsA Q ops sp l0 H k rest→∀(t:Nat) o,rest[t]? =some o→Sm P n c opsA Q ops sp l0 H (k+t) o
 | k,o::rest,⟨h1,h2⟩,t,o',ht=>by
  cases t with
  | zero=>simp at ht;subst ht;exact h1
  | succ t=>
   have:=Ha.at h2 t o' (by simpa using ht);rw[show k+(t+1)=k+1+t from by omega];exact this
 | _,[],_,t,o,h=>by simp at h
theorem KR {β:Nat→Nat}{a:Act}{Z:Fz}(h0:BU n l0 a Z):∀(os:List Oper) (ss:List Sa) (k:Nat),(∀(t:Nat) o s d,os[t]? =some o→ss[t]? =some s→o.dst=some d→∃v,a.tmps[d]? =some v∧(HR β s (k+t)).p Z v)→BU n (I0 β os ss k l0) a Z
 | [],_,_,_=>by unfold I0;exact h0
 | _::_,[],_,_=>by unfold I0;exact h0
 | o::os,s::ss,k,h=>by
  have ih:=KR h0 os ss (k+1) (λt o' s' d h1 h2 h3=>by
   have:=h (t+1) o' s' d (by simpa using h1) (by simpa using h2) h3;rw[show k+1+t=k+(t+1) from by omega];exact this)
  unfold I0
  cases hd:o.dst with
  | none=>exact ih
  | some d=>
   refine⟨ih.size,ih.defers,λi r hi=>?_⟩;rw[B4] at hi
   split at hi
   ·rename_i e;subst e;simp at hi;subst hi;exact h 0 o s d rfl rfl hd
   ·exact ih.tm i r hi
theorem Rz {id:Nat}{ops:List Oper}(N:Nat)(sp:List Sa)(hm:P.follows .mixedOrders=true)(hB:Tc n ops N (Dj l0) (sp.map (·.deps)) (sp.map (·.al.isSome)) (sp.map (·.late.map (·.1))) (sp.map (·.sto))=true)(hl0:Ol l0 l)(hsp:sp.length=N)
  (hob:Ha P n c ops.toArray Q ops sp l0 H 0 (ops.take N)) (h:∀β,WL P n c ops.toArray Q (ops.drop N) (I0 β (ops.take N) sp 0 l0) (H++Od β sp 0)):WC P n c (.region id ops.toArray true) Q l H:=by
 intro a w Z ha hw;simp only[Tc,T6,TO,List.mem_range,T1] at hB;obtain⟨⟨⟨⟨⟨b1,bN⟩,b2⟩,b3⟩,b4⟩,b5⟩:=hB;have hget:∀i,i<N→(ops.take N)[i]? =ops[i]?:=λi hi=>by rw[Ud,TP hi]
 have hsa:∀i,i<N→sp[i]? =some (DA sp i):=λi hi=>by
  simp[DA,T5,T3 (show i<sp.length by omega)]
 have hspq:∀i,i<N→(Cs (OK sp) i)=⟨(DA sp i).deps,(DA sp i).r,0⟩:=λi hi=>by
  simp[Cs,OK,T5,Uc,hsa i hi]
 have hals:∀j b,j<N→(sp.map (·.al.isSome)).getD j b=(DA sp j).al.isSome:=λj b hj=>by simp[T5,Uc,hsa j hj]
 have hstos:∀j,j<N→(sp.map (·.sto)).getD j none=(DA sp j).sto:=λj hj=>by simp[T5,Uc,hsa j hj]
 have hlates:∀j,j<N→(sp.map (·.late.map (·.1))).getD j none=(DA sp j).late.map (·.1):=λj hj=>by simp[T5,Uc,hsa j hj]
 have S1:∀i o j,i<N→ops[i]? =some o→(DA sp i).sto=some j→j<N∧j∈De o∧(DA sp j).al≠none∧(DA sp i).al=none:=λi o j hi ho hs=>by
  have h1:=b4 i hi;rw[hstos i hi,hs] at h1;simp only[T6,TJ,T1] at h1;obtain⟨⟨⟨h2,h3⟩,h4⟩,h5⟩:=h1;rw[hals j _ h2] at h4;rw[hals i _ hi] at h5;rw[T5,ho,TN,List.contains_iff_mem] at h3;exact⟨h2,h3,λe=>(by rw[e] at h4;cases h4),(by simpa using h5)⟩
 have L1:∀t q,t<N→(DA sp t).late=some q→q.1<N∧(DA sp q.1).sto=some t:=λt q ht hq=>by
  have h1:=b5 t ht;rw[hlates t ht,hq] at h1;simp only[Option.map_some,T6,T1,beq_iff_eq] at h1;obtain⟨⟨h2,h3⟩,h4⟩:=h1;rw[hstos _ h2] at h4;exact⟨h2,h4⟩
 have hops:∀j,j<N→∃o,ops[j]? =some o:=λj hj=>⟨ops[j]'(by omega),T3 (by omega)⟩
 have lt_of:∀(t:Nat) (s:Sa),sp[t]? =some s→t<N∧s=DA sp t:=λt s hs=>by
  have h1:t<N:=by have:=(List.getElem?_eq_some_iff.1 hs).1;omega
  refine⟨h1,?_⟩;rw[hsa t h1] at hs;simpa using hs.symm
 have hdst:∀i o d,i<N→ops[i]? =some o→o.dst=some d→(d<n∧d ∉ Dj l0)∧∀j,j<N→j≠i→BG ops j≠some d:=λi o d hi ho hd=>by
  have h3:=b2 i hi;have:BG ops i=some d:=by simp[BG,ho,hd]
  rw[this] at h3;simp only[T6,TJ,TO,List.mem_range,T1] at h3;refine⟨⟨h3.1.1,λhmem=>by rw[← List.contains_iff_mem] at hmem;rw[hmem] at h3;cases h3.1.2⟩,λj hj hne he=>?_⟩;have:=h3.2 j hj;simp[hne,he] at this
 refine O2 (N:=N) hm b1 bN (λS a w=>∃ (β:Nat→Nat) (Z:Fz),St c (H++DL S β sp 0) Z w∧BU n l0 a Z∧(∀j o d,j<N→S j=true→ops[j]? =some o→o.dst=some d→∃v,a.tmps[d]? =some v∧(HR β (DA sp j) j).p Z v)∧
   ∀k j,k<N→(DA sp k).sto=some j→S k=true→S j=true)
  (λS S' a w hS hI=>?_) ⟨λ_=>0,Z,?_,ha.subL hl0,λj o d _ hS=>(by cases hS),λk j _ _ hS=>(by cases hS)⟩ (λS i o a w hi hun ho hb hI K hK=>?_) (λa w hI=>?_)
 ·obtain⟨β,Z,h1,h2,h3,h4⟩:=hI;refine⟨β,Z,?_,h2,λj o d hj hS'=>h3 j o d hj (by rw[hS j hj];exact hS'),λk j hk hs hSk=>?_⟩
  ·rw[← DY (S:=S) (β:=β) (β':=β) sp 0 (λt s hs _=>by
    obtain⟨ht,rfl⟩:=lt_of t s hs;exact⟨hS _ (by omega),λ_=>⟨rfl,λq hq=>hS _ (L1 t q ht hq).1⟩⟩)]
   exact h1
  ·obtain⟨o,ho⟩:=hops k hk;rw[← hS j (S1 k o j hk ho hs).1];exact h4 k j hk hs (by rw[hS k hk];exact hSk)
 ·rw[JY,List.append_nil];exact hw.drawn _
 ·obtain⟨β,Z,h1,h2,h3,hx⟩:=hI;have hput:∀k u v,a.tmps[k]? =some u→o.dst≠some k→(a.put o.dst v).tmps[k]? =some u:=λk u v hk hne=>by
   cases hd:o.dst with
   | none=>simpa[Act.put] using hk
   | some d=>
    simp only[Act.put,Array.getElem?_setIfInBounds];rw[TE (λe=>hne (by rw[hd,e]))];exact hk
  have hagr:∀v Z',Fz.le Z Z'→BU n l0 (a.put o.dst v) Z':=λv Z' hz=>by
   refine⟨?_,?_,λk r hk=>?_⟩
   ·cases o.dst<;>simp[Act.put,h2.size]
   ·cases o.dst<;>simp[Act.put,h2.defers]
   ·obtain⟨u,hu,hpu⟩:=h2.tm k r hk;exact⟨u,hput k u v hu (λe=>((hdst i o k hi ho e).1).2 (H7 hk)),r.mono hz hpu⟩
  have hvals:∀(v:Value) (Z':Fz) (β':Nat→Nat),Fz.le Z Z'→(∀j,j≠i→β' j=β j)→(o.dst≠none→(HR β' (DA sp i) i).p Z' v)→∀j o' d,j<N→(j ==i||S j)=true→ops[j]? =some o'→o'.dst=some d→∃u,(a.put o.dst v).tmps[d]? =some u∧(HR β' (DA sp j) j).p Z' u:=by
   intro v Z' β' hz hβ hp j o' d hj hS' ho' hd
   by_cases hji:j=i
   ·subst hji;rw[ho] at ho';simp at ho';subst ho';refine⟨v,?_,hp (by simp[hd])⟩;have hdn:d<a.tmps.size:=by rw[h2.size];exact(hdst j o d hi ho hd).1.1
    simp[Act.put,hd,hdn]
   ·have hSj:S j=true:=by simpa[hji] using hS'
    obtain⟨u,hu,hpu⟩:=h3 j o' d hj hSj ho' hd;refine⟨u,hput d u v hu (λe=>(hdst i o d hi ho e).2 j hj hji (by simp[BG,ho',hd])),?_⟩;have:HR β' (DA sp j) j=HR β (DA sp j) j:=by unfold HR;rw[hβ j hji]
    rw[this];exact(HR β (DA sp j) j).mono hz hpu
  have hx':∀k j,k<N→(DA sp k).sto=some j→(k ==i||S k)=true→(j ==i||S j)=true:=λk j hk hs hSk=>by
   by_cases hki:k=i
   ·subst hki;have:=(hb j (S1 k o j hk ho hs).2.1).2;simp[this]
   ·have:S j=true:=hx k j hk hs (by simpa[hki] using hSk);simp[this]
  have hat:=hob.at i o (by rw[hget i hi];exact ho);rw[TV] at hat;unfold Sm at hat;have hag':BU n (Bs ops (OK sp) (DA sp i).deps l0) a Z:=HI h2 (λj hj d hd=>by
    have h4:=b3 i hi j (by simpa[T5,Uc,hsa i hi] using hj);simp only[T6,TJ,T1] at h4;obtain⟨⟨h5,h6⟩,h7⟩:=h4;rw[T5,ho,TN,List.contains_iff_mem] at h6;have hjal:(DA sp j).al=none:=by
     rw[hals j _ h5] at h7;simpa using h7
    obtain⟨o2,ho2⟩:=hops j h5;obtain⟨v,hv1,hv2⟩:=h3 j o2 d h5 (hb j h6).2 ho2 (by simpa[BG,ho2] using hd);refine⟨v,hv1,?_⟩;rw[hspq j h5];simpa[HR,hjal] using hv2)
  cases hst:(DA sp i).sto with
  | some j=>
   rw[hst] at hat;obtain⟨hod,d,p,ncs,hd,hal,hlate,hok⟩:=hat;obtain⟨hjN,hjb,_,hial⟩:=S1 i o j hi ho hst;have hSj:=(hb j hjb).2;obtain⟨H',p1,p2⟩:=LO (S:=S) (β:=β) (i:=i) (j:=j) (p:=p) (ncs:=ncs) sp 0 j (DA sp j) (by omega) (hsa j hjN) hal hlate hSj hun (λt s q hs _ hq hne he=>by
     obtain⟨ht,rfl⟩:=lt_of t s hs;have:=(L1 t q ht hq).2;rw[he,hst] at this;simp at this;omega) (λt s hs hn he=>by
     obtain⟨ht,rfl⟩:=lt_of t s hs;rw[TV] at he;subst he;exact hn hial)
   obtain⟨o2,ho2⟩:=hops j hjN;obtain⟨v,hv1,hv2⟩:=h3 j o2 d hjN hSj ho2 (by simpa[BG,ho2] using hd);have hag2:BU n ((d,rv (.pointer (some ⟨β j,0,none⟩)))::Bs ops (OK sp) (DA sp i).deps l0) a Z:=⟨hag'.size,hag'.defers,λk r hk=>by
    rw[B4] at hk
    split at hk
    ·rename_i e;subst e;simp at hk;subst hk
     exact⟨v,hv1,by simpa[HR,hal] using hv2⟩
    ·exact hag'.tm k r hk⟩
   refine hok (β j) (H++H') a w Z K hag2 (h1.perm ((List.Perm.append_left H p1).trans List.perm_middle)) (λv w' Z' hz _ hs'=>hK _ _ ⟨β,Z',?_,hagr v Z' hz,hvals v Z' β hz (λ_ _=>rfl) (λhne=>absurd hod hne),hx'⟩);exact hs'.perm (List.perm_middle.symm.trans (List.Perm.append_left H p2.symm))
  | none=>
   rw[hst] at hat;have latene:∀t q,t<N→(DA sp t).late=some q→q.1≠i:=λt q ht hq he=>by
    have:=(L1 t q ht hq).2;rw[he,hst] at this;cases this
   cases hal:(DA sp i).al with
   | none=>
    rw[hal] at hat;refine hat _ a w Z K hag' h1 (λv w' Z' hz hp hst'=>hK _ _ ⟨β,Z',?_,hagr v Z' hz,hvals v Z' β hz (λ_ _=>rfl) (λ_=>by unfold HR;rw[hal];exact hp),hx'⟩);rw[DY (S':=S) (β':=β) sp 0 (λt s hs hn=>by
     obtain⟨ht,rfl⟩:=lt_of t s hs;have:t≠i:=λe=>by subst e;exact hn hal
     refine⟨by simp[this],λ_=>⟨rfl,λq hq=>?_⟩⟩;have:=latene t q ht hq;simp[this])]
    exact hst'
   | some p=>
    rw[hal] at hat;have key:=λK' hK'=>hat (H++DL S β sp 0) a w Z K' hag' h1 hK';have h5:∀b w',St c (.blk b p.1 p.2::(H++DL S β sp 0)) Z w'→K (a.put o.dst (.pointer (some ⟨b,0,none⟩))) w':=λb w' hst'=>by
     refine hK _ _ ⟨λj=>if j=i then b else β j,Z,?_,hagr _ Z (Fz.le.refl _),hvals _ Z _ (Fz.le.refl _) (λj hj=>by simp[hj]) (λ_=>by simp[HR,hal,rv]),hx'⟩;have hp:=LP (S:=S) (β:=β) (i:=i) (b:=b) (p:=p) sp 0 i (DA sp i) (by omega) (hsa i hi) hal hun (λt s q hs _ hq=>by
      obtain⟨ht,rfl⟩:=lt_of t s hs;exact latene t q ht hq) (λq hq=>by
       refine⟨?_,latene i q hi hq⟩
       cases hS:S q.1 with
       | false=>rfl
       | true=>
        obtain⟨h6,h7⟩:=L1 i q hi hq;have:=hx q.1 i h6 h7 hS;rw[this] at hun;cases hun)
     exact hst'.perm ((List.perm_middle.symm).trans (List.Perm.append_left H hp.symm))
    refine⟨λ_=>(key K h5).2,λhw'=>?_⟩;rw[(key K h5).1] at hw';cases hw'
 ·obtain⟨β,Z,h1,h2,h3,_⟩:=hI;refine h β a w Z (KR h2 _ _ 0 (λt o s d ht hs hd=>?_)) (by rw[← LQ];exact h1);obtain⟨htN,rfl⟩:=lt_of t s hs;rw[TV];exact h3 t o d htN rfl (by rw[← hget t htN];exact ht) hd
end
theorem Sh {l:Fr}{P:Program}{n:Nat}{c:Cx}{opsA:Array Oper}{Q:Exit→Act→World→Prop}{d:Nat}{e:TypeId}{x:Operand}{ty:TypeId}{pos:String}{af:Array Edge}{cs:List Rp}(hx:ev l x=some (Bx cs)) :
  So P n c opsA Q l { dst:=some d,op:=.box e x,type:=ty,pos:=pos,after:=af,guard:=none } (cs,e):=λH a w Z K ha hw hK=>by
 refine⟨by simp[Region.wanted],?_⟩;obtain⟨us,e1,hu⟩:=ha.ev hx;unfold Oper.wp;rw[show(execOp a.eval { dst:=some d,op:=.box e x,type:=ty,pos:=pos,after:=af,guard:=none }).run P w = .ok (.value (.pointer (some ⟨w.heap.size,0,none⟩))) (w.alloc (.cells us.toArray e)) from by simp[execOp,e1,Instr.box,newVar,newRow,newObj,Sem.run,Value.cells]];exact hK _ _ (hw.alloc _ (e:=.blk w.heap.size cs e) ⟨us,by simpa using heap_alloc_new w _,hu⟩ rfl)
section
variable {P : Program} {n : Nat} {c : Cx} {opsA : Array Oper} {Q : Exit → Act → World → Prop} {l l0 : Fr} {H : List Ent} {sp : List Sa}
theorem ME {id:Nat}{ops:List Oper}(N:Nat)(ks0:List Nat)(sp:List Sa)(hob:Ha P n c ops.toArray Q ops sp l0 H 0 (ops.take N))(h:∀β,WL P n c ops.toArray Q (ops.drop N) (I0 β (ops.take N) sp 0 l0) (H++Od β sp 0))
  (h0:Kp ks0 l l0:=by repeat (first | exact JC | (apply Ia;rfl) | (apply I7;rfl))) (hm:P.follows .mixedOrders=true:=by kernel_rfl) (hB:Tc n ops N (Dj l0) (sp.map (·.deps)) (sp.map (·.al.isSome)) (sp.map (·.late.map (·.1))) (sp.map (·.sto))=true:=by kernel_rfl)
  (hsp:sp.length=N:=by rfl):WC P n c (.region id ops.toArray true) Q l H:=Rz N sp hm hB h0.one hsp hob h
theorem KV {all rest:List Oper}{d:Nat}{op:Op}{ty:TypeId}{pos:String}{af:Array Edge}{i:Nat}
  (hr:∀{H},Bh P n c (Bs all (OK sp) (DA sp i).deps l0) H { dst:=some d,op:=op,type:=ty,pos:=pos,after:=af,guard:=none } (DA sp i).r) (h:Ha P n c opsA Q all sp l0 H (i+1) rest) (ha:(DA sp i).al=none:=by rfl) (hs:(DA sp i).sto=none:=by rfl) :
  Ha P n c opsA Q all sp l0 H i ({ dst:=some d,op:=op,type:=ty,pos:=pos,after:=af,guard:=none }::rest):=by
 refine⟨?_,h⟩;unfold Sm;rw[hs,ha];exact λ_=>G4 hr
theorem Sr {all rest:List Oper}{d:Nat}{op:Op}{ty:TypeId}{pos:String}{af:Array Edge}{i:Nat}
  (hr:∀{E},Bh P n c (Bs all (OK sp) (DA sp i).deps l0) (H++E) { dst:=some d,op:=op,type:=ty,pos:=pos,after:=af,guard:=none } (DA sp i).r) (h:Ha P n c opsA Q all sp l0 H (i+1) rest) (ha:(DA sp i).al=none:=by rfl) (hs:(DA sp i).sto=none:=by rfl) :
  Ha P n c opsA Q all sp l0 H i ({ dst:=some d,op:=op,type:=ty,pos:=pos,after:=af,guard:=none }::rest):=by
 refine⟨?_,h⟩;unfold Sm;rw[hs,ha];exact λ_=>G4 hr
theorem Tv {all rest:List Oper}{o:Oper}{p:List Rp×TypeId}{i:Nat}(hr:So P n c opsA Q (Bs all (OK sp) (DA sp i).deps l0) o p)(h:Ha P n c opsA Q all sp l0 H (i+1) rest)(ha:(DA sp i).al=some p:=by rfl)(hs:(DA sp i).sto=none:=by rfl):Ha P n c opsA Q all sp l0 H i (o::rest):=by
 refine⟨?_,h⟩;unfold Sm;rw[hs,ha];exact hr
theorem Tp {all:List Oper}{i:Nat}:Ha P n c opsA Q all sp l0 H i []:=trivial
end
structure PV (ks:List Nat) (β:Nat→Nat) (os:List Oper) (sp:List Sa) (i:Nat) (l0 l1:Fr):Prop where
 go:Kp ks (I0 β os sp i l0) l1
section
variable {ks : List Nat} {β : Nat → Nat} {os : List Oper} {sp : List Sa} {i d : Nat} {l0 l1 : Fr} {ds : List Nat} {r : Rp} {p : List Rp × TypeId} {lt : Option (Nat × List Rp)} {so : Option Nat} {op : Op} {ty : TypeId} {pos : String} {af : Array Edge} {g : Option (Nat × Bool)}
theorem SA (h:ks.contains d=true)(t:PV ks β os sp (i+1) l0 l1):PV ks β ({ dst:=some d,op:=op,type:=ty,pos:=pos,after:=af,guard:=g }::os) ({ deps:=ds,r:=r,sto:=so }::sp) i l0 ((d,r)::l1):=⟨Ia h t.go⟩
theorem SD (h:ks.contains d=true)(t:PV ks β os sp (i+1) l0 l1):PV ks β ({ dst:=some d,op:=op,type:=ty,pos:=pos,after:=af,guard:=g }::os) ({ deps:=ds,r:=r,al:=some p,late:=lt,sto:=so }::sp) i l0 ((d,rv (.pointer (some ⟨β i,0,none⟩)))::l1):=⟨Ia h t.go⟩
theorem SC {s:Sa}(h:ks.contains d=false)(t:PV ks β os sp (i+1) l0 l1):PV ks β ({ dst:=some d,op:=op,type:=ty,pos:=pos,after:=af,guard:=g }::os) (s::sp) i l0 l1:=⟨I7 h t.go⟩
theorem SB {s:Sa}(t:PV ks β os sp (i+1) l0 l1):PV ks β ({ dst:=none,op:=op,type:=ty,pos:=pos,after:=af,guard:=g }::os) (s::sp) i l0 l1:=⟨t.go⟩
theorem SE (t:Kp ks l0 l1):PV ks β [] [] i l0 l1:=⟨t⟩
theorem Me {P:Program}{n:Nat}{c:Cx}{opsA:Array Oper}{Q:Exit→Act→World→Prop}{rest:List Oper}{H H1:List Ent}(ks:List Nat)(h:WL P n c opsA Q rest l1 H1)
  (hz:PV ks β os sp i l0 l1:=by repeat (first | (apply SA;rfl) | (apply SD;rfl) | (apply SC;rfl) | apply SB | apply SE | exact JC | (apply Ia;rfl) | (apply I7;rfl))) (hH:H=H1:=by rfl) :
  WL P n c opsA Q rest (I0 β os sp i l0) H:=λa w Z ha hw=>h a w Z (ha.subL hz.go.one) (hH▸hw)
end
section
variable {P : Program} {n : Nat} {c : Cx} {opsA : Array Oper} {Q : Exit → Act → World → Prop} {l l0 : Fr} {H : List Ent} {sp : List Sa}
theorem Td {all rest:List Oper}{o:Oper}{i:Nat}(hr:∀{E},CE P n c opsA Q (Bs all (OK sp) (DA sp i).deps l0) (H++E) o (DA sp i).r (H++E))(h:Ha P n c opsA Q all sp l0 H (i+1) rest)(ha:(DA sp i).al=none:=by rfl)(hs:(DA sp i).sto=none:=by rfl):Ha P n c opsA Q all sp l0 H i (o::rest):=by
 refine⟨?_,h⟩;unfold Sm;rw[hs,ha];exact λ_=>hr
end
def To (p:Bool→Prop):Rp:=⟨λ_ v=>∃b,v = .bool b∧p b,λ_ h=>h,true,λ_ Z v ⟨b,e,_⟩=>by rw[e];rfl⟩
section
variable {P : Program} {n : Nat} {c : Cx} {ops : Array Oper} {Q : Exit → Act → World → Prop} {rest : List Oper} {l : Fr} {H : List Ent} {d : Option Nat} {ty rty t e : TypeId} {pos : String} {af : Array Edge} {g : Option (Nat × Bool)} {r : Rp} {x : Operand} {cx cy : Code} {sz : Nat} {xs : List (List Rp)}
theorem O6 {o:Operand}{p:Bool→Prop}(ho:ev l o=some (To p))(h1:p true→WC P n c cx Q l H)(h2:p false→WC P n c cy Q l H):WC P n c (.cond o cx cy) Q l H:=λa w Z ha hw=>by
 obtain⟨b,e,hp⟩:=ha.ev ho;exact wp_cond_split e (λe=>h1 (e▸hp) a w Z ha hw) (λe=>h2 (e▸hp) a w Z ha hw)
theorem NO (ht:P.underlying t=some (.slice e))(h:ev l x=some (BO sz xs)):Bh P n c l H { dst:=d,op:=.binOp .eql t x (.const (.slice none 0 0)) rty,type:=ty,pos:=pos,after:=af,guard:=g } (To (λb=>b=true→xs=[])):=λa w Z ha hw=>by
 obtain⟨A,cap,e1,h1,h2,h3,h4⟩:=ha.ev h;refine⟨.bool A.isNone,⟨_,rfl,λhb=>?_⟩,?_⟩
 ·cases A with
  | some a=>cases hb
  | none=>
   have:=h3 rfl;exact List.length_eq_zero_iff.1 (by omega)
 ·have:=run_equal_slice_nil (P:=P) w t e A xs.length cap ht;have e2:a.eval (.const (.slice none 0 0)) = .slice none 0 0:=rfl;simp[execOp,e1,e2,binOp,this,eqGuard]
end
section
variable {P : Program} {n : Nat} {c : Cx} {l : Fr} {H : List Ent} {d : Option Nat} {ty rty t e : TypeId} {pos : String} {af : Array Edge} {g : Option (Nat × Bool)} {x : Operand} {sz : Nat}
end
theorem Dc (s:ByteArray):MapKept.IsKey .string (.string s):=by simp[MapKept.IsKey]
theorem GK.keys {Z:Fz}:∀{f:List (List UInt8×Rp)} {es:List MapEntry},GK Z f es→∀x∈es,MapKept.IsKey .string x.key
 | [],[],_,x,hx=>by cases hx
 | p::f,e::es,⟨⟨h1,h2⟩,h3⟩,x,hx=>by
  rcases List.mem_cons.1 hx with rfl | hx
  ·rw[h1];exact Dc _
  ·exact GK.keys h3 x hx
theorem GK.at {Z:Fz}:∀{f:List (List UInt8×Rp)} {es:List MapEntry},GK Z f es→f.length=es.length∧∀(j:Nat) (e:MapEntry),es[j]? =some e→∃k r,f[j]? =some (k,r)∧e.key = .string (B k)∧r.p Z e.val
 | [],[],_=>⟨rfl,λj e h=>by simp at h⟩
 | p::f,e::es,⟨⟨h1,h2⟩,h3⟩=>by
  obtain⟨hl,ha⟩:=GK.at h3;refine⟨by simp[hl],λj e' hj=>?_⟩
  cases j with
  | zero=>simp at hj;subst hj;exact⟨p.1,p.2,rfl,h1,h2⟩
  | succ j=>simp at hj;simpa using ha j e' hj
theorem GK.of {Z:Fz}:∀{f:List (List UInt8×Rp)} {es:List MapEntry},f.length=es.length→(∀(j:Nat) (e:MapEntry),es[j]? =some e→∃k r,f[j]? =some (k,r)∧e.key = .string (B k)∧r.p Z e.val)→GK Z f es
 | [],[],_,_=>trivial
 | p::f,e::es,hl,h=>by
  obtain⟨k,r,h1,h2,h3⟩:=h 0 e rfl;simp at h1;subst h1;exact⟨⟨h2,h3⟩,GK.of (by simpa using hl) λj e' hj=>by simpa using h (j+1) e' (by simpa using hj)⟩
 | [],_::_,hl,_=>by simp at hl
 | _::_,[],hl,_=>by simp at hl
theorem GK.snoc {Z:Fz}{k:List UInt8}{r:Rp}{e:MapEntry}(h1:e.key = .string (B k))(h2:r.p Z e.val):∀{f:List (List UInt8×Rp)} {es:List MapEntry},GK Z f es→GK Z (f++[(k,r)]) (es++[e])
 | [],[],_=>⟨⟨h1,h2⟩,trivial⟩
 | p::f,e'::es,⟨h,h3⟩=>⟨h,GK.snoc h1 h2 h3⟩
theorem GK.filter {Z:Fz}(q:MapEntry→Bool):∀{f:List (List UInt8×Rp)} {es:List MapEntry},GK Z f es→∃g,GK Z g (es.filter q)∧g.Sublist f
 | [],[],_=>⟨[],trivial,List.Sublist.refl _⟩
 | p::f,e::es,⟨h,h3⟩=>by
  obtain⟨g,hg,hs⟩:=GK.filter q h3
  cases hq:q e with
  | true=>exact⟨p::g,by rw[List.filter_cons_of_pos hq];exact⟨h,hg⟩,hs.cons_cons p⟩
  | false=>exact⟨g,by rw[List.filter_cons_of_neg (by simp[hq])];exact hg,hs.cons p⟩
theorem Ga {T:Type}:∀{m:List (A9×T)} {k:A9} {r:T},(m.map (·.1)).Nodup→(k,r)∈m→BC m k=some r
 | p::m,k,r,hn,h=>by
  rw[Ul,List.nodup_cons] at hn;rw[BC];rcases List.mem_cons.1 h with h | h
  ·subst h;rw[T4 rfl];rfl
  ·have hne : ¬ p.1=k:=λe=>hn.1 (by rw[e];exact List.mem_map.2 ⟨(k,r),h,rfl⟩);rw[T7 hne];exact Ga hn.2 h
theorem JQ {T:Type}:∀{m:List (A9×T)} {k:A9},(∀p∈m,p.1≠k)→BC m k=none
 | [],_,_=>rfl
 | p::m,k,h=>by
  rw[BC,T7 (h p (by simp))];exact JQ λq hq=>h q (by simp[hq])
theorem SM {a b:List UInt8}(h:B a=B b):a=b:=by
 have:=congrArg ByteArray.toList h
 rwa [D9,D9] at this
theorem Jd {a b:List UInt8}(h:Value.string (B a) = .string (B b)):a=b:=SM (by cases h;rfl)
theorem KF {Z:Fz}{m:List (List UInt8×Rp)}{es:List MapEntry}{ck:Nat}(h:Dr Z m es ck)(k:List UInt8) :
  (Instr.findNow .string (.string (B k)) es 0=some none∧BC m k=none∧∀p∈m,p.1≠k)∨∃j e r,Instr.findNow .string (.string (B k)) es 0=some (some (j,e.val))∧es[j]? =some e∧e.key = .string (B k)∧BC m k=some r∧r.p Z e.val:=by
 obtain⟨h1,h2,h3,f,h4,h5⟩:=h;obtain⟨hl,ha⟩:=h5.at;rcases MapKept.findNow_spec (Dc (B k)) es 0 h5.keys with⟨q1,q2⟩ | ⟨j,e,q1,q2,q3⟩
 ·have hne:∀p∈m,p.1≠k:=λp hp e=>by
   obtain⟨j,hj⟩:=List.mem_iff_getElem?.1 (h4.symm.subset hp);have hjl:j<es.length:=by rw[← hl];exact(List.getElem?_eq_some_iff.1 hj).1
   obtain⟨k',r',e1,e2,_⟩:=ha j es[j] (T3 hjl);rw[hj] at e1;cases e1;exact q2 es[j] (List.getElem_mem hjl) (by rw[e2,← e])
  exact .inl ⟨q1,JQ hne,hne⟩
 ·obtain⟨k',r,e1,e2,e3⟩:=ha j e q2;rw[q3] at e2;obtain rfl:=Jd e2;exact .inr ⟨j,e,r,by simpa using q1,q2,q3,Ga h1 (h4.subset (TC e1)),e3⟩
section
variable {P : Program} {n : Nat} {c : Cx} {ops : Array Oper} {Q : Exit → Act → World → Prop} {rest : List Oper} {l : Fr} {H : List Ent} {d : Nat} {d' : Option Nat} {ty t kt et rty : TypeId} {pos : String} {af : Array Edge} {g : Option (Nat × Bool)} {x y u : Operand} {K : Act → World → Prop} {cx : Code}
variable {T : Type} {enc : T → Rp} {xs : List (A9 × T)} {z : T} {k : A9} {zv : Value} {i b : Nat}
theorem J7 {Z:Fz}{w:World}{m:List (List UInt8×Rp)}{rz:Rp}(ht:P.underlying t=some (.map kt et))(hk:P.underlying kt=some .string)(hz:∀w,(zeroValue et).run P w = .ok zv w)(hzr:rz.p Z zv)(hm:(Ent.map b m).holds Z w)(ok:Bool) :
  ∃v,((BC m k).getD rz).p Z v∧(Instr.lookup t (.map (some b)) (.string (B k)) ok).run P w = .ok (if ok then .tuple #[v,.bool (BC m k).isSome] else v) w:=by
 obtain⟨es,ck,h1,h2⟩:=hm;rcases KF h2 k with⟨q1,q2,_⟩ | ⟨j,e,r,q1,_,_,q2,q3⟩
 ·exact⟨zv,by rw[q2];exact hzr,by simp[Instr.lookup,run_underlying ht,MapKept.run_getObj_map h1,MapKept.run_checkKey hk (Dc _),MapKept.run_findKey hk q1,hz,q2]⟩
 ·exact⟨e.val,by rw[q2];exact q3,by simp[Instr.lookup,run_underlying ht,MapKept.run_getObj_map h1,MapKept.run_checkKey hk (Dc _),MapKept.run_findKey hk q1,q2]⟩
theorem P1 (enc:T→Rp)(xs:List (A9×T))(k:A9)(z:T):(BC (A3 enc xs) k).getD (enc z)=enc (Cb xs k z):=by
 rw[H6];unfold Cb;cases BC xs k<;>rfl
theorem M5 (enc:T→Rp)(xs:List (A9×T))(k:A9):(BC (A3 enc xs) k).isSome=Cf xs k:=by
 rw[H6];unfold Cf;cases BC xs k<;>rfl
theorem MW (ht:P.underlying t=some (.map kt et))(hk:P.underlying kt=some .string)(hz:∀w,(zeroValue et).run P w = .ok zv w)(hzr:∀Z,(enc z).p Z zv)(hx:ev l x=some (rv (.map (some b))))(hi:H[i]? =some (.map b (A3 enc xs)))(hy:ev l y=some (rS k)) :
  Bh P n c l H { dst:=d',op:=.lookup t x y true,type:=ty,pos:=pos,after:=af,guard:=g } (Dp [enc (Cb xs k z),rB (Cf xs k)]):=λa w Z ha hw=>by
 obtain⟨v,h1,h2⟩:=J7 (k:=k) ht hk hz (hzr Z) (hw.ent hi) true;rw[P1] at h1;refine⟨.tuple #[v,.bool (Cf xs k)],⟨[v,.bool (Cf xs k)],rfl,h1,rfl,trivial⟩,?_⟩;rw[M5] at h2;simp[execOp,ha.eval hx,ha.eval hy,h2]
theorem Dr.length {Z:Fz}{m:List (List UInt8×Rp)}{es:List MapEntry}{ck:Nat}(h:Dr Z m es ck):es.length=m.length:=by
 obtain⟨_,_,_,f,h4,h5⟩:=h;rw[← h5.at.1,h4.length_eq]
theorem Pk {m:List (List UInt8×Rp)}{N:Nat}(ht:P.underlying t=some (.map kt et))(hx:ev l x=some (rv (.map (some b))))(hi:H[i]? =some (.map b m))(hN:m.length=N) :
  Bh P n c l H { dst:=d',op:=.call { callee:=.builtin .len,args:=#[x],argTypes:=#[t] },type:=ty,pos:=pos,after:=af,guard:=g } (rI .i64 N):=λa w Z ha hw=>CJ<|by
 obtain⟨es,ck,h1,h2⟩:=hw.ent hi;have hl:es.size=N:=by rw[← hN,← h2.length];simp
 simp[execOp,resolve,invoke,builtin,ha.eval hx,Builtin.len_,run_underlying ht,goInt,MapKept.run_getObj_map h1,hl]
theorem NQ {v:Option Nat}(ht:P.underlying t=some (.map kt et))(hx:ev l x=some (rv (.map v))):Bh P n c l H { dst:=d',op:=.binOp .neq t x (.const (.map none)) rty,type:=ty,pos:=pos,after:=af,guard:=g } (rB (!v.isNone)):=λa w Z ha hw=>CJ<|by
 have e2:a.eval (.const (.map none)) = .map none:=rfl;have h:=run_equal_map_nil (P:=P) w t kt et v ht;simp[execOp,ha.eval hx,e2,eqGuard,binOp,h]
theorem OZ {m f:List (A9×Rp)}(h:f.Perm m)(k:A9)(r:Rp):(mput f k r).Perm (mput m k r):=h.map _
theorem MZ {T:Type}:∀{f:List (A9×T)} {j:Nat} {k:A9} {r0:T} (r:T),(f.map (·.1)).Nodup→f[j]? =some (k,r0)→mput f k r=f.set j (k,r)
 | p::f,0,k,r0,r,hn,h=>by
  simp at h;subst h;rw[Ul,List.nodup_cons] at hn;have:mput f k r=f:=by
   unfold mput;rw[List.map_congr_left (g:=id) (λq hq=>?_),List.map_id];have hne : ¬ q.1=k:=λe=>hn.1 (by rw[← e];exact List.mem_map.2 ⟨q,hq,rfl⟩);rw[T7 hne];rfl
  show(bif decide (k=k) then(k,r) else(k,r0))::mput f k r=_;rw[T4 rfl,this];rfl
 | p::f,j+1,k,r0,r,hn,h=>by
  rw[Ul,List.nodup_cons] at hn;simp at h;have hne : ¬ p.1=k:=λe=>hn.1 (by rw[e];exact List.mem_map.2 ⟨(k,r0),TC h,rfl⟩);show(bif decide (p.1=k) then(k,r) else p)::mput f k r=_;rw[T7 hne,MZ r hn.2 h];rfl
theorem Na {T:Type}:∀{f:List (A9×T)} {j:Nat} {k:A9} {r0:T},(f.map (·.1)).Nodup→f[j]? =some (k,r0)→mdel f k=f.eraseIdx j
 | p::f,0,k,r0,hn,h=>by
  simp at h;subst h;rw[Ul,List.nodup_cons] at hn;have:f.filter (λq=>!decide (q.1=k))=f:=List.filter_eq_self.2 λq hq=>by
   have hne : ¬ q.1=k:=λe=>hn.1 (by rw[← e];exact List.mem_map.2 ⟨q,hq,rfl⟩);simp[hne]
  unfold mdel;rw[List.filter_cons_of_neg (by simp),this];rfl
 | p::f,j+1,k,r0,hn,h=>by
  rw[Ul,List.nodup_cons] at hn;simp at h;have hne : ¬ p.1=k:=λe=>hn.1 (by rw[e];exact List.mem_map.2 ⟨(k,r0),TC h,rfl⟩);unfold mdel;rw[List.filter_cons_of_pos (by simp[hne])];show p::mdel f k=_;rw[Na hn.2 h];rfl
theorem NU {T:Type}(m:List (A9×T))(k:A9)(r:T):(mput m k r).map (·.1)=m.map (·.1):=by
 unfold mput;rw[Us];refine List.map_congr_left λp _=>?_;simp only[Function.comp]
 by_cases h:p.1=k
 ·rw[T4 h];exact h.symm
 ·rw[T7 h];rfl
theorem NV {T:Type}{m:List (A9×T)}{k:A9}{r:T}(h:BC m k=some r):Cf m k=true:=by unfold Cf;rw[h];rfl
theorem NW {T:Type}{m:List (A9×T)}{k:A9}(h:BC m k=none):Cf m k=false:=by unfold Cf;rw[h];rfl
theorem Dr.put {Z:Fz}{m:List (A9×Rp)}{es:List MapEntry}{ck j:Nat}{e:MapEntry}{k:A9}{r0 r:Rp}{v:Value}(h:Dr Z m es ck)(he:es[j]? =some e)(hk:e.key = .string (B k))(hm:BC m k=some r0)(hr:r.p Z v) :
  Dr Z (mset m k r) (es.set j { e with key:=.string (B k),val:=v }) ck:=by
 obtain⟨h1,h2,h3,f,h4,h5⟩:=h;obtain⟨hl,ha⟩:=h5.at;have hjl:=(List.getElem?_eq_some_iff.1 he).1;unfold mset;rw[NV hm,TD];obtain⟨k',r',e1,e2,_⟩:=ha j e he;rw[hk] at e2;obtain rfl:=Jd e2;have hfn:(f.map (·.1)).Nodup:=(h4.map (·.1)).nodup_iff.2 h1;refine⟨by rw[NU];exact h1,?_,?_,f.set j (k,r),?_,GK.of (by simp[hl]) λi x hx=>?_⟩
 ·rw[List.map_set];have:(es.map (·.born)).set j e.born=es.map (·.born):=by
   apply List.ext_getElem?;intro i;rw[List.getElem?_set]
   split
   ·rename_i hij;subst hij
    simp[hjl,List.getElem?_eq_some_iff.1 he |>.2]
   ·rfl
  show((es.map (·.born)).set j e.born).Nodup;rw[this];exact h2
 ·intro x hx;rcases List.mem_or_eq_of_mem_set hx with hx | rfl
  ·exact h3 x hx
  ·exact h3 e (TC he)
 ·have:=OZ h4 k r
  rwa [MZ r hfn e1] at this
 ·rw[List.getElem?_set] at hx ⊢
  split at hx
  ·rename_i hij;subst hij
   cases hx
   exact⟨k,r,by rw[TP rfl,TP (by rw[hl];exact hjl)],rfl,hr⟩
  ·rename_i hij
   rw[TE hij];exact ha i x hx
theorem Dr.ins {Z:Fz}{m:List (A9×Rp)}{es:List MapEntry}{ck:Nat}{k:A9}{r:Rp}{v:Value}(h:Dr Z m es ck)(hm:BC m k=none)(hk:∀p∈m,p.1≠k)(hr:r.p Z v) :
  Dr Z (mset m k r) (es++[{ key:=.string (B k),val:=v,born:=ck }]) (ck+1):=by
 obtain⟨h1,h2,h3,f,h4,h5⟩:=h;unfold mset;rw[NW hm,T8];have hp:=HY k r m;refine⟨?_,?_,?_,f++[(k,r)],?_,GK.snoc rfl hr h5⟩
 ·rw[(hp.map (·.1)).nodup_iff,Ul,List.nodup_cons];exact⟨λhx=>by obtain⟨p,hp,e⟩:=List.mem_map.1 hx;exact hk p hp e,h1⟩
 ·rw[Ur,List.nodup_append];refine⟨h2,by simp,λa ha b hb e=>?_⟩;simp at hb;subst hb;obtain⟨x,hx,e'⟩:=List.mem_map.1 ha;have:=h3 x hx;omega
 ·intro x hx;rcases List.mem_append.1 hx with hx | hx
  ·have:=h3 x hx;omega
  ·simp at hx;subst hx;exact Ue _
 ·exact(List.perm_append_comm (l₁:=f) (l₂:=[(k,r)])).trans ((h4.cons (k,r)).trans hp.symm)
theorem Dr.del {Z:Fz}{m:List (A9×Rp)}{es:List MapEntry}{ck j:Nat}{e:MapEntry}{k:A9}(h:Dr Z m es ck)(he:es[j]? =some e)(hk:e.key = .string (B k)):Dr Z (mdel m k) (es.eraseIdx j) ck:=by
 obtain⟨h1,h2,h3,f,h4,h5⟩:=h;obtain⟨hl,ha⟩:=h5.at;obtain⟨k',r',e1,e2,_⟩:=ha j e he;rw[hk] at e2;obtain rfl:=Jd e2;have hfn:(f.map (·.1)).Nodup:=(h4.map (·.1)).nodup_iff.2 h1;have hs:=List.eraseIdx_sublist es j;refine⟨h1.sublist ((List.filter_sublist ..).map _),h2.sublist (hs.map _),λx hx=>h3 x (hs.subset hx),f.eraseIdx j,?_,GK.of (by rw[List.length_eraseIdx,List.length_eraseIdx,hl]) λi x hx=>?_⟩
 ·rw[← Na hfn e1];exact h4.filter _
 ·rw[List.getElem?_eraseIdx] at hx ⊢
  split at hx
  ·rename_i hij;rw[TP hij];exact ha i x hx
  ·rename_i hij;rw[TE hij];exact ha (i+1) x hx
theorem NX {m:List (A9×Rp)}{k:A9}(hk:∀p∈m,p.1≠k):mdel m k=m:=List.filter_eq_self.2 λp hp=>by simp[hk p hp]
theorem St.mapset {Z:Fz}{w:World}(h:St c H Z w){m m':List (A9×Rp)}(hi:H[i]? =some (.map b m)){es es':Array MapEntry}{ck ck':Nat}(h1:w.heap[b]? =some (.map es ck))(h2:Dr Z m' es'.toList ck') :
  St c (H.set i (.map b m')) Z { w with heap:=w.heap.setIfInBounds b (.map es' ck') }:=by
 obtain⟨q1,q2⟩:=MapKept.heap_set (o':=.map es' ck') h1;exact h.set hi rfl rfl rfl (by simp) (λk _ hk=>q2 k (by simpa[Ent.foot] using hk)) ⟨es',ck',q1,h2⟩ (by simp[Ent.foot])
theorem Kx (s:ByteArray):Instr.sameBits 10000 (.string s) (.string s)=true:=by
 show(s ==s)=true;exact(MapKept.bytes_beq s s).2 rfl |> λh=>by simpa using h
theorem R0 {r:Rp}{m:List (A9×Rp)}(ht:P.underlying t=some (.map kt et))(hk:P.underlying kt=some .string)(hx:ev l x=some (rv (.map (some b))))(hi:H[i]? =some (.map b m))(hy:ev l y=some (rS k))(hu:ev l u=some r){H':List Ent}(hH:H.set i (.map b (mset m k r))=H')(h:WL P n c ops Q rest l H') :
  WL P n c ops Q ({ dst:=none,op:=.mapUpdate t x y u,type:=ty,pos:=pos,after:=af,guard:=none }::rest) l H:=
 Kk λa w Z ha hw=>by
  obtain⟨es,ck,h1,h2⟩:=hw.ent hi;have hv:=ha.ev hu;subst hH;rcases KF h2 k with⟨q1,q2,q3⟩ | ⟨j,e,r0,q1,q2,q3,q4,_⟩
  ·refine⟨_,_,?_,hw.mapset hi h1 (es':=es.push { key:=.string (B k),val:=a.eval u,born:=ck }) (by simpa using h2.ins q2 q3 hv),h⟩;simp[execOp,ha.eval hx,ha.eval hy,Instr.mapUpdate,run_underlying ht,MapKept.run_getObj_map h1,MapKept.run_checkKey hk (Dc _),MapKept.run_findKey hk q1,MapKept.run_setObj_map _ h1]
  ·have hje:es[j]? =some e:=by simpa using q2
   refine⟨_,_,?_,hw.mapset hi h1 (es':=es.modify j λe=>{ e with key:=.string (B k),val:=a.eval u }) (ck':=ck) (by
    have:=h2.put q2 q3 q4 hv;have e1:(es.modify j λe=>{ e with key:=.string (B k),val:=a.eval u }).toList=es.toList.set j { e with key:=.string (B k),val:=a.eval u }:=by
     rw[Array.toList_modify];rw[List.modify_eq_set,q2];rfl
    rw[e1];exact this),h⟩
   have hkey:((es[j]?).map (·.key)).getD (.string (B k)) = .string (B k):=by rw[hje];exact q3
   simp[execOp,ha.eval hx,ha.eval hy,Instr.mapUpdate,run_underlying ht,MapKept.run_getObj_map h1,MapKept.run_checkKey hk (Dc _),MapKept.run_findKey hk q1,MapKept.run_setObj_map _ h1,hkey,Instr.keyThatStays,Kx]
theorem Sv {op:Op}{ty:TypeId}{pos:String}{af:Array Edge}
  (hr:∀a w Z,BU n l a Z→St c H Z w→∃v w' H',(execOp a.eval { dst:=none,op:=op,type:=ty,pos:=pos,after:=af,guard:=none }).run P w = .ok (.value v) w'∧St c H' Z w'∧WL P n c ops Q rest l H') :
  WL P n c ops Q ({ dst:=none,op:=op,type:=ty,pos:=pos,after:=af,guard:=none }::rest) l H:=λa w Z ha hw=>
 wpList_plain rfl λK hK=>by
  obtain⟨v,w',H',h1,h2,h3⟩:=hr a w Z ha hw;unfold Oper.wp;rw[h1];exact hK _ _ (h3 _ w' Z (ha.put_none _) h2)
theorem R1 {m:List (A9×Rp)}(ht:P.underlying t=some (.map kt et))(hk:P.underlying kt=some .string){kt':TypeId}(hx:ev l x=some (rv (.map (some b))))(hi:H[i]? =some (.map b m))(hy:ev l y=some (rS k)){H':List Ent}(hH:H.set i (.map b (mdel m k))=H')(h:WL P n c ops Q rest l H') :
  WL P n c ops Q ({ dst:=none,op:=.call { callee:=.builtin .delete,args:=#[x,y],argTypes:=#[t,kt'] },type:=ty,pos:=pos,after:=af,guard:=none }::rest) l H:=
 Sv (λa w Z ha hw=>by
  obtain⟨es,ck,h1,h2⟩:=hw.ent hi;subst hH;rcases KF h2 k with⟨q1,q2,q3⟩ | ⟨j,e,r0,q1,q2,q3,q4,_⟩
  ·refine⟨.tuple #[],_,_,?_,hw.mapset hi h1 (es':=es) (ck':=ck) (by rw[NX q3];exact h2),h⟩;simp[execOp,resolve,invoke,builtin,ha.eval hx,ha.eval hy,Builtin.delete_,run_underlying ht,MapKept.run_getObj_map h1,MapKept.run_checkKey hk (Dc _),MapKept.run_findKey hk q1,MapKept.run_setObj_map _ h1]
  ·refine⟨.tuple #[],_,_,?_,hw.mapset hi h1 (es':=es.eraseIdxIfInBounds j) (ck':=ck) (by
    have e1:(es.eraseIdxIfInBounds j).toList=es.toList.eraseIdx j:=by simp
    rw[e1];exact h2.del q2 q3),h⟩
   simp[execOp,resolve,invoke,builtin,ha.eval hx,ha.eval hy,Builtin.delete_,run_underlying ht,MapKept.run_getObj_map h1,MapKept.run_checkKey hk (Dc _),MapKept.run_findKey hk q1,MapKept.run_setObj_map _ h1])
theorem Qh {v:T}(ht:P.underlying t=some (.map kt et))(hk:P.underlying kt=some .string)(hx:ev l x=some (rv (.map (some b))))(hi:H[i]? =some (.map b (A3 enc xs)))(hy:ev l y=some (rS k))(hu:ev l u=some (enc v)){H':List Ent}(hH:H.set i (.map b (A3 enc (mset xs k v)))=H')(h:WL P n c ops Q rest l H') :
  WL P n c ops Q ({ dst:=none,op:=.mapUpdate t x y u,type:=ty,pos:=pos,after:=af,guard:=none }::rest) l H:=R0 ht hk hx hi hy hu (by rw[← Po];exact hH) h
theorem MF (ht:P.underlying t=some (.map kt et))(hk:P.underlying kt=some .string){kt':TypeId}(hx:ev l x=some (rv (.map (some b))))(hi:H[i]? =some (.map b (A3 enc xs)))(hy:ev l y=some (rS k)){H':List Ent}(hH:H.set i (.map b (A3 enc (mdel xs k)))=H')(h:WL P n c ops Q rest l H') :
  WL P n c ops Q ({ dst:=none,op:=.call { callee:=.builtin .delete,args:=#[x,y],argTypes:=#[t,kt'] },type:=ty,pos:=pos,after:=af,guard:=none }::rest) l H:=R1 ht hk hx hi hy (by rw[← Pq];exact hH) h
end
theorem HC {q:MapEntry→Bool}:∀{l:List MapEntry} {j:Nat} {e:MapEntry},(l.map (·.born)).Nodup→l[j]? =some e→l.filter (λx=>!(x.born ==e.born))=l.eraseIdx j
 | x::l,0,e,hn,h=>by
  simp at h;subst h;rw[Ul,List.nodup_cons] at hn;rw[List.filter_cons_of_neg (by simp),List.filter_eq_self.2 λy hy=>?_];rfl;have:y.born≠x.born:=λe=>hn.1 (by rw[← e];exact List.mem_map.2 ⟨y,hy,rfl⟩);simp[this]
 | x::l,j+1,e,hn,h=>by
  rw[Ul,List.nodup_cons] at hn;simp at h;have hne:x.born≠e.born:=λe'=>hn.1 (by rw[e'];exact List.mem_map.2 ⟨e,TC h,rfl⟩);rw[List.filter_cons_of_pos (by simp[hne]),HC (q:=q) hn.2 h];rfl
theorem GK.erase {Z:Fz}:∀{f:List (List UInt8×Rp)} {es:List MapEntry} (j:Nat),GK Z f es→GK Z (f.eraseIdx j) (es.eraseIdx j)
 | [],[],j,_=>by simp[GK]
 | p::f,e::es,0,⟨_,h⟩=>h
 | p::f,e::es,j+1,⟨h,h3⟩=>⟨h,GK.erase j h3⟩
theorem MT {α:Type}:∀{l:List α} {j:Nat} {a:α},l[j]? =some a→l.Perm (a::l.eraseIdx j)
 | x::l,0,a,h=>by simp at h;subst h;exact T2 _
 | x::l,j+1,a,h=>by
  simp at h;exact((MT h).cons x).trans (List.Perm.swap a x _)
theorem Pa {T:Type}{enc:T→Rp}{ys:List (A9×T)}{f:List (A9×Rp)}{j:Nat}{k:A9}{r:Rp}(h:f.Perm (A3 enc ys))(hj:f[j]? =some (k,r)):∃ (p:A9×T) (ys':List (A9×T)),ys.Perm (p::ys')∧p.1=k∧enc p.2=r∧(f.eraseIdx j).Perm (A3 enc ys'):=by
 have hm:(k,r)∈A3 enc ys:=h.subset (TC hj);obtain⟨p,hp,e⟩:=List.mem_map.1 hm;simp only[Prod.mk.injEq] at e;obtain⟨a,b,rfl⟩:=List.append_of_mem hp;refine⟨p,a++b,List.perm_middle,e.1,e.2,?_⟩;have h1:f.Perm ((k,r)::f.eraseIdx j):=by
  exact MT hj
 have h2:(A3 enc (a++p::b)).Perm ((k,r)::A3 enc (a++b)):=by
  have:(A3 enc (a++p::b)).Perm (A3 enc (p::(a++b))):=List.perm_middle.map _;refine this.trans ?_;show((p.1,enc p.2)::A3 enc (a++b)).Perm _;rw[e.1,e.2]
 exact((h1.symm.trans h).trans h2).cons_inv
section
variable {P : Program} {n : Nat} {c : Cx} {ops : Array Oper} {Q : Exit → Act → World → Prop} {rest : List Oper} {l : Fr} {H : List Ent} {d : Nat} {ty t kt et rty : TypeId} {pos : String} {af : Array Edge} {x y u : Operand} {K : Act → World → Prop} {cx : Code}
variable {T : Type} {enc : T → Rp} {xs ys : List (A9 × T)} {i b it : Nat} {m lf : List (List UInt8 × Rp)} {cur : Option (List UInt8 × Rp)} {k : A9} {r : Rp}
theorem ID (ht:P.underlying t=some (.map kt et))(hx:ev l x=some (rv (.map (some b))))(hi:H[i]? =some (.map b m))(hn:Nat.blt d n=true)(h:∀it,WL P n c ops Q rest ((d,rv (.pointer (some ⟨it,0,none⟩)))::l) (H.set i (.mit b it m m none))) :
  WL P n c ops Q ({ dst:=some d,op:=.range t x,type:=ty,pos:=pos,after:=af,guard:=none }::rest) l H:=
 GM (λa w Z ha hw=>by
  obtain⟨es,ck,h1,h2⟩:=hw.ent hi;have hb:b<w.heap.size:=(Array.getElem?_eq_some_iff.1 h1).1;have hf:es.toList.filter (λe=>!(#[]:Array Nat).contains e.born)=es.toList:=List.filter_eq_self.2 λ_ _=>by simp
  obtain⟨f,h4,h5⟩:=h2.2.2.2;refine⟨.pointer (some ⟨w.heap.size,0,none⟩),w.alloc (.mapIter (some b) ck #[] ck),_,_,Z,?_,Fz.le.refl _,rfl,hw.set hi rfl rfl rfl (by simp) (λk hk _=>Below.heap_alloc w _ k hk) ?_ ?_,h w.heap.size⟩
  ·simp[execOp,ha.eval hx,run_range_map w t kt et b es ck ht h1]
  ·exact⟨es,ck,#[],ck,ck,(Below.heap_alloc w _ b hb).trans h1,by simpa using heap_alloc_new w _,h2,h2.2.2.1,TH _,TH _,Nat.ne_of_lt hb,⟨f,h4,by rw[hf];exact h5⟩,trivial⟩
  ·intro k hk;simp only[Ent.foot,Uq,List.not_mem_nil,or_false] at hk;rcases hk with rfl | rfl
   ·exact .inl (by simp[Ent.foot])
   ·exact .inr (TH _)) hn
theorem Kn (hx:ev l x=some (rv (.pointer (some ⟨it,0,none⟩))))(hi:H[i]? =some (.mit b it m (A3 enc ys) cur))(hn:Nat.blt d n=true)
  (h0:ys=[]→WL P n c ops Q rest ((d,Dp [rB false])::l) H)
  (h1:∀p ys',ys.Perm (p::ys')→WL P n c ops Q rest ((d,Dp [rB true,rS p.1,enc p.2])::l) (H.set i (.mit b it m (A3 enc ys') (some (p.1,enc p.2))))) :
  WL P n c ops Q ({ dst:=some d,op:=.next x false,type:=ty,pos:=pos,after:=af,guard:=none }::rest) l H:=
 GM (λa w Z ha hw=>by
  obtain⟨es,ck,seen,since,c0,q1,q2,q3,q4,q5,q6,q7,⟨f,q8,q9⟩,_⟩:=hw.ent hi;have hlf:(leftOf es seen).toList=es.toList.filter λe=>!seen.contains e.born:=by simp[leftOf]
  rcases run_next_at (P:=P) w ty it b since c0 seen es ck q2 q1 q4 q5 with⟨r1,r2⟩ | ⟨e,r1,w1,r2,r3⟩
  ·have he:es.toList.filter (λe=>!seen.contains e.born)=[]:=by rw[← hlf];exact TM (by simpa using r1)
   rw[he] at q9;have hf:f=[]:=by cases f with
    | nil=>rfl
    | cons _ _=>exact absurd q9 id
   subst hf;have hy:ys=[]:=by
    have:=q8.length_eq;rw[Gb] at this;exact TM this.symm
   exact⟨.tuple #[.bool false],w,Dp [rB false],H,Z,by simp[execOp,ha.eval hx,r2],Fz.le.refl _,⟨[.bool false],rfl,rfl,trivial⟩,hw,h0 hy⟩
  ·rw[hlf] at r1;obtain⟨j,hj⟩:=List.mem_iff_getElem?.1 r1;obtain⟨k,r,e1,e2,e3⟩:=q9.at.2 j e hj;obtain⟨p,ys',s1,s2,s3,s4⟩:=Pa q8 e1;have hnl:((es.toList.filter λe=>!seen.contains e.born).map (·.born)).Nodup:=q3.2.1.sublist ((List.filter_sublist ..).map _);have hleft:es.toList.filter (λx=>!(seen.push e.born).contains x.born)=(es.toList.filter λe=>!seen.contains e.born).eraseIdx j:=by
    rw[← HC (q:=λ_=>true) hnl hj,List.filter_filter];refine List.filter_congr λx _=>?_;simp only[Array.contains_push,Bool.not_or];rw[Bool.and_comm]
   have hd:St c H Z w1:=by
    rcases r2 with rfl | rfl
    ·exact hw
    ·exact hw.drawn _
   have q2':w1.heap[it]? =some (.mapIter (some b) since seen c0):=by rcases r2 with rfl | rfl<;>exact q2
   have q1':w1.heap[b]? =some (.map es ck):=by rcases r2 with rfl | rfl<;>exact q1
   obtain⟨t1,t2⟩:=MapKept.heap_set (o':=.mapIter (some b) since (seen.push e.born) ck) q2';refine⟨.tuple #[.bool true,e.key,e.val],ChangeMaps.setBlock w1 it (.mapIter (some b) since (seen.push e.born) ck),Dp [rB true,rS p.1,enc p.2],H.set i (.mit b it m (A3 enc ys') (some (p.1,enc p.2))),Z,by simp[execOp,ha.eval hx,r3],Fz.le.refl _,⟨[.bool true,e.key,e.val],rfl,rfl,?_,?_,trivial⟩,hd.set hi rfl rfl rfl (by simp[ChangeMaps.setBlock]) (λk' _ hk'=>t2 k' (λe'=>hk' (by simp[Ent.foot,e']))) ?_ (λk' hk'=>.inl (by simpa[Ent.foot] using hk')),h1 p ys' s1⟩
   ·show e.key = .string (B p.1);rw[s2];exact e2
   ·rw[s3];exact e3
   ·exact⟨es,ck,seen.push e.born,since,ck,(t2 b q7).trans q1',t1,q3,q4,Nat.le_trans q5 q6,TH _,q7,⟨f.eraseIdx j,s4,by rw[hleft];exact q9.erase j⟩,rfl,seen,e,rfl,(List.mem_filter.1 r1).1,by rw[s2];exact e2,by rw[s3];exact e3⟩) hn
theorem St.unmit {Z:Fz}{w:World}(h:St c H Z w)(hi:H[i]? =some (.mit b it m lf cur)):St c (H.set i (.map b m)) Z w:=by
 obtain⟨es,ck,seen,since,c0,q1,q2,q3,_⟩:=h.ent hi;exact h.set hi rfl rfl rfl (TH _) (λ_ _ _=>rfl) ⟨es,ck,q1,q3⟩ (by simp[Ent.foot])
theorem WK.unmit (hi:H[i]? =some (.mit b it m lf cur))(h:WK n c K l (H.set i (.map b m))):WK n c K l H:=λa w Z ha hw=>h a w Z ha (hw.unmit hi)
theorem WC.unmit (hi:H[i]? =some (.mit b it m lf cur))(h:WC P n c cx Q l (H.set i (.map b m))):WC P n c cx Q l H:=λa w Z ha hw=>h a w Z ha (hw.unmit hi)
theorem WL.unmit (hi:H[i]? =some (.mit b it m lf cur))(h:WL P n c ops Q rest l (H.set i (.map b m))):WL P n c ops Q rest l H:=λa w Z ha hw=>h a w Z ha (hw.unmit hi)
theorem St.uncur {Z:Fz}{w:World}(h:St c H Z w)(hi:H[i]? =some (.mit b it m lf cur)):St c (H.set i (.mit b it m lf none)) Z w:=by
 obtain⟨es,ck,seen,since,c0,q1,q2,q3,q4,q5,q6,q7,q8,_⟩:=h.ent hi;exact h.set hi rfl rfl rfl (TH _) (λ_ _ _=>rfl) ⟨es,ck,seen,since,c0,q1,q2,q3,q4,q5,q6,q7,q8,trivial⟩ (λk hk=>.inl (by simpa[Ent.foot] using hk))
theorem WK.uncur (hi:H[i]? =some (.mit b it m lf cur))(h:WK n c K l (H.set i (.mit b it m lf none))):WK n c K l H:=λa w Z ha hw=>h a w Z ha (hw.uncur hi)
theorem IM {dd:Option Nat}{g:Option (Nat×Bool)}(hx:ev l x=some (rv (.pointer (some ⟨it,0,none⟩))))(hi:H[i]? =some (.mit b it m lf (some (k,r)))) :
  Bh P n c l H { dst:=dd,op:=.entry x,type:=ty,pos:=pos,after:=af,guard:=g } (Dp [rS k,r]):=λa w Z ha hw=>by
 obtain⟨es,ck,seen,since,c0,q1,q2,q3,q4,q5,q6,q7,q8,rfl,s0,e,rfl,h1,h2,h3⟩:=hw.ent hi;exact⟨.tuple #[e.key,e.val],⟨[e.key,e.val],rfl,h2,h3,trivial⟩,by simp[execOp,ha.eval hx,run_entry_at w it b since s0 es c0 e q2 q1 h1 q3.2.1]⟩
end
section
variable {P : Program} {n : Nat} {c : Cx} {opsA : Array Oper} {Q : Exit → Act → World → Prop} {l : Fr} {H : List Ent} {d : Nat} {ty : TypeId} {pos : String} {af : Array Edge}
theorem Pe {f:FuncId}{args:List Operand}{ats:Array TypeId}{rs:List Rp}{r:Rp}{Hin Hout Hr:List Ent}(hcall:∀(as1:Array Value) (w:World),(callFunc f as1).run P w = .ok (.enter f as1) w)(hv:I9 l args=some rs)
  (hp:H.Perm (Hin++Hr)) (hc:Fn P c.E f rs Hin (λr' H'=>r'=r∧H'=Hout)) {H':List Ent} (hH:Hout++Hr=H'):CE P n c opsA Q l H { dst:=some d,op:=.call { callee:=.value (.func f),args:=args.toArray,argTypes:=ats },type:=ty,pos:=pos,after:=af,guard:=none } r H':=λa w Z K ha hw hK=>
 ⟨λ_=>by
  subst hH;unfold Oper.wp;rw[Du rfl hcall w];refine(hc w Z _ (El ha hv) (hw.perm hp).enter).mono ?_;rintro e w' ⟨r2,v,Ho,Z',rfl,⟨rfl,rfl⟩,hr2,hs⟩;exact hK v w' Z' hs.le hr2 ((hw.perm hp).call hs),λh=>by simp[Region.wanted] at h⟩
theorem Pd {f:FuncId}{args:List Operand}{ats:Array TypeId}{rs:List Rp}{r:Rp}{Hin Hr:List Ent}(hcall:∀(as1:Array Value) (w:World),(callFunc f as1).run P w = .ok (.enter f as1) w)(hv:I9 l args=some rs)
  (hp:H.Perm (Hin++Hr)) (hc:Fn P c.E f rs Hin (λr' H'=>r'=r∧H'=Hin)):CE P n c opsA Q l H { dst:=some d,op:=.call { callee:=.value (.func f),args:=args.toArray,argTypes:=ats },type:=ty,pos:=pos,after:=af,guard:=none } r H:=λa w Z K ha hw hK=>
 Pe (Hout:=Hin) hcall hv hp hc rfl a w Z K ha hw (λv w' Z' hz hr hs=>hK v w' Z' hz hr (hs.perm hp.symm))
theorem NM {f:FuncId}{args:List Operand}{ats:Array TypeId}{rs:List Rp}{r:Rp}{Hin Hr E:List Ent}(hcall:∀(as1:Array Value) (w:World),(callFunc f as1).run P w = .ok (.enter f as1) w)(hv:I9 l args=some rs)
  (hp:H.Perm (Hin++Hr)) (hc:Fn P c.E f rs Hin (λr' H'=>r'=r∧H'=Hin)):CE P n c opsA Q l (H++E) { dst:=some d,op:=.call { callee:=.value (.func f),args:=args.toArray,argTypes:=ats },type:=ty,pos:=pos,after:=af,guard:=none } r (H++E):=
 Pd (Hin:=Hin) (Hr:=Hr++E) hcall hv (by rw[← Uh];exact hp.append_right E) hc
end
section
variable {P : Program} {n : Nat} {c : Cx} {ops : Array Oper} {Q : Exit → Act → World → Prop} {rest : List Oper} {l : Fr} {H H' : List Ent} {d : Nat} {d' : Option Nat} {x y z3 : Operand} {ty t t' e : TypeId} {pos : String} {af : Array Edge} {g : Option (Nat × Bool)} {v u : Value} {r : Rp} {sz : Nat}
end
theorem AO.d1 {Z:Fz}{r0:Rp}{us:List Value}(h:AO Z [r0] us):∃y0,us=[y0]∧AO Z [r0] [y0]:=by
 match us,h.length with
 | [y0],_=>exact⟨_,rfl,h⟩
theorem AO.d2 {Z:Fz}{r0 r1:Rp}{us:List Value}(h:AO Z [r0,r1] us):∃y0 y1,us=[y0,y1]∧AO Z [r0,r1] [y0,y1]:=by
 match us,h.length with
 | [y0,y1],_=>exact⟨_,_,rfl,h⟩
theorem AO.d7 {Z:Fz}{r0 r1 r2 r3 r4 r5 r6:Rp}{us:List Value}(h:AO Z [r0,r1,r2,r3,r4,r5,r6] us):∃y0 y1 y2 y3 y4 y5 y6,us=[y0,y1,y2,y3,y4,y5,y6]∧AO Z [r0,r1,r2,r3,r4,r5,r6] [y0,y1,y2,y3,y4,y5,y6]:=by
 match us,h.length with
 | [y0,y1,y2,y3,y4,y5,y6],_=>exact⟨_,_,_,_,_,_,_,rfl,h⟩
theorem LM {α:Type}{sz:Nat}:∀{xs:List (List α)} (hs:∀c∈xs,c.length=sz) {k:Nat} {cl:List α},xs[k]? =some cl→∀(off m:Nat),off+m≤sz→((xs.flatten).drop (k*sz+off)).take m=(cl.drop off).take m
 | [],_,k,cl,h,_,_,_=>by simp at h
 | x::r,hs,0,cl,h,off,m,hm=>by
  simp at h;subst h;have hx:=hs x (by simp);simp only[List.flatten_cons,Nat.zero_mul,TV];rw[List.drop_append_of_le_length (by omega),List.take_append_of_le_length (by simp;omega)]
 | x::r,hs,k+1,cl,h,off,m,hm=>by
  have hx:=hs x (by simp);simp only[List.flatten_cons];have e:(k+1)*sz+off=x.length+(k*sz+off):=by rw[hx,Nat.succ_mul];omega
  rw[e,List.drop_length_add_append];exact LM (λc hc=>hs c (by simp[hc])) (by simpa using h) off m hm
section
variable {P : Program} {n : Nat} {c : Cx} {ops : Array Oper} {Q : Exit → Act → World → Prop} {rest : List Oper} {l : Fr} {H H' : List Ent} {d : Nat} {d' : Option Nat} {ty t e rty : TypeId} {pos : String} {af : Array Edge} {g : Option (Nat × Bool)} {x y u : Operand} {v : Value} {sz m : Nat}
theorem MY {α:Type}[Inhabited α]{ys:List α}{enc:α→List Rp}{i off:Nat}{j:Int}{rs:List Rp}(hag:∀w,(isAgg t).run P w = .ok true w)(hsz:∀w,(sizeOf t).run P w = .ok m w)(hx:ev l x=some (rv (Dx sz v j.toNat off)))(hi:H[i]? =some (.row v e sz (ys.map enc)))(hg:C2 j (ys.length:Int)=true)
  (hle:Nat.ble (off+m) sz=true) (hr:((enc (Ac ys j)).drop off).take m=rs) :
  Bh P n c l H { dst:=d',op:=.load t x,type:=ty,pos:=pos,after:=af,guard:=g } (Bx rs):=λa w Z ha hw=>by
 obtain⟨hs,us,⟨h1,h2⟩,h3⟩:=hw.ent hi;have h0:=(Bm hg).1;have hlt:j.toNat<ys.length:=by have:=(Bm hg).2;omega
 have eat:Ac ys j=ys[j.toNat]:=by simp[Ac,hlt]
 have hle':off+m≤sz:=by simpa using hle
 have hcl:(ys.map enc)[j.toNat]? =some (enc ys[j.toNat]):=by simp[hlt]
 have hcz:(enc ys[j.toNat]).length=sz:=hs _ (TC hcl);have hseg:=LM hs hcl off m hle';rw[← eat,hr] at hseg;have h4:=(h3.drop (j.toNat*sz+off)).take m;rw[hseg] at h4;have hrl:rs.length=m:=by rw[← hr,eat];simp;omega
 rcases h2 with⟨rfl,hz⟩ | ⟨b,cap,cur,rfl,_,hg',hcap,hm,hcs,htk⟩
 ·simp at hz;subst hz;simp at hlt
 ·have h5:=run_loadCells_list (P:=P) w ⟨b,j.toNat*sz+off,none⟩ ((us.drop (j.toNat*sz+off)).take m) (λq w' hq=>by
   rw[G6,cell_of_row w b _ cur e (0,0) hg'];rw[Ud] at hq
   split at hq
   ·rw[List.getElem?_drop,← htk,Ud] at hq
    split at hq
    ·simpa using hq
    ·cases hq
   ·cases hq)
  rw[h4.length,hrl] at h5;exact⟨.agg ((us.drop (j.toNat*sz+off)).take m).toArray,⟨_,rfl,h4⟩,by simp[execOp,ha.eval hx,Dx,Instr.loadAt,Instr.sureAddr,loadVar,hag,hsz,h5]⟩
end
end Go.Proofs.YthbbedliepkakaaGreatDoor.Q
namespace Go.Proofs.YthbbedliepkakaaGreatDoor
open Go
end Go.Proofs.YthbbedliepkakaaGreatDoor
namespace Go.Proofs.YthbbedliepkakaaGreatDoor.Q
open Go Go.RowKit
set_option linter.unusedVariables false
set_option linter.unusedSimpArgs false
section
variable {P : Program} {n : Nat} {c : Cx} {Q : Exit → Act → World → Prop} {l : Fr} {H : List Ent} {x rest' : Code} {K : Act → World → Prop}
end
section
variable {P : Program} {n : Nat} {c : Cx} {ops : Array Oper} {Q : Exit → Act → World → Prop} {rest : List Oper} {l : Fr} {H H' : List Ent} {d : Nat} {d' : Option Nat} {x y z3 z4 : Operand} {ty t t' e : TypeId} {pos : String} {af : Array Edge} {g : Option (Nat × Bool)} {v u : Value} {r : Rp} {sz : Nat}
end
structure Sx (U:Type) where
 deps:List Nat
 r:U→Rp
 dyn:Bool:=false
 old:List Nat:=[]
def DO {U:Type}(sp:List (Sx U))(i:Nat):Sx U:=sp.getD i { deps:=[],r:=λ_=>rv undef }
def Ov {U:Type}(sp:List (Sx U))(u:U):List Sp:=sp.map λs=>⟨s.deps,s.r u,0⟩
def S2 {U:Type}(sp:List (Sx U))(u:U):List Sa:=sp.map λs=>{ deps:=s.deps,r:=s.r u }
def J0 {U:Type}:List (Sx U)→Prop
 | []=>True
 | s::r=>(s.dyn=false→∀u u',s.r u=s.r u')∧J0 r
theorem J0.at {U:Type}:∀{sp:List (Sx U)},J0 sp→∀{i:Nat} {s:Sx U},sp[i]? =some s→s.dyn=false→∀u u',s.r u=s.r u'
 | [],_,i,s,h=>by simp at h
 | x::sp,⟨h1,h2⟩,0,s,h=>by simp at h;subst h;exact h1
 | x::sp,⟨h1,h2⟩,i+1,s,h=>J0.at h2 (by simpa using h)
theorem SY {U:Type}{ds os:List Nat}{r:Rp}{sp:List (Sx U)}(h:J0 sp):J0 ({ deps:=ds,r:=λ_=>r,old:=os }::sp):=⟨λ_ _ _=>rfl,h⟩
theorem SX {U:Type}{ds os:List Nat}{r:U→Rp}{sp:List (Sx U)}(h:J0 sp):J0 ({ deps:=ds,r:=r,dyn:=true,old:=os }::sp):=⟨λh'=>(by cases h'),h⟩
def D8 (lw:Fr):List Nat→Fr→Fr
 | [],l=>l
 | d::r,l=>match look lw d with
  | some q=>(d,q)::D8 lw r l
  | none=>D8 lw r l
theorem Nr {n:Nat}{lw l:Fr}{a:Act}{Z:Fz}(h0:BU n l a Z):∀{ds:List Nat},(∀d∈ds,∀q,look lw d=some q→∃v,a.tmps[d]? =some v∧q.p Z v)→BU n (D8 lw ds l) a Z
 | [],_=>h0
 | d::ds,h=>by
  have ih:=Nr h0 (ds:=ds) (λd' hd'=>h d' (by simp[hd']));unfold D8
  cases hd:look lw d with
  | none=>exact ih
  | some q=>
   refine⟨ih.size,ih.defers,λi r hi=>?_⟩;rw[B4] at hi
   split at hi
   ·rename_i e;subst e;simp at hi;subst hi;exact h d (by simp) q hd
   ·exact ih.tm i r hi
theorem SW {U:Type}:J0 ([]:List (Sx U)):=trivial
def Tb (n:Nat)(ops:List Oper)(N i0:Nat)(keys:List Nat)(deps:List (List Nat))(dyns:List Bool)(olds:List (List Nat)):Bool:=
 KM ops N&&decide (N≤ops.length)&&decide (i0<N)&&
 (List.range N).all (λi=>match BG ops i with
  | some d=>decide (d<n)&&!keys.contains d&&(List.range N).all (λj=>j ==i||BG ops j !=some d)
  | none=>true)&&
 (List.range N).all (λi=>(deps.getD i []).all (λj=>decide (j<N)&&(De (ops.getD i default)).contains j))&&
 (List.range N).all (λi=>!dyns.getD i false||i ==i0||(De (ops.getD i default)).any (λe=>decide (e<N)&&(e ==i0||dyns.getD e false)))&&
 (List.range N).all (λi=>(olds.getD i []).all (λd=>(List.range N).all (λw=>BG ops w !=some d||(De (ops.getD w default)).contains i)))
section
variable (P : Program) (n : Nat) (c : Cx) (opsA : Array Oper) (Q : Exit → Act → World → Prop)
def SR {U:Type}(l:Fr)(H:List Ent)(o:Oper)(r:U→Rp)(H1:U→List Ent):Prop:=
 ∀a w Z (K:Act→World→Prop),BU n l a Z→St c H Z w→(∀u v w' Z',Fz.le Z Z'→(r u).p Z' v→St c (H1 u) Z' w'→K (a.put o.dst v) w')→
  Region.wanted o (yielded opsA a.tmps)=true∧o.wp P a w K Q
def GZ {U:Type}(ops:List Oper)(sp:List (Sx U))(l0 lw:Fr)(i0:Nat)(H:List Ent)(H1:U→List Ent):Nat→List Oper→Prop
 | i,o::rest=>(if i=i0 then(∀u,SR P n c opsA Q (D8 lw (DO sp i).old (Bs ops (Ov sp u) (DO sp i).deps l0)) H o (DO sp i).r H1) else ∀u H',(H'=H∨H'=H1 u)→CE P n c opsA Q (D8 lw (DO sp i).old (Bs ops (Ov sp u) (DO sp i).deps l0)) H' o ((DO sp i).r u) H')∧GZ ops sp l0 lw i0 H H1 (i+1) rest
 | _,[]=>True
end
section
variable {P : Program} {n : Nat} {c : Cx} {opsA : Array Oper} {Q : Exit → Act → World → Prop} {l l0 lw : Fr} {U : Type} {H : List Ent} {H1 : U → List Ent} {sp : List (Sx U)} {i0 : Nat}
theorem GZ.at {ops:List Oper}:∀{k:Nat} {rest:List Oper},GZ P n c opsA Q ops sp l0 lw i0 H H1 k rest→∀(t:Nat) o,rest[t]? =some o→
  (if k+t=i0 then(∀u,SR P n c opsA Q (D8 lw (DO sp (k+t)).old (Bs ops (Ov sp u) (DO sp (k+t)).deps l0)) H o (DO sp (k+t)).r H1) else ∀u H',(H'=H∨H'=H1 u)→CE P n c opsA Q (D8 lw (DO sp (k+t)).old (Bs ops (Ov sp u) (DO sp (k+t)).deps l0)) H' o ((DO sp (k+t)).r u) H')
 | k,o::rest,⟨h1,h2⟩,t,o',ht=>by
  cases t with
  | zero=>simp at ht;subst ht;exact h1
  | succ t=>
   have:=GZ.at h2 t o' (by simpa using ht);rw[show k+(t+1)=k+1+t from by omega];exact this
 | _,[],_,t,o,h=>by simp at h
theorem Qb {id:Nat}{ops:List Oper}[Inhabited U](N i0:Nat)(sp:List (Sx U))(hm:P.follows .mixedOrders=true)(hB:Tb n ops N i0 (Dj l0) (sp.map (·.deps)) (sp.map (·.dyn)) (sp.map (·.old))=true)(hl0:Ol l0 l)(hlw:Ol lw l)(hsp:sp.length=N)(hst:J0 sp)
  (hob:GZ P n c ops.toArray Q ops sp l0 lw i0 H H1 0 (ops.take N)) (h:∀u,WL P n c ops.toArray Q (ops.drop N) (I0 (λ_=>0) (ops.take N) (S2 sp u) 0 l0) (H1 u)):WC P n c (.region id ops.toArray true) Q l H:=by
 intro a w Z ha hw;simp only[Tb,T6,TO,List.mem_range,T1] at hB;obtain⟨⟨⟨⟨⟨⟨b1,bN⟩,b0⟩,b2⟩,b3⟩,b4⟩,b5⟩:=hB;have hget:∀i,i<N→(ops.take N)[i]? =ops[i]?:=λi hi=>by rw[Ud,TP hi]
 have hsa:∀i,i<N→sp[i]? =some (DO sp i):=λi hi=>by
  simp[DO,T5,T3 (show i<sp.length by omega)]
 have hspq:∀u i,i<N→(Cs (Ov sp u) i)=⟨(DO sp i).deps,(DO sp i).r u,0⟩:=λu i hi=>by
  simp[Cs,Ov,T5,Uc,hsa i hi]
 have hdyn:∀j,j<N→(sp.map (·.dyn)).getD j false=(DO sp j).dyn:=λj hj=>by simp[T5,Uc,hsa j hj]
 have hdep:∀j,j<N→(sp.map (·.deps)).getD j []=(DO sp j).deps:=λj hj=>by simp[T5,Uc,hsa j hj]
 have hops:∀j,j<N→∃o,ops[j]? =some o:=λj hj=>⟨ops[j]'(by omega),T3 (by omega)⟩
 have hdst:∀i o d,i<N→ops[i]? =some o→o.dst=some d→(d<n∧d ∉ Dj l0)∧∀j,j<N→j≠i→BG ops j≠some d:=λi o d hi ho hd=>by
  have h3:=b2 i hi;have:BG ops i=some d:=by simp[BG,ho,hd]
  rw[this] at h3;simp only[T6,TJ,TO,List.mem_range,T1] at h3;refine⟨⟨h3.1.1,λhmem=>by rw[← List.contains_iff_mem] at hmem;rw[hmem] at h3;cases h3.1.2⟩,λj hj hne he=>?_⟩;have:=h3.2 j hj;simp[hne,he] at this
 refine O2 (N:=N) hm b1 bN (λS a w=>∃ (u:U) (Z:Fz),St c (if S i0=true then H1 u else H) Z w∧BU n l0 a Z∧(∀j o d,j<N→S j=true→ops[j]? =some o→o.dst=some d→∃v,a.tmps[d]? =some v∧((DO sp j).r u).p Z v)∧
   (∀j,j<N→(DO sp j).dyn=true→S j=true→S i0=true)∧
   (∀d q,look lw d=some q→(∀wr,wr<N→BG ops wr=some d→S wr=false)→∃v,a.tmps[d]? =some v∧q.p Z v)∧
   ∀wr i d,wr<N→i<N→BG ops wr=some d→d∈(DO sp i).old→S wr=true→S i=true)
  (λS S' a w hS hI=>?_) ⟨default,Z,?_,ha.subL hl0,λj o d _ hS=>(by cases hS),λj _ _ hS=>(by cases hS),λd q hd _=>(ha.subL hlw).tm d q hd,λwr i d _ _ _ _ hS=>(by cases hS)⟩ (λS i o a w hi hun ho hb hI K hK=>?_) (λa w hI=>?_)
 ·obtain⟨u,Z,h1,h2,h3,h4,h5,h6⟩:=hI;refine⟨u,Z,?_,h2,λj o d hj hS'=>h3 j o d hj (by rw[hS j hj];exact hS'),λj hj hd hSj=>?_,λd q hd hw'=>h5 d q hd (λwr hwr hdw=>by rw[hS wr hwr];exact hw' wr hwr hdw),λwr i d hwr hi hdw hold hSw=>by rw[← hS i hi];exact h6 wr i d hwr hi hdw hold (by rw[hS wr hwr];exact hSw)⟩
  ·rw[← hS i0 b0];exact h1
  ·rw[← hS i0 b0];exact h4 j hj hd (by rw[hS j hj];exact hSj)
 ·exact hw.drawn _
 ·obtain⟨u,Z,h1,h2,h3,hx,ho5,ho6⟩:=hI;have hput:∀k u v,a.tmps[k]? =some u→o.dst≠some k→(a.put o.dst v).tmps[k]? =some u:=λk u v hk hne=>by
   cases hd:o.dst with
   | none=>simpa[Act.put] using hk
   | some d=>
    simp only[Act.put,Array.getElem?_setIfInBounds];rw[TE (λe=>hne (by rw[hd,e]))];exact hk
  have hagr:∀v Z',Fz.le Z Z'→BU n l0 (a.put o.dst v) Z':=λv Z' hz=>by
   refine⟨?_,?_,λk r hk=>?_⟩
   ·cases o.dst<;>simp[Act.put,h2.size]
   ·cases o.dst<;>simp[Act.put,h2.defers]
   ·obtain⟨u,hu,hpu⟩:=h2.tm k r hk;exact⟨u,hput k u v hu (λe=>((hdst i o k hi ho e).1).2 (H7 hk)),r.mono hz hpu⟩
  have hvals:∀(v:Value) (Z':Fz) (u':U),Fz.le Z Z'→(∀j,j<N→j≠i→S j=true→(DO sp j).r u'=(DO sp j).r u)→(o.dst≠none→((DO sp i).r u').p Z' v)→∀j o' d,j<N→(j ==i||S j)=true→ops[j]? =some o'→o'.dst=some d→∃q,(a.put o.dst v).tmps[d]? =some q∧((DO sp j).r u').p Z' q:=by
   intro v Z' u' hz hβ hp j o' d hj hS' ho' hd
   by_cases hji:j=i
   ·subst hji;rw[ho] at ho';simp at ho';subst ho';refine⟨v,?_,hp (by simp[hd])⟩;have hdn:d<a.tmps.size:=by rw[h2.size];exact(hdst j o d hi ho hd).1.1
    simp[Act.put,hd,hdn]
   ·have hSj:S j=true:=by simpa[hji] using hS'
    obtain⟨q,hu,hpu⟩:=h3 j o' d hj hSj ho' hd;refine⟨q,hput d q v hu (λe=>(hdst i o d hi ho e).2 j hj hji (by simp[BG,ho',hd])),?_⟩;rw[hβ j hj hji hSj];exact((DO sp j).r u).mono hz hpu
  have hat:=hob.at i o (by rw[hget i hi];exact ho);rw[TV] at hat;have hold':∀Z',Fz.le Z Z'→∀v d q,look lw d=some q→(∀wr,wr<N→BG ops wr=some d→(wr ==i||S wr)=false)→∃v',(a.put o.dst v).tmps[d]? =some v'∧q.p Z' v':=λZ' hz v d q hd hw'=>by
   obtain⟨v',e1,e2⟩:=ho5 d q hd (λwr hwr hdw=>by have:=hw' wr hwr hdw;simp only[Ua] at this;exact this.2);refine⟨v',hput d v' v e1 (λe=>?_),q.mono hz e2⟩;have:=hw' i hi (by simp[BG,ho,e]);simp at this
  have hord:∀wr k d,wr<N→k<N→BG ops wr=some d→d∈(DO sp k).old→(wr ==i||S wr)=true→(k ==i||S k)=true:=λwr k d hwr hk hdw hmem hSw=>by
   by_cases hwi:wr=i
   ·subst hwi;have h7:=b5 k hk d (by simpa[T5,Uc,hsa k hk] using hmem) wr hwr;simp only[TS,bne_iff_ne,ne_eq,hdw,not_true_eq_false,false_or] at h7;rw[T5,ho,TN,List.contains_iff_mem] at h7;simp[(hb k h7).2]
   ·have:S k=true:=ho6 wr k d hwr hk hdw hmem (by simpa[hwi] using hSw);simp[this]
  have hag':BU n (D8 lw (DO sp i).old (Bs ops (Ov sp u) (DO sp i).deps l0)) a Z:=Nr (HI h2 (λj hj d hd=>by
    obtain⟨h5,h6⟩:=b3 i hi j (by rw[hdep i hi];exact hj);rw[T5,ho,TN,List.contains_iff_mem] at h6;obtain⟨o2,ho2⟩:=hops j h5;obtain⟨v,hv1,hv2⟩:=h3 j o2 d h5 (hb j h6).2 ho2 (by simpa[BG,ho2] using hd);refine⟨v,hv1,?_⟩;rw[hspq u j h5];exact hv2)) (λd hd q hq=>ho5 d q hq (λwr hwr hdw=>by
     cases hS:S wr with
     | false=>rfl
     | true=>have:=ho6 wr i d hwr hi hdw hd hS;rw[this] at hun;cases hun))
  by_cases hi0:i=i0
  ·subst hi0;rw[TP rfl] at hat;rw[hun] at h1;have h1':St c H Z w:=by simpa using h1
   have key:=λK' hK'=>hat u a w Z K' hag' h1' hK';have h5:∀u' v w' Z',Fz.le Z Z'→((DO sp i).r u').p Z' v→St c (H1 u') Z' w'→K (a.put o.dst v) w':=λu' v w' Z' hz hpv hs'=>by
    refine hK _ _ ⟨u',Z',by simpa using hs',hagr v Z' hz,hvals v Z' u' hz (λj hj hji hSj=>?_) (λ_=>hpv),λj _ _ _=>by simp,hold' Z' hz v,hord⟩;refine hst.at (hsa j hj) ?_ u' u
    cases hd:(DO sp j).dyn with
    | false=>rfl
    | true=>have:=hx j hj hd hSj;rw[this] at hun;cases hun
   refine⟨λ_=>(key K h5).2,λhw'=>?_⟩;rw[(key K h5).1] at hw';cases hw'
  ·rw[TE hi0] at hat;refine hat u _ (by split;exact .inr rfl;exact .inl rfl) a w Z K hag' h1 (λv w' Z' hz hp hst'=>hK _ _ ⟨u,Z',?_,hagr v Z' hz,hvals v Z' u hz (λ_ _ _ _=>rfl) (λ_=>hp),λj hj hd hSj=>?_,hold' Z' hz v,hord⟩)
   ·have hiS:(i0 ==i||S i0)=S i0:=by
     have:(i0 ==i)=false:=by simpa using λe=>hi0 e.symm
     rw[this];rfl
    show St c (if (i0 ==i||S i0)=true then H1 u else H) Z' w';rw[hiS];exact hst'
   ·have hii:(i0 ==i)=false:=by simpa using λe=>hi0 e.symm
    show(i0 ==i||S i0)=true;rw[hii,TF]
    by_cases hji:j=i
    ·subst hji;have h7:=b4 j hj;rw[hdyn j hj,hd] at h7;simp only[TA,TF,TS,beq_iff_eq,hi0,false_or,List.any_eq_true,T6,T1] at h7;obtain⟨e,he,heN,h8⟩:=h7;rw[T5,ho,TN] at he;have hSe:=(hb e he).2;rcases h8 with h8 | h8
     ·subst h8;exact hSe
     ·rw[hdyn e heN] at h8;exact hx e heN h8 hSe
    ·exact hx j hj hd (by simpa[hji] using hSj)
 ·obtain⟨u,Z,h1,h2,h3,_,_,_⟩:=hI;have hsl:(S2 sp u).length=N:=by simp[S2,hsp]
  refine h u a w Z (KR h2 _ _ 0 (λt o s d ht hs hd=>?_)) (by simpa using h1);have htN:t<N:=by have:=(List.getElem?_eq_some_iff.1 hs).1;omega
  have hs':s = { deps:=(DO sp t).deps,r:=(DO sp t).r u }:=by
   simp only[S2,Uc,hsa t htN,Option.map_some,Option.some.injEq] at hs;exact hs.symm
  subst hs';rw[TV];exact h3 t o d htN rfl (by rw[← hget t htN];exact ht) hd
theorem Ry [Inhabited U]{id:Nat}{ops:List Oper}(N i0:Nat)(ks0 ksw:List Nat)(sp:List (Sx U))(H1:U→List Ent)(hob:GZ P n c ops.toArray Q ops sp l0 lw i0 H H1 0 (ops.take N))(h:∀u,WL P n c ops.toArray Q (ops.drop N) (I0 (λ_=>0) (ops.take N) (S2 sp u) 0 l0) (H1 u))
  (h0:Kp ks0 l l0:=by repeat (first | exact JC | (apply Ia;rfl) | (apply I7;rfl))) (hw:Kp ksw l lw:=by repeat (first | exact JC | (apply Ia;rfl) | (apply I7;rfl))) (hm:P.follows .mixedOrders=true:=by kernel_rfl) (hB:Tb n ops N i0 (Dj l0) (sp.map (·.deps)) (sp.map (·.dyn)) (sp.map (·.old))=true:=by kernel_rfl)
  (hsp:sp.length=N:=by rfl) (hst:J0 sp:=by repeat (first | exact SW | apply SY | apply SX)):WC P n c (.region id ops.toArray true) Q l H:=Qb N i0 sp hm hB h0.one hw.one hsp hst hob h
theorem S4 {all rest:List Oper}{d:Nat}{op:Op}{ty:TypeId}{pos:String}{af:Array Edge}{i:Nat}(hr:∀{u H},Bh P n c (D8 lw (DO sp i).old (Bs all (Ov sp u) (DO sp i).deps l0)) H { dst:=some d,op:=op,type:=ty,pos:=pos,after:=af,guard:=none } ((DO sp i).r u))(h:GZ P n c opsA Q all sp l0 lw i0 H H1 (i+1) rest)(hne:Nat.beq i i0=false:=by rfl) :
  GZ P n c opsA Q all sp l0 lw i0 H H1 i ({ dst:=some d,op:=op,type:=ty,pos:=pos,after:=af,guard:=none }::rest):=by
 refine⟨?_,h⟩;rw[TE (λe=>by subst e;simp at hne)];exact λu H _=>G4 hr
theorem Tu {all rest:List Oper}{o:Oper}{i:Nat}(hr:∀{u H},CE P n c opsA Q (D8 lw (DO sp i).old (Bs all (Ov sp u) (DO sp i).deps l0)) H o ((DO sp i).r u) H)(h:GZ P n c opsA Q all sp l0 lw i0 H H1 (i+1) rest)(hne:Nat.beq i i0=false:=by rfl):GZ P n c opsA Q all sp l0 lw i0 H H1 i (o::rest):=by
 refine⟨?_,h⟩;rw[TE (λe=>by subst e;simp at hne)];exact λu H _=>hr
theorem SN {all rest:List Oper}{o:Oper}{i:Nat}(hr:∀{u},CE P n c opsA Q (D8 lw (DO sp i).old (Bs all (Ov sp u) (DO sp i).deps l0)) H o ((DO sp i).r u) H)(hr1:∀{u},CE P n c opsA Q (D8 lw (DO sp i).old (Bs all (Ov sp u) (DO sp i).deps l0)) (H1 u) o ((DO sp i).r u) (H1 u))(h:GZ P n c opsA Q all sp l0 lw i0 H H1 (i+1) rest)(hne:Nat.beq i i0=false:=by rfl):GZ P n c opsA Q all sp l0 lw i0 H H1 i (o::rest):=by
 refine⟨?_,h⟩;rw[TE (λe=>by subst e;simp at hne)];intro u H' hH';rcases hH' with e | e
 ·subst e;exact hr
 ·subst e;exact hr1
theorem Ts {all rest:List Oper}{o:Oper}(hr:∀{u},SR P n c opsA Q (D8 lw (DO sp i0).old (Bs all (Ov sp u) (DO sp i0).deps l0)) H o (DO sp i0).r H1)(h:GZ P n c opsA Q all sp l0 lw i0 H H1 (i0+1) rest):GZ P n c opsA Q all sp l0 lw i0 H H1 i0 (o::rest):=by
 refine⟨?_,h⟩;rw[TP rfl];exact λu=>hr
theorem Tt {all:List Oper}{i:Nat}:GZ P n c opsA Q all sp l0 lw i0 H H1 i []:=trivial
end
section
variable {P : Program} {n : Nat} {c : Cx} {opsA : Array Oper} {Q : Exit → Act → World → Prop} {l : Fr} {H : List Ent} {d : Nat} {x y : Operand} {ty t e : TypeId} {pos : String} {af : Array Edge} {v : Value} {sz : Nat}
theorem O1 {α:Type}{xs ys:List α}{enc:α→List Rp}{i:Nat}{inf:TypeInfo}{z:Value}{bytes:Nat}(ht:P.underlying t=some (.slice e))(hinf:P.info? e=some inf)(hz:inf.zero=some z)(hsize:inf.size=sz)(hby:inf.bytes=bytes)(hzs:z.cells.size=sz)(hsz:Nat.blt 0 sz=true)(hbp:Nat.blt 0 bytes=true)
  (hx:ev l x=some (rv v)) (hi:H[i]? =some (.row v e sz (xs.map enc))) (hy:Ma P n c l H y sz ys.length (ys.map enc).flatten) (henc:∀z,(enc z).length=sz) (hone:∀z,(enc z).all (·.one)=true) (hg:Js bytes (xs.length+ys.length)=true) :
  SR P n c opsA Q l H { dst:=some d,op:=.call { callee:=.builtin .append,args:=#[x,y],argTypes:=#[t,t] },type:=ty,pos:=pos,after:=af,guard:=none } (λv'=>rv v') (λv'=>.row v' e sz ((xs++ys).map enc)::H.eraseIdx i):=λa w Z K ha hw hK=>by
  obtain⟨h0,us,h1,h2⟩:=hw.ent hi;obtain⟨ws,h3,h4⟩:=hy a w Z ha hw;have hsz':0<sz:=by simpa using hsz
  have hbp':0<bytes:=by simpa using hbp
  have hb:(xs.length+ys.length)*bytes≤140737488355328:=by simpa[Js] using hg
  have hle:xs.length+ys.length≤(xs.length+ys.length)*bytes:=Nat.le_mul_of_pos_right _ hbp';have hws:∀y∈ws,y.oneCell'=true:=AO.one (rs:=(ys.map enc).flatten) (by
   rw[TO];intro r hr;obtain⟨cl,hcl,hrc⟩:=List.mem_flatten.1 hr;obtain⟨z',_,rfl⟩:=List.mem_map.1 hcl;exact List.all_eq_true.1 (hone z') r hrc) h3
  have hxl:(xs.map enc).length=xs.length:=TB ..;rw[hxl] at h1;obtain⟨v',w',e1,e2,e3,e4⟩:=Eq (P:=P) ty ht hinf hz hsize hby hzs hsz' h1 h4 hws hb (by simp only[maxLen];omega);have hent:(Ent.row v' e sz ((xs++ys).map enc)).holds Z w':=⟨λcl hcl=>by obtain⟨z',_,rfl⟩:=List.mem_map.1 hcl;exact henc z',us++ws,by simpa using e2,by rw[Ur,List.flatten_append];exact h2.append h3⟩
  have hst:=hw.callF hi (St.one (e':=.row v' e sz ((xs++ys).map enc)) (M:=(Ent.row v e sz (xs.map enc)).foot) hw.frz hw.env hw.emono e3.os e3.tape e3.output e3.size (λk hk hne=>e3.block k hk (λe1=>hne (by simp[Ent.foot,← e1])))
   (hw.zdis _ (TC hi)) hent (λk hk=>by
    simp only[Ent.foot,Option.mem_toList] at hk ⊢;rcases e4 with e4 | e4
    ·exact .inl (e4▸hk)
    ·exact .inr (e4 k hk)))
  refine⟨by simp[Region.wanted],?_⟩;unfold Oper.wp;rw[show(execOp a.eval { dst:=some d,op:=.call { callee:=.builtin .append,args:=#[x,y],argTypes:=#[t,t] },type:=ty,pos:=pos,after:=af,guard:=none }).run P w = .ok (.value v') w' from by simp[execOp,resolve,invoke,builtin,ha.eval hx,e1]];exact hK v' v' w' Z (Fz.le.refl _) rfl hst
end
abbrev Ux:=Nat→Nat→Value×Nat
def Ag (k:Nat)(u u':Ux):Prop:=∀j,j<k→u j=u' j
def ux (u:Ux)(k:Nat)(f:List (Value×Nat)):Ux:=λj=>bif Nat.beq j k then λq=>f.getD q (undef,0) else u j
structure Sy where
 deps:List Nat
 r:Ux→Rp
 lv:Nat:=0
 fx:Bool:=false
 old:List Nat:=[]
def Ou (sp:List Sy)(i:Nat):Sy:=sp.getD i { deps:=[],r:=λ_=>rv undef }
def SU (sp:List Sy)(u:Ux):List Sp:=sp.map λs=>⟨s.deps,s.r u,0⟩
def Nt:List Sy→Prop
 | []=>True
 | s::r=>(∀u u',Ag s.lv u u'→s.r u=s.r u')∧Nt r
theorem Nt.at:∀{sp:List Sy},Nt sp→∀{i:Nat} {s:Sy},sp[i]? =some s→∀u u',Ag s.lv u u'→s.r u=s.r u'
 | [],_,i,s,h=>by simp at h
 | x::sp,⟨h1,h2⟩,0,s,h=>by simp at h;subst h;exact h1
 | x::sp,⟨h1,h2⟩,i+1,s,h=>Nt.at h2 (by simpa using h)
def cnt (S:Nat→Bool)(is:List Nat):Nat:=(is.filter S).length
section
variable (P : Program) (n : Nat) (c : Cx) (opsA : Array Oper) (Q : Exit → Act → World → Prop)
def Tw (l:Fr)(H:List Ent)(o:Oper)(k:Nat)(u:Ux)(r:Ux→Rp)(H1:Ux→List Ent):Prop:=
 ∀a w Z (K:Act→World→Prop),BU n l a Z→St c H Z w→(∀u' v w' Z',Ag k u u'→Fz.le Z Z'→(r u').p Z' v→St c (H1 u') Z' w'→K (a.put o.dst v) w')→
  Region.wanted o (yielded opsA a.tmps)=true∧o.wp P a w K Q
def Tr (ops:List Oper)(sp:List Sy)(l0 lw:Fr)(is:List Nat)(hs:List (Ux→List Ent))(i:Nat)(o:Oper):Prop:=
 match is.findIdx? (λx=>Nat.beq x i) with
 | some k=>∀u,Tw P n c opsA Q (D8 lw (Ou sp i).old (Bs ops (SU sp u) (Ou sp i).deps l0)) (hs.getD k (λ_=>[]) u) o k u (Ou sp i).r (hs.getD (k+1) (λ_=>[]))
 | none=>if (Ou sp i).fx=true then ∀u,CE P n c opsA Q (D8 lw (Ou sp i).old (Bs ops (SU sp u) (Ou sp i).deps l0)) (hs.getD (Ou sp i).lv (λ_=>[]) u) o ((Ou sp i).r u) (hs.getD (Ou sp i).lv (λ_=>[]) u)
  else ∀u k,k≤is.length→CE P n c opsA Q (D8 lw (Ou sp i).old (Bs ops (SU sp u) (Ou sp i).deps l0)) (hs.getD k (λ_=>[]) u) o ((Ou sp i).r u) (hs.getD k (λ_=>[]) u)
def Rh (ops:List Oper)(sp:List Sy)(l0 lw:Fr)(is:List Nat)(hs:List (Ux→List Ent)):Nat→List Oper→Prop
 | i,o::rest=>Tr P n c opsA Q ops sp l0 lw is hs i o∧Rh ops sp l0 lw is hs (i+1) rest
 | _,[]=>True
end
section
variable {P : Program} {n : Nat} {c : Cx} {opsA : Array Oper} {Q : Exit → Act → World → Prop} {l l0 lw : Fr} {H : List Ent} {hs : List (Ux → List Ent)} {sp : List Sy} {is : List Nat}
theorem Rh.at {ops:List Oper}:∀{k:Nat} {rest:List Oper},Rh P n c opsA Q ops sp l0 lw is hs k rest→∀(t:Nat) o,rest[t]? =some o→Tr P n c opsA Q ops sp l0 lw is hs (k+t) o
 | k,o::rest,⟨h1,h2⟩,t,o',ht=>by
  cases t with
  | zero=>simp at ht;subst ht;exact h1
  | succ t=>
   have:=Rh.at h2 t o' (by simpa using ht);rw[show k+(t+1)=k+1+t from by omega];exact this
 | _,[],_,t,o,h=>by simp at h
def Ri (p:List Ent→Prop)(u:Ux):List (Ux→List Ent)→Prop
 | []=>True
 | f::r=>p (f u)∧Ri p u r
theorem Ri.at {p:List Ent→Prop}{u:Ux}:∀{hs:List (Ux→List Ent)},Ri p u hs→∀k,k<hs.length→p (hs.getD k (λ_=>[]) u)
 | [],_,k,h=>absurd h (Nat.not_lt_zero _)
 | f::r,⟨h1,h2⟩,0,_=>h1
 | f::r,⟨h1,h2⟩,k+1,h=>Ri.at h2 k (by simpa using h)
end
section
variable {P : Program} {n : Nat} {c : Cx} {opsA : Array Oper} {Q : Exit → Act → World → Prop} {l : Fr} {H : List Ent} {d : Nat} {x y : Operand} {ty t e : TypeId} {pos : String} {af : Array Edge} {v : Value} {sz : Nat}
end
def Ki (k:Nat)(i:Int)(off:Nat)(Z:Fz)(v:Value):Prop:=if i<0 then v = .pointer none else ∃b,Z.nm k i.toNat=some b∧v = .pointer (some ⟨b,off,none⟩)
def B6 (k:Nat)(i:Int)(off:Nat):Rp:=⟨Ki k i off,fun {Z Z' v} h hp=>by
 unfold Ki at *
 split
 ·rename_i h0;rwa [TP h0] at hp
 ·rename_i h0;rw[TE h0] at hp;obtain⟨b,h1,h2⟩:=hp;exact⟨b,h.nm k _ b h1,h2⟩,true,λ_ Z v hp=>by
 change Ki k i off Z v at hp
 unfold Ki at hp
 split at hp
 ·rw[hp];rfl
 ·obtain⟨b,_,h2⟩:=hp;rw[h2];rfl⟩
@[reducible] def eP (k:Nat) (i:Int):List Rp:=[B6 k i 0]
theorem Gj (k:Nat)(i:Int):(eP k i).length=1:=rfl
theorem KG (k:Nat)(i:Int):(eP k i).all (·.one)=true:=rfl
@[reducible] def mP (k:Nat) (i:Int):Rp:=B6 k i 0
theorem S9 (k:Nat)(Z:Fz):(mP k (-1)).p Z (.pointer none):=rfl
theorem Iz.pnil (k:Nat):Iz (rv (.pointer none)) (B6 k (-1) 0):=λZ v h=>h
section
variable {P : Program} {n : Nat} {c : Cx} {ops : Array Oper} {Q : Exit → Act → World → Prop} {rest : List Oper} {l : Fr} {H H' : List Ent} {d : Nat} {d' : Option Nat} {x y : Operand} {ty t t' e : TypeId} {pos : String} {af : Array Edge} {g : Option (Nat × Bool)} {v u : Value} {r : Rp} {sz k : Nat} {pv : Value} {α : Type} [Inhabited α] {xs : List α} {enc : α → List Rp}
theorem IL {Z:Fz}{w:World}{j off:Nat}{i:Int}(hw:St c H Z w)(hi:H[j]? =some (.pool k pv e (xs.map enc)))(hg:C2 i (xs.length:Int)=true)(hp:(B6 k i off).p Z v) :
  ∃b us,v = .pointer (some ⟨b,off,none⟩)∧(Ch pv)[i.toNat]? =some b∧w.heap[b]? =some (.cells us.toArray e (0,0))∧AO Z (enc (Ac xs i)) us:=by
 obtain⟨h0,hl,h⟩:=hw.ent hi;have hi0:=(Bm hg).1;have hi1:i.toNat<xs.length:=by have:=(Bm hg).2;omega
 have hb:i.toNat<(Ch pv).length:=by rw[hl,TB];exact hi1
 obtain⟨h1,us,h2,h3⟩:=h i.toNat (Ch pv)[i.toNat] (enc xs[i.toNat]) (T3 hb) (by simp[hi1])
 change Ki k i off Z v at hp
 unfold Ki at hp;rw[TE (by omega)] at hp;obtain⟨b,h4,h5⟩:=hp;rw[h1] at h4;obtain rfl:=Option.some.inj h4;exact⟨_,us,h5,T3 hb,h2,by rw[show Ac xs i=xs[i.toNat] from by simp[Ac,hi1]];exact h3⟩
theorem BX {j off:Nat}{i:Int}(hag:∀w,(isAgg t).run P w = .ok false w)(hx:ev l x=some (B6 k i off))(hi:H[j]? =some (.pool k pv e (xs.map enc)))(hg:C2 i (xs.length:Int)=true)(hc:(enc (Ac xs i))[off]? =some r) :
  Bh P n c l H { dst:=d',op:=.load t x,type:=ty,pos:=pos,after:=af,guard:=g } r:=λa w Z ha hw=>by
 obtain⟨b,us,e1,_,h1,h2⟩:=IL hw hi hg (ha.ev hx);obtain⟨u,hu,hp⟩:=h2.at hc;have hcell:w.cell? ⟨b,off,none⟩=some u:=by rw[cell_of_row w b off _ e (0,0) h1];simpa using hu
 exact⟨u,hp,by simp[execOp,e1,Instr.loadAt,Instr.sureAddr,loadVar,hag,hcell]⟩
theorem HW {j off:Nat}{i:Int}{rs:List Rp}(hag:∀w,(isAgg t).run P w = .ok true w)(hsz:∀w,(sizeOf t).run P w = .ok sz w)(hx:ev l x=some (B6 k i off))(hi:H[j]? =some (.pool k pv e (xs.map enc)))(hg:C2 i (xs.length:Int)=true)
  (hr:((enc (Ac xs i)).drop off).take sz=rs) (hl:rs.length=sz):Bh P n c l H { dst:=d',op:=.load t x,type:=ty,pos:=pos,after:=af,guard:=g } (Bx rs):=λa w Z ha hw=>by
 obtain⟨b,us,e1,_,h1,h2⟩:=IL hw hi hg (ha.ev hx);have h3:=(h2.drop off).take sz;rw[hr] at h3;have hlen:=h3.length;have h4:=run_loadCells_list (P:=P) w ⟨b,off,none⟩ ((us.drop off).take sz) (λj u hj=>by
  rw[G6,cell_of_row w b _ _ e (0,0) h1];rw[Ud] at hj
  split at hj
  ·simpa using hj
  ·cases hj)
 rw[hlen,hl] at h4;exact⟨.agg ((us.drop off).take sz).toArray,⟨_,rfl,h3⟩,by simp[execOp,e1,Instr.loadAt,Instr.sureAddr,loadVar,hag,hsz,h4]⟩
theorem Bb {off:Nat}{i:Int}(hx:ev l x=some (B6 k i off))(hg:decide (0≤i)=true):Bh P n c l H { dst:=d',op:=.nilCheck x,type:=ty,pos:=pos,after:=af,guard:=g } (B6 k i off):=λa w Z ha hw=>by
 have h:=ha.ev hx;have h':=h
 change Ki k i off Z _ at h
 unfold Ki at h;rw[TE (by have:=Uk hg;omega)] at h;obtain⟨b,_,e1⟩:=h;exact⟨a.eval x,h',by simp[execOp,e1]⟩
theorem BF {off off' i:Nat}{q:Int}{fs:Array Field}{f:Field}(hu:P.underlying t=some (.struct fs))(hf:fs[i]? =some f)(hsz:∀w,(sizeOf f.type).run P w = .ok (sz+1) w)
  (hx:ev l x=some (B6 k q off)) (hg:decide (0≤q)=true) (ho:off+f.offset=off'):Bh P n c l H { dst:=d',op:=.fieldAddr t x i,type:=ty,pos:=pos,after:=af,guard:=g } (B6 k q off'):=λa w Z ha hw=>by
 have h:=ha.ev hx
 change Ki k q off Z _ at h
 unfold Ki at h;have h0:=Uk hg;rw[TE (by omega)] at h;obtain⟨b,h1,e1⟩:=h;subst ho;refine⟨.pointer (some ⟨b,off+f.offset,none⟩),?_,by simp[execOp,e1,Instr.fieldAt,run_underlying hu,hf,Instr.sureAddr,fieldPlace,hsz,G6]⟩;show Ki k q (off+f.offset) Z _;unfold Ki;rw[TE (by omega)];exact⟨b,h1,rfl⟩
theorem St.poolset {β:Type}{xs:List β}{enc:β→List Rp}{Z:Fz}{w:World}{j b:Nat}{i:Int}{us us':List Value}{y':β}(hw:St c H Z w)(hi:H[j]? =some (.pool k pv e (xs.map enc)))(hb:(Ch pv)[i.toNat]? =some b)(h1:w.heap[b]? =some (.cells us.toArray e (0,0)))(h2:AO Z (enc y') us') :
  St c (H.set j (.pool k pv e ((xs.set i.toNat y').map enc))) Z (w.setRow b us'.toArray):=by
 obtain⟨h0,hl,h⟩:=hw.ent hi;have hbl:=(List.getElem?_eq_some_iff.1 hb).1;refine hw.setp hi rfl rfl rfl (by simp[World.setRow]) (λq _ hq=>?_) ⟨h0,by simpa using hl,λi' b' cs h3 h4=>?_⟩ (λq hq=>.inl hq) rfl rfl
 ·have:q≠b:=λe=>hq (by subst e;exact TC hb);simp only[World.setRow,Array.getElem?_modify];rw[TE (λe=>this e.symm)]
 ·rw[List.map_set,List.getElem?_set] at h4
  split at h4
  ·rename_i hii
   subst hii
   split at h4
   ·rw[hb] at h3;obtain rfl:=Option.some.inj h3;obtain rfl:=Option.some.inj h4;obtain⟨g1,_⟩:=h i.toNat b _ hb (T3 (by omega));exact⟨g1,us',setRow_heap w b _ _ e (0,0) h1,h2⟩
   ·cases h4
  ·rename_i hii
   obtain⟨g1,vs,g2,g3⟩:=h i' b' cs h3 h4;have hne:b'≠b:=λe=>hii (by
    subst e;have e1:=(List.getElem?_eq_some_iff.1 h3)
    have e2:=(List.getElem?_eq_some_iff.1 hb)
    exact(List.getElem_inj h0).1 (e2.2.trans e1.2.symm))
   refine⟨g1,vs,?_,g3⟩;simp only[World.setRow,Array.getElem?_modify];rw[TE (λe=>hne e.symm)];exact g2
theorem Iy {j off:Nat}{i:Int}{y':α}(hag:∀w,(sizeOf t).run P w = .ok 1 w)(hx:ev l x=some (B6 k i off))(hy:ev l y=some r)(hv:KU H r)(hi:H[j]? =some (.pool k pv e (xs.map enc)))(hg:C2 i (xs.length:Int)=true)
  (hy':(enc (Ac xs i)).set off r=enc y') (hlt:Nat.blt off (enc (Ac xs i)).length=true) (hH:H.set j (.pool k pv e ((xs.set i.toNat y').map enc))=H') :
  Rf P n c l H { dst:=none,op:=.store t x y,type:=ty,pos:=pos,after:=af,guard:=none } H':=λa w Z ha hw=>by
  obtain⟨b,us,e1,hb,h1,h2⟩:=IL hw hi hg (ha.ev hx);have hr:=ha.ev hy;have hone:=hv c Z w _ hw hr;have hlen:=h2.length;have hlt':off<us.length:=by rw[hlen];simpa using hlt
  have h4:=run_storeCells_at P b off e [a.eval y] 0 us.toArray w h1 (by simp;omega) (by simpa using hone);have hcv:=Bt hone;have h3:us.take off++[a.eval y]++us.drop (off+1)=us.set off (a.eval y):=by
   simp[List.set_eq_take_append_cons_drop,hlt']
  simp only[Nat.add_zero,T9,Ui,TV] at h4;rw[h3] at h4;refine⟨w.setRow b (us.set off (a.eval y)).toArray,?_,?_⟩
  ·simp[execOp,e1,Instr.storeAt,Instr.sureAddr,storeVar,hag,hcv,h4]
  ·subst hH;exact hw.poolset hi hb h1 (by rw[← hy'];exact h2.set off hr)
theorem Gr {j off:Nat}{i:Int}{y':α}(hag:∀w,(sizeOf t).run P w = .ok 1 w)(hx:ev l x=some (B6 k i off))(hy:ev l y=some r)(hv:KU H r)(hi:H[j]? =some (.pool k pv e (xs.map enc)))(hg:C2 i (xs.length:Int)=true)
  (hy':(enc (Ac xs i)).set off r=enc y') (hlt:Nat.blt off (enc (Ac xs i)).length=true) (hH:H.set j (.pool k pv e ((xs.set i.toNat y').map enc))=H') (h:WL P n c ops Q rest l H') :
  WL P n c ops Q ({ dst:=none,op:=.store t x y,type:=ty,pos:=pos,after:=af,guard:=none }::rest) l H:=
 Kk λa w Z ha hw=>by
  obtain⟨b,us,e1,hb,h1,h2⟩:=IL hw hi hg (ha.ev hx);have hr:=ha.ev hy;have hone:=hv c Z w _ hw hr;have hlen:=h2.length;have hlt':off<us.length:=by rw[hlen];simpa using hlt
  have h4:=run_storeCells_at P b off e [a.eval y] 0 us.toArray w h1 (by simp;omega) (by simpa using hone);have hcv:=Bt hone;have h3:us.take off++[a.eval y]++us.drop (off+1)=us.set off (a.eval y):=by
   simp[List.set_eq_take_append_cons_drop,hlt']
  simp only[Nat.add_zero,T9,Ui,TV] at h4;rw[h3] at h4;refine⟨w.setRow b (us.set off (a.eval y)).toArray,H',?_,?_,h⟩
  ·simp[execOp,e1,Instr.storeAt,Instr.sureAddr,storeVar,hag,hcv,h4]
  ·subst hH;exact hw.poolset hi hb h1 (by rw[← hy'];exact h2.set off hr)
theorem St.adopt0 {Z:Fz}{w:World}{b:Nat}{cs:List Rp}{ys:List (List Rp)}{Hr:List Ent}{pv':Value}(h:St c (.blk b cs e::.pool k pv e ys::Hr) Z w)(hpv:Ch pv'=Ch pv++[b]):∃Z',Fz.le Z Z'∧Z'.nm k ys.length=some b∧St c (.pool k pv' e (ys++[cs])::Hr) Z' w:=by
 obtain⟨us,hb1,hb2⟩:=h.has (.blk b cs e) (by simp);obtain⟨h0,hl,hp⟩:=h.has (.pool k pv e ys) (by simp);have hd:=List.pairwise_cons.1 h.dis;have hd2:=List.pairwise_cons.1 hd.2;have gd:=List.pairwise_cons.1 h.gst.dis;have gd2:=List.pairwise_cons.1 gd.2;have hcap:=h.gst.cap (.pool k pv e ys) (by simp) k (by simp[Ent.gk]);have hksz:=h.gst.sz (.pool k pv e ys) (by simp) k (by simp[Ent.gk]);have hkown:=h.gst.own (.pool k pv e ys) (by simp) k (by simp[Ent.gk])
 let Z':Fz:=⟨Z.f,λq i=>if q=k∧i=ys.length then some b else Z.nm q i⟩
 have hnew:Z'.nm k ys.length=some b:=by simp[Z']
 have hle:Fz.le Z Z':=⟨λ_ _ h=>h,λq i b' hq=>by
  by_cases hqi:q=k∧i=ys.length
  ·obtain⟨rfl,rfl⟩:=hqi;rw[hcap _ (by simp[Ent.gn,hl])] at hq;cases hq
  ·simpa[Z',hqi] using hq⟩
 have hbn:b ∉ Ch pv:=λhbs=>hd.1 (.pool k pv e ys) (by simp) b (by simp[Ent.foot]) hbs;refine⟨Z',hle,hnew,h.os,h.tape,h.output,h.size,h.old,λen he=>?_,λen he q hq=>?_,?_,⟨λb o hb=>h.frz.f b o hb,λq i b' hq=>?_⟩,h.le.trans hle,λb o hb=>h.new b o hb,λen he q hq=>?_,h.emono hle h.env,h.emono,⟨λen he q hq=>?_,λen he q hq=>?_,?_,λq i b' hq=>?_,λen he q hq i hi=>?_⟩⟩
 ·rcases List.mem_cons.1 he with rfl | he
  ·refine⟨by rw[hpv];exact List.nodup_append.2 ⟨h0,by simp,λx hx y hy e=>by simp at hy;subst hy;exact hbn (e▸hx)⟩,by rw[hpv];simp[hl],λi b' cs' h1 h2=>?_⟩
   ·rw[hpv] at h1
    by_cases hi:i<(Ch pv).length
    ·rw[Uj hi] at h1;rw[Uj (by omega)] at h2;obtain⟨g1,vs,g2,g3⟩:=hp i b' cs' h1 h2;exact⟨hle.nm k i b' g1,vs,g2,g3.mono hle⟩
    ·have hi2:i=(Ch pv).length:=by have:=(List.getElem?_eq_some_iff.1 h1).1;simp at this;omega
     subst hi2;simp at h1;subst h1;rw[hl] at h2;simp at h2;subst h2;exact⟨by rw[hl];exact hnew,us,hb1,hb2.mono hle⟩
  ·exact Ent.keep (h.has en (by simp[he])) hle λ_ _=>rfl
 ·rcases List.mem_cons.1 he with rfl | he
  ·rcases List.mem_append.1 (hpv▸(show q∈Ch pv' from hq)) with hq | hq
   ·exact h.own (.pool k pv e ys) (by simp) q hq
   ·simp at hq;subst hq;exact h.own (.blk q cs e) (by simp) q (by simp[Ent.foot])
  ·exact h.own en (by simp[he]) q hq
 ·refine List.pairwise_cons.2 ⟨λen he q hq hq'=>?_,hd2.2⟩;rcases List.mem_append.1 (hpv▸(show q∈Ch pv' from hq)) with hq | hq
  ·exact hd2.1 en he q hq hq'
  ·simp at hq;subst hq;exact hd.1 en (by simp[he]) q (by simp[Ent.foot]) hq'
 ·by_cases hqi:q=k∧i=ys.length
  ·rw[hqi.1];exact hksz
  ·exact h.frz.nm q i b' (by simpa[Z',hqi] using hq)
 ·rcases List.mem_cons.1 he with rfl | he
  ·rcases List.mem_append.1 (hpv▸(show q∈Ch pv' from hq)) with hq | hq
   ·exact h.zdis (.pool k pv e ys) (by simp) q hq
   ·simp at hq;subst hq;exact h.zdis (.blk q cs e) (by simp) q (by simp[Ent.foot])
  ·exact h.zdis en (by simp[he]) q hq
 ·rcases List.mem_cons.1 he with rfl | he
  ·simp[Ent.gk] at hq;subst hq;exact hkown
  ·exact h.gst.own en (by simp[he]) q hq
 ·rcases List.mem_cons.1 he with rfl | he
  ·simp[Ent.gk] at hq;subst hq;exact hksz
  ·exact h.gst.sz en (by simp[he]) q hq
 ·exact List.pairwise_cons.2 ⟨λen he q hq hq'=>gd2.1 en he q hq hq',gd2.2⟩
 ·by_cases hqi:q=k∧i=ys.length
  ·rw[hqi.1];exact .inr hkown
  ·exact h.gst.new q i b' (by simpa[Z',hqi] using hq)
 ·rcases List.mem_cons.1 he with rfl | he
  ·simp[Ent.gk] at hq;subst hq;simp[Ent.gn,hpv] at hi;have : ¬ i=ys.length:=by omega
   simp only[Z',this,and_false,Ug];exact hcap i (by simp[Ent.gn];omega)
  ·have hqk:q≠k:=λe1=>gd2.1 en he k (by simp[Ent.gk]) (e1▸hq);simp only[Z',hqk,false_and,Ug];exact h.gst.cap en (by simp[he]) q hq i hi
theorem St.adopt {Z:Fz}{w:World}{b:Nat}{cs:List Rp}{ys:List (List Rp)}{Hr:List Ent}(h:St c (.blk b cs e::.pool k pv e ys::Hr) Z w):∃Z',Fz.le Z Z'∧Z'.nm k ys.length=some b∧St c (.pool k (RG (Ch pv++[b])) e (ys++[cs])::Hr) Z' w:=St.adopt0 h (QX _)
theorem Ki.of {Z:Fz}{b N:Nat}(h:Z.nm k N=some b):∀v,(rv (.pointer (some ⟨b,0,none⟩))).p Z v→(B6 k (N:Int) 0).p Z v:=λv hv=>by
 show Ki k N 0 Z v;unfold Ki;rw[TE (by omega)];exact⟨b,by simpa using h,hv⟩
def PO (l:Fr)(b:Nat):List Nat→Prop
 | []=>True
 | d::ds=>look l d=some (rv (.pointer (some ⟨b,0,none⟩)))∧PO l b ds
def Ss (k N:Nat):List Nat→Fr→Fr
 | [],l=>l
 | d::ds,l=>(d,B6 k (N:Int) 0)::Ss k N ds l
theorem KP {Z:Fz}{a:Act}{b N:Nat}{l:Fr}(ha:BU n l a Z)(hn:Z.nm k N=some b):∀{ds:List Nat},PO l b ds→BU n (Ss k N ds l) a Z
 | [],_=>ha
 | d::ds,⟨h1,h2⟩=>by
  have h3:=KP ha hn h2;refine⟨h3.size,h3.defers,λi u hi=>?_⟩;rw[Ss,B4] at hi
  split at hi
  ·rename_i e;subst e;simp at hi;subst hi
   obtain⟨v,h4,h5⟩:=ha.tm d _ h1;exact⟨v,h4,Ki.of hn v h5⟩
  ·exact h3.tm i u hi
theorem St.adoptE {β:Type}{xs:List β}{enc:β→List Rp}{Z:Fz}{w:World}{b:Nat}{y:β}{Hr:List Ent}{cs:List Rp}(hw:St c H Z w)(hp:H.Perm (.blk b cs e::.pool k pv e (xs.map enc)::Hr))(hcs:cs=enc y) :
  ∃Z' pv',Fz.le Z Z'∧Z'.nm k xs.length=some b∧St c (.pool k pv' e ((xs++[y]).map enc)::Hr) Z' w:=by
 obtain⟨Z',h1,h2,h3⟩:=(hw.perm hp).adopt;subst hcs;rw[TB] at h2;exact⟨Z',_,h1,h2,by rw[Ur];exact h3⟩
theorem WL.adopt {β:Type}{xs:List β}{enc:β→List Rp}{b:Nat}{y:β}{Hr:List Ent}{cs:List Rp}(hp:H.Perm (.blk b cs e::.pool k pv e (xs.map enc)::Hr))(ds:List Nat)(hd:PO l b ds)(hcs:cs=enc y)
  (h:∀pv',WL P n c ops Q rest (Ss k xs.length ds l) (.pool k pv' e ((xs++[y]).map enc)::Hr)):WL P n c ops Q rest l H:=λa w Z ha hw=>by
 obtain⟨Z',pv',h1,h2,h3⟩:=St.adoptE hw hp hcs;exact h pv' a w Z' (KP (ha.mono h1) h2 hd) h3
theorem WC.adopt {β:Type}{xs:List β}{enc:β→List Rp}{b:Nat}{y:β}{Hr:List Ent}{cs:List Rp}{xx:Code}(hp:H.Perm (.blk b cs e::.pool k pv e (xs.map enc)::Hr))(ds:List Nat)(hd:PO l b ds)(hcs:cs=enc y)
  (h:∀pv',WC P n c xx Q (Ss k xs.length ds l) (.pool k pv' e ((xs++[y]).map enc)::Hr)):WC P n c xx Q l H:=λa w Z ha hw=>by
 obtain⟨Z',pv',h1,h2,h3⟩:=St.adoptE hw hp hcs;exact h pv' a w Z' (KP (ha.mono h1) h2 hd) h3
theorem WK.adopt {β:Type}{xs:List β}{enc:β→List Rp}{b:Nat}{y:β}{Hr:List Ent}{cs:List Rp}{K:Act→World→Prop}(hp:H.Perm (.blk b cs e::.pool k pv e (xs.map enc)::Hr))(ds:List Nat)(hd:PO l b ds)(hcs:cs=enc y)
  (h:∀pv',WK n c K (Ss k xs.length ds l) (.pool k pv' e ((xs++[y]).map enc)::Hr)):WK n c K l H:=λa w Z ha hw=>by
 obtain⟨Z',pv',h1,h2,h3⟩:=St.adoptE hw hp hcs;exact h pv' a w Z' (KP (ha.mono h1) h2 hd) h3
theorem Gk:Ch (.tuple #[])=[]:=rfl
theorem EP (hn:Nat.blt d n=true)(h:∀b,WL P n c ops Q rest ((d,rv (.map (some b)))::l) (.pool b (.tuple #[]) e []::.map b []::H)) :
  WL P n c ops Q ({ dst:=some d,op:=.makeMap t none,type:=ty,pos:=pos,after:=af,guard:=none }::rest) l H:=
 GM (λa w Z ha hw=>by
  have h1:=hw.alloc (.map #[] 0) (e:=.map w.heap.size []) ⟨#[],0,by simpa using heap_alloc_new w _,by simp,by simp,by simp,[],T2 _,trivial⟩ rfl;refine⟨_,w.alloc (.map #[] 0),_,_,Z,by simp[execOp,run_makeMap],Fz.le.refl _,rfl,?_,h w.heap.size⟩;have hz:∀i,Z.nm w.heap.size i=none:=λi=>by
   cases hq:Z.nm w.heap.size i with
   | none=>rfl
   | some b=>have:=hw.frz.nm _ _ _ hq;omega
  have hold:∀en∈(Ent.map w.heap.size []::H),∀q∈en.gk,q<w.heap.size:=λen he q hq=>by
   rcases List.mem_cons.1 he with rfl | he
   ·simp[Ent.gk] at hq
   ·exact hw.gst.sz en he q hq
  refine { h1 with has:=λen he=>?_,own:=λen he q hq=>?_,dis:=List.pairwise_cons.2 ⟨λen he q hq=>by simp[Ent.foot,Gk] at hq,h1.dis⟩,zdis:=λen he q hq=>?_,gst:=⟨λen he q hq=>?_,λen he q hq=>?_,List.pairwise_cons.2 ⟨λen he q hq hq'=>?_,h1.gst.dis⟩,h1.gst.new,λen he q hq i hi=>?_⟩ }
  ·rcases List.mem_cons.1 he with rfl | he
   ·exact⟨by simp[Gk],by simp[Gk],by simp⟩
   ·exact h1.has en he
  ·rcases List.mem_cons.1 he with rfl | he
   ·simp[Ent.foot,Gk] at hq
   ·exact h1.own en he q hq
  ·rcases List.mem_cons.1 he with rfl | he
   ·simp[Ent.foot,Gk] at hq
   ·exact h1.zdis en he q hq
  ·rcases List.mem_cons.1 he with rfl | he
   ·simp[Ent.gk] at hq;subst hq;exact .inl hw.size
   ·exact h1.gst.own en he q hq
  ·rcases List.mem_cons.1 he with rfl | he
   ·simp[Ent.gk] at hq;subst hq;simp
   ·exact h1.gst.sz en he q hq
  ·simp[Ent.gk] at hq;subst hq;have:=hold en he _ hq';omega
  ·rcases List.mem_cons.1 he with rfl | he
   ·simp[Ent.gk] at hq;subst hq;exact hz i
   ·exact h1.gst.cap en he q hq i hi) hn
end
set_option maxRecDepth 100000
set_option maxHeartbeats 4000000
@[reducible] def Af (x:Av):List Rp:=[rS x.fID,rS x.fTenant,rS x.fSource,rS x.fKey,rI .i64 x.fAt,rS x.fCause,BO 4 (List.map Ap x.fBody)]
theorem Gi (x:Av):(Af x).length=7:=rfl
theorem Jt (x:Av):(Af x).all (·.one)=true:=rfl
@[reducible] def Ae (x:Ab):List Rp:=[rS x.fEvent.fID,rS x.fEvent.fTenant,rS x.fEvent.fSource,rS x.fEvent.fKey,rI .i64 x.fEvent.fAt,rS x.fEvent.fCause,BO 4 (List.map Ap x.fEvent.fBody),rI .i64 x.fAt,rI .i64 x.fReceives,rB x.fHeld,rI .i64 x.fPlace]
theorem RP:∃inf,Tryz.prog.info? 95=some inf∧inf.zero=some (.agg #[(.int .i64 0),(.int .i64 0),(.string ⟨#[]⟩),(.int .i64 0)])∧inf.size=4∧inf.bytes=40:=by
  have key:(Tryz.prog.info? 95).map (λi=>(i.zero,i.size,i.bytes))=some (some (.agg #[(.int .i64 0),(.int .i64 0),(.string ⟨#[]⟩),(.int .i64 0)]),4,40):=by kernel_rfl
  obtain⟨inf,h1,h2⟩:=Option.map_eq_some_iff.1 key;simp only[Prod.mk.injEq] at h2;exact⟨inf,h1,h2.1,h2.2.1,h2.2.2⟩
theorem PC (ys:(List Am))(r:(List Am))(h:KK ys=some r):Fn Tryz.prog GE 66 [BO 4 (List.map Ap ys)] [] (λR H=>R=BO 4 (List.map Ap r)∧H=[]):=by
 refine enter (n:=8) Tryz.func66 Aa Tryz.ntmps66 Aa (λw Z=>?_);refine Bk (l':=[(0,BO 4 (List.map Ap ys))]) (H':=[]) Aa Aa ?_;unfold KK at h;refine Au (wv (r:=rv (.slice none 0 0)) (Aj Aa) (A5 (Ay (Au (wm Aa (wv (NO I2 Aa) (A5 (O6 Aa (λc1=>?_) (λc1=>?_)))))))))
 ·have e2:ys=[]:=List.map_eq_nil_iff.1 (c1 rfl);have h3:some ([]:List Am)=some r:=by rw[e2] at h;exact(AG h).2
  refine Au (wv (r:=rv (.slice none 0 0)) (Aj Aa) (A5 (A4 (Aq (WK.up (d:=2) (r:=BO 4 (List.map Ap ([]:List Am))) Aa (Up.le (Iz.nil _)) ?_)))));obtain rfl:=AC h3;exact A6 (BZ Tryz.results66 (AX Aa)) sN ⟨Aa,Aa⟩
 ·refine AA (Bi (Au (Cd (ys:=([]:List Am)) (enc:=Ap) (css:=[]) (xs:=[]) I2 KZ Rv Aa Aa Aa trivial Aa Dy Aa Aa Aa (λb4=>?_))));refine wm Aa ?_;obtain⟨g6,h7⟩:=AG h;obtain⟨inf,hinf⟩:=RP;refine D0 (xs:=([]:List Am)) (ys:=ys) (enc:=Ap) (i:=0) I2 hinf.1 hinf.2.1 hinf.2.2.1 hinf.2.2.2 Aa Aa Aa Aa Aa (Ma.z Aa Aa) Dy JE g6 Aa (λv5=>?_);refine wa Aa (A5 (A4 (WK.freeze (i:=0) Aa (WK.up (d:=2) (r:=BO 4 (List.map Ap (([]:List Am)++ys))) Aa (Up.fact (i:=0) Aa) ?_))));obtain rfl:=AC h7;exact A6 (BZ Tryz.results66 (AX Aa)) (sS sN) ⟨Aa,Aa⟩
theorem P7 (F:Nat)(e:Av)(r:Int)(h:Id F e=some r):Fn Tryz.prog GE 58 [Bx (Af e)] [] (λR H=>R=rI .i64 r∧H=[]):=by
 refine enter (n:=52) Tryz.func58 Aa Tryz.ntmps58 Aa (λw Z=>?_);refine Bk (l':=[(0,Bx (Af e))]) (H':=[]) Aa Aa ?_;unfold Id at h;refine Au (BK Aa Aa (λb1=>?_));refine wv (r:=rI .i64 0) (Aj Aa) (A5 (Ay (A7 [(1,rv (.pointer (some ⟨b1,0,none⟩))),(40,rB ((!(Eb e.fID))||((!(Eb e.fTenant))||((!(Eb e.fSource))||(bif !decide (e.fKey=([]:A9)) then((!(Eb e.fKey))||((!decide (e.fCause=([]:A9)))&&(!(Eb e.fCause)))) else((!decide (e.fCause=([]:A9)))&&(!(Eb e.fCause))))))))] [.blk b1 (Af e) 33] ?_ ?_)))
 ·refine An (wv (Ai Dn Aa En Aa Aa) (wv (Ax (i:=0) Eo Aa Aa Aa) (CN (rs:=[rS e.fID]) (r:=rB (Eb e.fID)) N1 Aa (Oa e.fID) Aa Aa (wv (C8 Aa) (wm Aa (AE (!(Eb e.fID)) (λc2=>?_) (λc2=>?_)))))))
  ·refine wf c2 (wf c2 (wf c2 (wf c2 (wv (r:=rB true) (Ar (b:=!(Eb e.fID)) Aa c2 Aa) (wm Aa (Ak (b:=true) Aa Aa Aa Aa (Ak (b:=true) Aa Aa Aa Aa (Ak (b:=true) Aa Aa Aa Aa (Ak (b:=true) Aa Aa Aa Aa (wv (r:=rB true) (Ar (b:=true) Aa Aa Aa) (wm Aa (Ak (b:=true) Aa Aa Aa Aa (Ak (b:=true) Aa Aa Aa Aa (Ak (b:=true) Aa Aa Aa Aa (Ak (b:=true) Aa Aa Aa Aa (wu (wu (wu (wu (Ak (b:=true) Aa Aa Aa Aa (wv (r:=rB true) (Ar (b:=true) Aa Aa Aa) (wm Aa (Ak (b:=true) Aa Aa Aa Aa ?_)))))))))))))))))))))));refine Ak (b:=true) Aa Aa Aa Aa (Ak (b:=true) Aa Aa Aa Aa (Ak (b:=true) Aa Aa Aa Aa (wu (wu (wu (wu (Ak (b:=true) Aa Aa Aa Aa (wv (r:=rB true) (Ar (b:=true) Aa Aa Aa) (Ao ?_)))))))));exact BA c2
  ·refine wo c2 (wv (Ai Dn Aa En Aa Aa) (wo c2 (wv (Ax (i:=0) Eo Aa Aa Aa) (wo c2 (CN (rs:=[rS e.fTenant]) (r:=rB (Eb e.fTenant)) N1 Aa (Oa e.fTenant) Aa Aa (wo c2 (wv (C8 Aa) (EK Aa c2 Aa (wm Aa (AE (!(Eb e.fTenant)) (λc3=>?_) (λc3=>?_)))))))))))
   ·refine wf c3 (wf c3 (wf c3 (wf c3 (wv (r:=rB true) (Ar (b:=!(Eb e.fTenant)) Aa c3 Aa) (wm Aa (Ak (b:=true) Aa Aa Aa Aa (Ak (b:=true) Aa Aa Aa Aa (Ak (b:=true) Aa Aa Aa Aa (Ak (b:=true) Aa Aa Aa Aa (wu (wu (wu (wu (Ak (b:=true) Aa Aa Aa Aa (wv (r:=rB true) (Ar (b:=true) Aa Aa Aa) (wm Aa (Ak (b:=true) Aa Aa Aa Aa (Ak (b:=true) Aa Aa Aa Aa (Ak (b:=true) Aa Aa Aa Aa (Ak (b:=true) Aa Aa Aa Aa (wu (wu (wu ?_)))))))))))))))))))))));refine wu (Ak (b:=true) Aa Aa Aa Aa (wv (r:=rB true) (Ar (b:=true) Aa Aa Aa) (Ao ?_)));exact BA (And.intro c2 c3)
   ·refine wo c3 (wv (Ai Dn Aa En Aa Aa) (wo c3 (wv (Ax (i:=0) Eo Aa Aa Aa) (wo c3 (CN (rs:=[rS e.fSource]) (r:=rB (Eb e.fSource)) N1 Aa (Oa e.fSource) Aa Aa (wo c3 (wv (C8 Aa) (EK Aa c3 Aa (wm Aa (AE (!(Eb e.fSource)) (λc4=>?_) (λc4=>?_)))))))))))
    ·refine wf c4 (wf c4 (wf c4 (wf c4 (wu (wu (wu (wu (wf c4 (wv (r:=rB true) (Ar (b:=!(Eb e.fSource)) Aa c4 Aa) (wm Aa (Ak (b:=true) Aa Aa Aa Aa (Ak (b:=true) Aa Aa Aa Aa (Ak (b:=true) Aa Aa Aa Aa (Ak (b:=true) Aa Aa Aa Aa (wu (wu (wu (wu (Ak (b:=true) Aa Aa Aa Aa (wv (r:=rB true) (Ar (b:=true) Aa Aa Aa) (Ao ?_)))))))))))))))))))));exact BA (And.intro c2 (And.intro c3 c4))
    ·refine wo c4 (wv (Ai Dn Aa En Aa Aa) (wo c4 (wv (Ax (i:=0) Eo Aa Aa Aa) (wo c4 (wv (L4 Aa Aa) (wo c4 (wm Aa (AE (!decide (e.fKey=([]:A9))) (λc5=>?_) (λc5=>?_)))))))))
     ·refine wo c5 (wv (Ai Dn Aa En Aa Aa) (wo c5 (wv (Ax (i:=0) Eo Aa Aa Aa) (wo c5 (CN (rs:=[rS e.fKey]) (r:=rB (Eb e.fKey)) N1 Aa (Oa e.fKey) Aa Aa (wo c5 (wv (C8 Aa) (wo c4 (DB Aa c5 Aa (EK Aa c4 Aa (wm Aa (AE (!(Eb e.fKey)) (λc6=>?_) (λc6=>?_)))))))))))))
      ·refine wf c6 (wf c6 (wf c6 (wf c6 (wu (wu (wu (wu (wf c6 (wv (r:=rB true) (Ar (b:=!(Eb e.fKey)) Aa c6 Aa) (Ao ?_))))))))));exact BA (And.intro c2 (And.intro c3 (And.intro c4 (And.intro c5 c6))))
      ·refine wo c6 (wv (Ai Dn Aa En Aa Aa) (wo c6 (wv (Ax (i:=0) Eo Aa Aa Aa) (wo c6 (wv (L4 Aa Aa) (wo c6 (wm Aa (AE (!decide (e.fCause=([]:A9))) (λc7=>?_) (λc7=>?_)))))))))
       ·refine wo c7 (wv (Ai Dn Aa En Aa Aa) (wo c7 (wv (Ax (i:=0) Eo Aa Aa Aa) (wo c7 (CN (rs:=[rS e.fCause]) (r:=rB (Eb e.fCause)) N1 Aa (Oa e.fCause) Aa Aa (wo c7 (wv (C8 Aa) (wo c6 (DB Aa c7 Aa (EK Aa c6 Aa (Ao ?_)))))))))));exact BA (And.intro c2 (And.intro c3 (And.intro c4 (And.intro c5 (And.intro c6 c7)))))
       ·refine wf c7 (wf c7 (wf c7 (wf c7 (wo c6 (wv (r:=rB false) (A1 (b:=!decide (e.fCause=([]:A9))) Aa c7 Aa) (EK Aa c6 Aa (Ao ?_)))))));exact BA (And.intro c2 (And.intro c3 (And.intro c4 (And.intro c5 (And.intro c6 c7)))))
     ·refine wf c5 (wf c5 (wf c5 (wf c5 (wo c4 (wv (r:=rB false) (A1 (b:=!decide (e.fKey=([]:A9))) Aa c5 Aa) (EK Aa c4 Aa (wm Aa (AR (b:=false) Aa Aa Aa (wv (Ai Dn Aa En Aa Aa) (AR (b:=false) Aa Aa Aa (wv (Ax (i:=0) Eo Aa Aa Aa) (AR (b:=false) Aa Aa Aa (wv (L4 Aa Aa) (AR (b:=false) Aa Aa Aa (wm Aa (AE (!decide (e.fCause=([]:A9))) (λc8=>?_) (λc8=>?_)))))))))))))))))
      ·refine wo c8 (wv (Ai Dn Aa En Aa Aa) (wo c8 (wv (Ax (i:=0) Eo Aa Aa Aa) (wo c8 (CN (rs:=[rS e.fCause]) (r:=rB (Eb e.fCause)) N1 Aa (Oa e.fCause) Aa Aa (wo c8 (wv (C8 Aa) (AR (b:=false) Aa Aa Aa (DB Aa c8 Aa (wv (r:=rB (!(Eb e.fCause))) (A1 (b:=false) Aa Aa Aa) (Ao ?_)))))))))));exact BA (And.intro c2 (And.intro c3 (And.intro c4 (And.intro c5 c8))))
      ·refine wf c8 (wf c8 (wf c8 (wf c8 (AR (b:=false) Aa Aa Aa (wv (r:=rB false) (A1 (b:=!decide (e.fCause=([]:A9))) Aa c8 Aa) (wv (r:=rB false) (A1 (b:=false) Aa Aa Aa) (Ao ?_)))))));exact BA (And.intro c2 (And.intro c3 (And.intro c4 (And.intro c5 c8))))
 refine A8 (b:=((!(Eb e.fID))||((!(Eb e.fTenant))||((!(Eb e.fSource))||(bif !decide (e.fKey=([]:A9)) then((!(Eb e.fKey))||((!decide (e.fCause=([]:A9)))&&(!(Eb e.fCause)))) else((!decide (e.fCause=([]:A9)))&&(!(Eb e.fCause)))))))) Aa (λc9=>?_) (λc9=>?_)
 ·have he:=AV c9 h;refine Au (wv (r:=rI .i64 4) (Aj Aa) (A5 (A4 (Aq ?_))));obtain rfl:=AC he;exact A6 (BZ Tryz.results58 (AX Aa)) (sS sN) ⟨Aa,Aa⟩
 ·have hd:=AW c9 h;refine AA (Bi (Ay (A7 [(1,rv (.pointer (some ⟨b1,0,none⟩))),(48,rB ((decide (e.fAt<0))||(decide (1073741824<e.fAt))))] [.blk b1 (Af e) 33] ?_ ?_)))
  ·refine An (wv (Ai Dn Aa B5 Aa Aa) (wv (Ax (i:=0) B9 Aa Aa Aa) (wv (Ea Aa Aa) (wm Aa (AE (decide (e.fAt<0)) (λha=>?_) (λha=>?_))))))
   ·refine wf ha (wf ha (wf ha (wv (r:=rB true) (Ar (b:=decide (e.fAt<0)) Aa ha Aa) (Ao ?_))));exact BA ha
   ·refine wo ha (wv (Ai Dn Aa B5 Aa Aa) (wo ha (wv (Ax (i:=0) B9 Aa Aa Aa) (wo ha (wv (Ct Aa Aa) (EK Aa ha Aa (Ao ?_)))))));exact BA ha
  refine A8 (b:=((decide (e.fAt<0))||(decide (1073741824<e.fAt)))) Aa (λhb=>?_) (λhb=>?_)
  ·have hf:=AV hb hd;refine Au (wv (r:=rI .i64 2) (Aj Aa) (A5 (A4 (Aq ?_))));obtain rfl:=AC hf;exact A6 (BZ Tryz.results58 (AX Aa)) (sS sN) ⟨Aa,Aa⟩
  ·have hg:=AW hb hd;refine AA (Bi (Au (wv (Ai Dn Aa Mc Aa Aa) (wv (Ax (i:=0) O0 Aa Aa Aa) ?_))));obtain⟨hh,hi,hj⟩:=Bf hg;refine In Tryz.call76 (O9 F e.fBody hh hi) Aa (wa Aa (A5 (A4 ?_)));obtain rfl:=AC hj;exact A6 (BZ Tryz.results58 (AX Aa)) (sS sN) ⟨Aa,Aa⟩
end Go.Proofs.YthbbedliepkakaaGreatDoor.Q
namespace Go.Proofs.YthbbedliepkakaaGreatDoor
open Go
set_option linter.unusedVariables false
structure AH where
 fVisible:Int
 fReceives:Int
 deriving DecidableEq,Inhabited
structure Ah where
 fPolicy:AH
 fWaiting:(List (A9×Int))
 fDead:(List Av)
 fNow:Int
 fArrived:Int
 deriving DecidableEq,Inhabited
def Jc (n:Int):Option (Bool):=
 some ((decide (0≤n))&&(decide (n≤1073741824)))
def Mp (e:Av):Option (Av):=
 BM (KK e.fBody) λr3=>some (Av.mk e.fID e.fTenant e.fSource e.fKey e.fAt e.fCause r3)
def Hm (p:AH):Option ((Ah×(List Ab))×Unit):=
 B1 (((decide (p.fVisible<1))||((decide (1073741824<p.fVisible))||((decide (p.fReceives<1))||(decide (10<p.fReceives)))))) (none) (some (((Ah.mk p ([]:List (A9×Int)) ([]:List Av) 0 0),([]:List Ab)),()))
def Lp (p:AH):Option (Unit×Unit):=
 B1 (((decide (p.fVisible<1))||((decide (1073741824<p.fVisible))||((decide (p.fReceives<1))||(decide (10<p.fReceives)))))) (some ((),())) (none)
def Rj (q:Ah):Option (Bool):=
 some true
def CX (x4:Bool):Option (Bool):=
 some x4
def Hq (q:Ah)(now:Int):Option (Bool):=
 B1 (decide (q.fNow≤now)) (CX (decide (now≤1073741824))) (CX false)
def JH (q:Ah)(x:Int)(x_p:(List Ab))(now:Int):Option (Bool):=
 Bo (decide (0≤x))<|Bo (C2 x (x_p.length:Int))<|some ((decide (((Ac x_p x).fAt)≤now))&&(decide (q.fPolicy.fReceives≤((Ac x_p x).fReceives))))
def Qp (x:Int)(x_p:(List Ab))(q:Ah)(now:Int):Option (Bool):=
 BM (JH (Ah.mk q.fPolicy [] ([]:List Av) q.fNow q.fArrived) x x_p now) λr1=>some r1
def D6 (q:Ah)(q_p2:(List Ab))(now:Int)(he:A9)(ha:Int)(hb:(List Int)):Option (Stp ((List Int)) (Out ((List Int)) ((List Int)))):=
 BM (Qp ha q_p2 q now) λhd=>B1 (hd) (Bo (Js 8 (hb.length+([ha]:List Int).length))<|some (.next (hb++([ha]:List Int)))) (some (.next hb))
def CW (q_p2:(List Ab))(ha:(List Int)):Option ((List Int)):=
 Bo (ha.all (λi=>C2 i (q_p2.length:Int)))<|Bo (Dg (λx y:Int=>C1 (Ac q_p2 x).fAt (Ac q_p2 y).fAt (Ac q_p2 x).fPlace (Ac q_p2 y).fPlace) ha)<|Bo (Nat.blt ha.length 4611686018427387904)<|some (G3 (λx y:Int=>C1 (Ac q_p2 x).fAt (Ac q_p2 y).fAt (Ac q_p2 x).fPlace (Ac q_p2 y).fPlace) ha)
def EV (q:Ah)(q_p2:(List Ab))(now:Int):Option ((List Int)):=
 K6 q.fWaiting λord=>BM (JB (λpe τ=>D6 q q_p2 now pe.1 pe.2 τ) ord ([]:List Int)) (Ca λν=>CW q_p2 ν)
def Qi (x:Int)(x_p:(List Ab))(now:Int):Option (Bool):=
 Bo (decide (0≤x))<|Bo (C2 x (x_p.length:Int))<|some (decide (((Ac x_p x).fAt)≤now))
def D3 (q_p2:(List Ab))(now:Int)(he:A9)(ha:Int)(hb:(List Int)):Option (Stp ((List Int)) (Out ((List Int)) ((List Int)))):=
 BM (Qi ha q_p2 now) λhd=>B1 (hd) (Bo (Js 8 (hb.length+([ha]:List Int).length))<|some (.next (hb++([ha]:List Int)))) (some (.next hb))
def CT (q_p2:(List Ab))(ha:(List Int)):Option ((List Int)):=
 Bo (ha.all (λi=>C2 i (q_p2.length:Int)))<|Bo (Dg (λx y:Int=>C1 (Ac q_p2 x).fAt (Ac q_p2 y).fAt (Ac q_p2 x).fPlace (Ac q_p2 y).fPlace) ha)<|Bo (Nat.blt ha.length 4611686018427387904)<|some (G3 (λx y:Int=>C1 (Ac q_p2 x).fAt (Ac q_p2 y).fAt (Ac q_p2 x).fPlace (Ac q_p2 y).fPlace) ha)
def ES (q:Ah)(q_p2:(List Ab))(now:Int):Option ((List Int)):=
 K6 q.fWaiting λord=>BM (JB (λpe τ=>D3 q_p2 now pe.1 pe.2 τ) ord ([]:List Int)) (Ca λν=>CT q_p2 ν)
def Qn (x:Int)(x_p:(List Ab))(now:Int):Option (Bool):=
 Bo (decide (0≤x))<|Bo (C2 x (x_p.length:Int))<|some (decide (((Ac x_p x).fAt)≤now))
def D5 (q_p2:(List Ab))(now:Int)(he:A9)(ha:Int)(hb:(List Int)):Option (Stp ((List Int)) (Out ((List Int)) ((List Int)))):=
 BM (Qn ha q_p2 now) λhd=>B1 (hd) (Bo (Js 8 (hb.length+([ha]:List Int).length))<|some (.next (hb++([ha]:List Int)))) (some (.next hb))
def CV (q_p2:(List Ab))(ha:(List Int)):Option ((List Int)):=
 Bo (ha.all (λi=>C2 i (q_p2.length:Int)))<|Bo (Dg (λx y:Int=>C1 (Ac q_p2 x).fAt (Ac q_p2 y).fAt (Ac q_p2 x).fPlace (Ac q_p2 y).fPlace) ha)<|Bo (Nat.blt ha.length 4611686018427387904)<|some (G3 (λx y:Int=>C1 (Ac q_p2 x).fAt (Ac q_p2 y).fAt (Ac q_p2 x).fPlace (Ac q_p2 y).fPlace) ha)
def EU (q:Ah)(q_p2:(List Ab))(now:Int):Option ((List Int)):=
 K6 q.fWaiting λord=>BM (JB (λpe τ=>D5 q_p2 now pe.1 pe.2 τ) ord ([]:List Int)) (Ca λν=>CV q_p2 ν)
def Qm (x:Int)(x_p:(List Ab))(q:Ah)(now:Int):Option (Bool):=
 BM (JH (Ah.mk q.fPolicy [] ([]:List Av) q.fNow q.fArrived) x x_p now) λr1=>some r1
def D4 (q:Ah)(q_p2:(List Ab))(now:Int)(he:A9)(ha:Int)(hb:(List Int)):Option (Stp ((List Int)) (Out ((List Int)) ((List Int)))):=
 BM (Qm ha q_p2 q now) λhd=>B1 (hd) (Bo (Js 8 (hb.length+([ha]:List Int).length))<|some (.next (hb++([ha]:List Int)))) (some (.next hb))
def CU (q_p2:(List Ab))(ha:(List Int)):Option ((List Int)):=
 Bo (ha.all (λi=>C2 i (q_p2.length:Int)))<|Bo (Dg (λx y:Int=>C1 (Ac q_p2 x).fAt (Ac q_p2 y).fAt (Ac q_p2 x).fPlace (Ac q_p2 y).fPlace) ha)<|Bo (Nat.blt ha.length 4611686018427387904)<|some (G3 (λx y:Int=>C1 (Ac q_p2 x).fAt (Ac q_p2 y).fAt (Ac q_p2 x).fPlace (Ac q_p2 y).fPlace) ha)
def ET (q:Ah)(q_p2:(List Ab))(now:Int):Option ((List Int)):=
 K6 q.fWaiting λord=>BM (JB (λpe τ=>D4 q q_p2 now pe.1 pe.2 τ) ord ([]:List Int)) (Ca λν=>CU q_p2 ν)
end Go.Proofs.YthbbedliepkakaaGreatDoor
namespace Go.Proofs.YthbbedliepkakaaGreatDoor.Q
open Go Go.RowKit Go.Sort Go.Shelf Go.Proofs
set_option linter.unusedVariables false
set_option linter.unusedSimpArgs false
theorem Nk {l:List Nat}{i:Nat}(h:i<l.length):l.getD i 0=l[i]:=by simp[List.getD,h]
def DD (n:Nat)(i:Int):Nat:=if i.toNat<n∧0≤i then i.toNat else 0
theorem Ig {n:Nat}{i:Int}(h:C2 i (n:Int)=true):DD n i=i.toNat:=by
 have h0:=(Bm h).1;have h1:=(Bm h).2;unfold DD;rw[TP ⟨by omega,h0⟩]
theorem Kf {n:Nat}(h:0<n)(i:Int):DD n i<n:=by
 unfold DD
 split
 ·rename_i h1;exact h1.1
 ·exact h
def NJ (bs:List Nat)(i:Int):Value:=.pointer (some ⟨bs.getD (DD bs.length i) 0,0,none⟩)
theorem Q1 (bs:List Nat):OneCell (NJ bs):=λ_=>rfl
theorem KD {α:Type}[Inhabited α]{raw:α→Value}{w:World}{g n:Nat}{os:Array Obj}{cur:Array Value}{e:TypeId}{fr:Nat×Nat}(d:Array α)(hb:w.heap[g]? =some (.cells cur e fr)) :
  (sortWorld raw w g 0 n d os).heap[g]? =some (.cells (putCells raw 0 d cur) e fr):=by
 have hg:g<w.heap.size:=(Array.getElem?_eq_some_iff.1 hb).1;unfold sortWorld;rw[heap_grow_old _ _ (by rw[Sort.size_putRow];exact hg)];simp[putRow,mapBlock,Sort.ahead,Array.getElem?_modify,hb,onCells]
theorem CQ {α:Type}[Inhabited α]{raw:α→Value}{w:World}{g n:Nat}{os:Array Obj}(d:Array α){j:Nat}(hj:j<w.heap.size)(hne:j≠g) :
  (sortWorld raw w g 0 n d os).heap[j]? =w.heap[j]?:=by
 unfold sortWorld;rw[heap_grow_old _ _ (by rw[Sort.size_putRow];exact hj)];simp[putRow,mapBlock,Sort.ahead,Array.getElem?_modify,Ne.symm hne]
theorem Ku {α:Type}[Inhabited α]{raw:α→Value}{w:World}{g n:Nat}{os:Array Obj}(d:Array α):w.heap.size≤(sortWorld raw w g 0 n d os).heap.size:=by
 unfold sortWorld;rw[size_grow,Sort.size_putRow];exact Nat.le_add_right _ _
theorem N9 {α:Type}[Inhabited α](raw:α→Value)(cur:Array Value)(d:Array α)(h:d.size≤cur.size):(putCells raw 0 d cur).toList.take d.size=d.toList.map raw:=by
 apply List.ext_getElem?;intro j
 by_cases hj:j<d.size
 ·rw[List.getElem?_take_of_lt hj,Array.getElem?_toList];simp[putCells,hj,show j<cur.size by omega]
 ·rw[List.getElem?_take_eq_none (by omega),List.getElem?_eq_none (by simp;omega)]
theorem R8 {P:Program}{E:Fz→Prop}{ρ:Ren}(L:SlLaysF.n6 P ρ){T:Type}[Inhabited T]{enc:T→List Rp}{te:TypeId}
  (cf:T→T→Int) (hO:SWO (ltOf cf)) {less:T→T→Bool} (hless:∀x y,less x y=ltOf cf x y) (hL:Rs less)
  (g:Nat) (eg:∀args w,(callFunc g args).run P w = .ok (.enter g args) w)
  (hcmp:∀(x y:T) (b b':Nat) (us us':List Value) (Z:Fz) (W:World),W.heap[b]? =some (.cells us.toArray te (0,0))→W.heap[b']? =some (.cells us'.toArray te (0,0))→AO Z (enc x) us→AO Z (enc y) us'→
   Calls P g #[.pointer (some ⟨b,0,none⟩),.pointer (some ⟨b',0,none⟩)] W λe w'=>e = .returned (.int .i64 (cf x y))∧∃q os',w'=grow (W.drewN q) os')
  {v pv:Value} {e:TypeId} {k:Nat} {xs:List Int} {ps:List T} (hin:xs.all (λi=>C2 i (ps.length:Int))=true) (hd:Dg (λi j=>less (Ac ps i) (Ac ps j)) xs=true) (hsz:Nat.blt xs.length 4611686018427387904=true) :
  Fn P E (ρ.f 6) [rv v,rv (.func (.func g) #[] #[])] [.row v e 1 (xs.map (eP k)),.pool k pv te (ps.map enc)] (λR H=>R=rv (.tuple #[])∧H=[.row v e 1 ((G3 (λi j=>less (Ac ps i) (Ac ps j)) xs).map (eP k)),.pool k pv te (ps.map enc)]):=λw Z vs hv hs=>by
 have e0:vs=[v,.func (.func g) #[] #[]]:=AO.eq_rv (us:=[v,.func (.func g) #[] #[]]) hv;subst e0;have hsz':xs.length<4611686018427387904:=by simpa using hsz
 rw[TO] at hin;obtain⟨h0,us,⟨h2,h3⟩,h4⟩:=hs.ent (i:=0) rfl;obtain⟨hq0,hql,hq⟩:=hs.ent (i:=1) rfl;rcases h3 with⟨rfl,hz0⟩ | ⟨b,cap,cur,rfl,_,hb,hcap,hm,hcs,htk⟩
 ·simp at hz0;subst hz0;refine(AnyF.slices_SortFunc_none (P:=P) (ρ:=ρ) { L with } none 0 (.func (.func g) #[] #[]) w).mono ?_;rintro e' w' ⟨rfl,rfl⟩;exact⟨_,_,_,Z,rfl,⟨rfl,rfl⟩,rfl,hs⟩
 ·rw[TB] at hql;have hbl:(Ch pv).length=ps.length:=hql;have hnm:∀i∈xs,Z.nm k i.toNat=some ((Ch pv).getD (DD (Ch pv).length i) 0):=λi hi=>by
   have h5:=hin i hi;have h6:=(Bm h5).1;have h7:=(Bm h5).2;have hb':i.toNat<(Ch pv).length:=by omega
   obtain⟨h8,_⟩:=hq i.toNat (Ch pv)[i.toNat] (enc (ps[i.toNat]'(by omega))) (T3 hb') (by simp[show i.toNat<ps.length by omega]);rw[h8,hbl,Ig h5,Nk hb']
  have hval:∀i∈xs,∀u,(B6 k i 0).p Z u→u=NJ (Ch pv) i:=λi hi u hu=>by
   change Ki k i 0 Z u at hu
   unfold Ki at hu;rw[TE (by have:=(Bm (hin i hi)).1;omega)] at hu;obtain⟨b',h5,h6⟩:=hu;rw[hnm i hi] at h5;rw[h6,← Option.some.inj h5];rfl
  have hback:∀i∈xs,(B6 k i 0).p Z (NJ (Ch pv) i):=λi hi=>by
   show Ki k i 0 Z _;unfold Ki;rw[TE (by have:=(Bm (hin i hi)).1;omega)];exact⟨_,hnm i hi,rfl⟩
  have hus:∀(ys:List Int) (us:List Value),(∀i∈ys,i∈xs)→AO Z (ys.map (eP k)).flatten us→us=ys.map (NJ (Ch pv)):=by
   intro ys
   induction ys with
   | nil=>
    intro us _ h
    cases us with
    | nil=>rfl
    | cons _ _=>exact absurd h id
   | cons y r ih=>
    intro us hy h
    cases us with
    | nil=>exact absurd h id
    | cons u us=>
     obtain⟨h5,h6⟩:=h;rw[hval y (hy y (by simp)) u h5,ih us (λi hi=>hy i (by simp[hi])) h6];rfl
  have hto:∀(ys:List Int),(∀i∈ys,i∈xs)→AO Z (ys.map (eP k)).flatten (ys.map (NJ (Ch pv))):=by
   intro ys
   induction ys with
   | nil=>intro _;exact trivial
   | cons y r ih=>intro hy;exact⟨hback y (hy y (by simp)),ih (λi hi=>hy i (by simp[hi]))⟩
  have eus:=hus xs us (λ_ h=>h) h4;subst eus;simp only[TB,Nat.mul_one] at h2 hcap htk;have hblk:b<w.heap.size:=(Array.getElem?_eq_some_iff.1 hb).1;rcases Nat.eq_zero_or_pos xs.length with hx0 | hx0
  ·have hxn:xs=[]:=TM hx0;subst hxn;refine(AnyF.slices_SortFunc_none (P:=P) (ρ:=ρ) { L with } (some ⟨b,0,none⟩) cap (.func (.func g) #[] #[]) w).mono ?_;rintro e' w' ⟨rfl,rfl⟩;exact⟨_,_,_,Z,rfl,⟨rfl,rfl⟩,rfl,hs⟩
  ·have hpos:0<ps.length:=by
    obtain⟨x,hx⟩:=List.exists_mem_of_length_pos hx0;have:=Bm (hin x hx);omega
   let cfI:Int→Int→Int:=λi j=>cf (Ac ps (DD ps.length i:Nat)) (Ac ps (DD ps.length j:Nat))
   have hOI:SWO (ltOf cfI):=⟨λx=>hO.irrefl _,λx y z h1 h2=>hO.trans _ _ _ h1 h2,λx y z h1 h2=>hO.ntrans _ _ _ h1 h2⟩
   have hH:Holds (NJ (Ch pv)) w b 0 xs.toArray:=by
    intro j hj;have hj':j<xs.length:=by simpa using hj
    refine⟨?_,by simp[World.frozen?,hb]⟩;have h5:(cur.toList.take xs.length)[j]? =(xs.map (NJ (Ch pv)))[j]?:=by rw[htk]
    rw[List.getElem?_take_of_lt (by omega)] at h5;simp only[World.cell?,hb,TV,Option.isSome_none,TY,Ug];rw[← Array.getElem?_toList,h5];simp[hj']
   have hblkp:∀i:Nat,i<ps.length→∃us,w.heap[(Ch pv).getD i 0]? =some (.cells us.toArray te (0,0))∧AO Z (enc (Ac ps (i:Int))) us∧(Ch pv).getD i 0≠b:=λi hi=>by
    have hb':i<(Ch pv).length:=by omega
    obtain⟨h8,us,h9,ha⟩:=hq i (Ch pv)[i] (enc (ps[i]'hi)) (T3 hb') (by simp[hi]);rw[Nk hb'];refine⟨us,h9,by rw[show Ac ps (i:Int)=ps[i] from by simp[Ac,hi]];exact ha,λe1=>?_⟩;have hdis:=hs.dis;rw[List.pairwise_cons] at hdis;exact hdis.1 (.pool k pv te (ps.map enc)) (by simp) b (by simp[Ent.foot,Value.ownBlock]) (by rw[← e1];exact List.getElem_mem hb')
   have hcl:CmpLays1 P g #[] (NJ (Ch pv)) cfI b 0 xs.toArray.size w:=λm os dk hdk x y=>by
    obtain⟨ux,hx1,hx2,hx3⟩:=hblkp (DD ps.length x) (Kf hpos x);obtain⟨uy,hy1,hy2,hy3⟩:=hblkp (DD ps.length y) (Kf hpos y);have hxl:=(Array.getElem?_eq_some_iff.1 hx1).1;have hyl:=(Array.getElem?_eq_some_iff.1 hy1).1;have:=hcmp _ _ _ _ ux uy Z (sortWorld (NJ (Ch pv)) w b 0 m dk os) (by rw[CQ dk hxl hx3];exact hx1) (by rw[CQ dk hyl hy3];exact hy1) hx2 hy2;simp only[NJ,hbl];exact this
   have hsl:(Value.slice (some ⟨b,0,none⟩) (xs.map (eP k)).length cap) = .slice (some ⟨b,0,none⟩) xs.toArray.size cap:=by simp
   have hcon:=Any.slices_SortFunc (P:=P) (ρ:=ρ) L (NJ (Ch pv)) (Q1 _) cfI hOI g #[] b 0 cap xs.toArray w eg hcl hH hblk (by simpa using hsz');have hargs:[Value.slice (some ⟨b,0,none⟩) (xs.map (eP k)).length cap,Value.func (.func g) #[] #[]].toArray = #[.slice (some ⟨b,0,none⟩) xs.toArray.size cap,.func (.func g) #[] #[]]:=by rw[hsl]
   rw[hargs];refine hcon.mono ?_;rintro e' w' ⟨rfl,d',n,os,hp,hsd,rfl⟩;have hds:d'.size=xs.length:=by simpa using hp.1
   have hperm:d'.toList.Perm xs:=by
    have:=hp.2.2;rw[Array.extract_eq_self_of_le (by rw[hp.1];exact TH _),Array.extract_eq_self_of_le (TH _)] at this;exact this
   have hmem:∀i∈d'.toList,i∈xs:=λi hi=>hperm.mem_iff.1 hi;have hpw:d'.toList.Pairwise λi j=>less (Ac ps j) (Ac ps i)=false:=by
    rw[List.pairwise_iff_getElem];intro i j hi hj hij;have hi':i<d'.size:=by simpa using hi
    have hj':j<d'.size:=by simpa using hj
    have:=hsd i j (Um _) hij (by simpa[hds] using hj');rw[getElem!_pos d' j hj',getElem!_pos d' i hi'] at this;have ci:=Ig (hin _ (hmem _ (List.getElem_mem hi)));have cj:=Ig (hin _ (hmem _ (List.getElem_mem hj)));have ni:=(Bm (hin _ (hmem _ (List.getElem_mem hi)))).1;have nj:=(Bm (hin _ (hmem _ (List.getElem_mem hj)))).1;simp only[Array.getElem_toList] at ci cj ni nj ⊢;rw[hless];have h9:ltOf cfI d'[j] d'[i]=ltOf cf (Ac ps (DD ps.length d'[j]:Nat)) (Ac ps (DD ps.length d'[i]:Nat)):=rfl;rw[h9,ci,cj,Int.toNat_of_nonneg ni,Int.toNat_of_nonneg nj] at this;exact this
   have hLI:Rs λi j:Int=>less (Ac ps i) (Ac ps j):=⟨λx=>hL.irrefl _,λx y z h1 h2=>hL.ntrans _ _ _ h1 h2,λx y h=>hL.asym _ _ h⟩
   have hxs:d'.toList=G3 (λi j=>less (Ac ps i) (Ac ps j)) xs:=OJ hLI hd hperm hpw;have hl2:(G3 (λi j=>less (Ac ps i) (Ac ps j)) xs).length=xs.length:=(D7 _ xs).length_eq;have hset:=hs.set (i:=0) (w':=sortWorld (NJ (Ch pv)) w b 0 n d' os) (e':=.row (.slice (some ⟨b,0,none⟩) (xs.map (eP k)).length cap) e 1 ((G3 (λi j=>less (Ac ps i) (Ac ps j)) xs).map (eP k))) rfl rfl rfl rfl (Ku d') (λj hj hne=>CQ d' hj (λe1=>hne (by simp[Ent.foot,Value.ownBlock,e1])))
    ⟨λcl hcl=>by obtain⟨x,_,rfl⟩:=List.mem_map.1 hcl;rfl,d'.toList.map (NJ (Ch pv)),⟨by simp[hds,hl2],.inr ⟨b,cap,_,by simp[hl2],Um _,KD d' hb,by simpa[hl2] using hcap,hm,by simpa[putCells] using hcs,by
     rw[TB,hl2,Nat.mul_one,← hds];exact N9 _ cur d' (by omega)⟩⟩,by rw[← hxs];exact hto _ hmem⟩ (by simp[Ent.foot,Value.ownBlock])
   exact⟨_,_,_,Z,rfl,⟨rfl,rfl⟩,rfl,hset⟩
open Go Go.Proofs Go.Sort
theorem QG (x:Int)(w:World):Calls Tryz.prog 79 #[.int .i64 x] w λe w'=>e = .returned (.bool false)∧w'=w:=by
 go_enter Tryz.func79,Tryz.ntmps79
 go_wp2
 go_ret
 exact⟨by simp,rfl⟩
def KJ (x y:Int):Int:=if x<y then -1 else if y<x then 1 else 0
set_option maxHeartbeats 1000000 in
theorem Kd (x y:Int)(w:World):Calls Tryz.prog 64 #[.int .i64 x,.int .i64 y] w λe w'=>e = .returned (.int .i64 (KJ x y))∧w'=w:=by
 go_enter Tryz.func64,Tryz.ntmps64
 go_wp2_with (go_at_call 79;refine(QG _ _).mono ?_;rintro e w' ⟨rfl,hw⟩;rw[hw])
 all_goals (go_ret;refine⟨?_,rfl⟩;unfold KJ;(repeat' split)<;>first | rfl | (exfalso;omega))
def Rm (p q:Int):Int:=if p=0 then q else p
set_option maxHeartbeats 1000000 in
theorem Ta (p q:Int)(b cap:Nat)(w:World)(h0:w.cell? ⟨b,0,none⟩=some (.int .i64 p))(h1:w.cell? ⟨b,1,none⟩=some (.int .i64 q)):Calls Tryz.prog 63 #[.slice (some ⟨b,0,none⟩) 2 cap] w λe w'=>e = .returned (.int .i64 (Rm p q))∧w'=w:=by
 by_cases hp:p=0
 ·have er:Rm p q=q:=by unfold Rm;rw[TP hp]
  rw[er];have hp':(p !=0)=false:=by simp[hp]
  clear er
  by_cases hq:q=0
  ·have hq':(q !=0)=false:=by simp[hq]
   subst hp;subst hq
   go_enter Tryz.func63,Tryz.ntmps63
   go_wp2
   refine wp_loop_rounds 3 ?_;rw[rounds_succ]
   go_wp2
   rw[rounds_succ]
   go_wp2
   rw[rounds_succ]
   go_wp2
   go_ret
   exact⟨rfl,rfl⟩
  ·have hq':(q !=0)=true:=by simp[hq]
   subst hp
   go_enter Tryz.func63,Tryz.ntmps63
   go_wp2
   refine wp_loop_rounds 3 ?_;rw[rounds_succ]
   go_wp2
   rw[rounds_succ]
   go_wp2
   go_ret
   exact⟨rfl,rfl⟩
 ·have er:Rm p q=p:=by unfold Rm;rw[TE hp]
  rw[er];have hp':(p !=0)=true:=by simp[hp]
  clear er hp
  go_enter Tryz.func63,Tryz.ntmps63
  go_wp2
  refine wp_loop_rounds 3 ?_;rw[rounds_succ]
  go_wp2
  go_ret
  exact⟨rfl,rfl⟩
theorem Mv {P:Program}{id:Nat}{Q:Exit→Act→World→Prop}{a:Act}{w:World}{l:List Oper}(n:Nat)(hm:P.follows .mixedOrders=true)(hB:Region.lexTailB .any l.toArray n=true)
  (h:∀w2,w2=World.drew w→wpStill P l.toArray w2 (λa'=>wpList P l.toArray Q (l.drop n) a' w2) (l.take n) a):(Code.region id l.toArray true).wp P Q a w:=wp_region_still_tail n hm hB (h _ rfl)
theorem LV (w:World)(cs:Array Value)(e:TypeId)(j:Nat):(w.alloc (.cells cs e)).cell? ⟨w.heap.size,j,none⟩=cs[j]?:=by
 have h:(w.alloc (.cells cs e)).heap[w.heap.size]? =some (.cells cs e):=by simpa using heap_alloc_new w _
 unfold World.cell?;simp only[h];rfl
theorem M6 (w:World)(o:Obj):w.alloc o=grow w #[o]:=by unfold grow World.alloc;simp
set_option maxRecDepth 100000 in
set_option maxHeartbeats 1000000 in
theorem RI (b b':Nat)(n1 n2 p1 p2:Int)(W:World)(ha:W.cell? ⟨b,7,none⟩=some (.int .i64 n1))(hb:W.cell? ⟨b,10,none⟩=some (.int .i64 p1))(c20:W.cell? ⟨b',7,none⟩=some (.int .i64 n2))(c21:W.cell? ⟨b',10,none⟩=some (.int .i64 p2)) :
  Calls Tryz.prog 62 #[.pointer (some ⟨b,0,none⟩),.pointer (some ⟨b',0,none⟩)] W λe w'=>e = .returned (.int .i64 (Rm (KJ n1 n2) (KJ p1 p2)))∧∃q os',w'=grow (W.drewN q) os':=by
 have hci:=λW=>Kd n1 n2 W;have hcs:=λW=>Kd p1 p2 W;generalize KJ n1 n2=r1 at hci ⊢;generalize KJ p1 p2=r2 at hcs ⊢
 go_enter Tryz.func62,Tryz.ntmps62
 go_wp2
 have hm:Tryz.prog.follows .mixedOrders=true:=by kernel_rfl
 refine Mv 18 hm (by kernel_rfl) ?_;intro W2 hW2;have hd:W2.cell? ⟨b,7,none⟩=some (.int .i64 n1):=by rw[hW2];exact ha
 have he:W2.cell? ⟨b,10,none⟩=some (.int .i64 p1):=by rw[hW2];exact hb
 have hf:W2.cell? ⟨b',7,none⟩=some (.int .i64 n2):=by rw[hW2];exact c20
 have hh:W2.cell? ⟨b',10,none⟩=some (.int .i64 p2):=by rw[hW2];exact c21
 have hg:∃q os',W2=grow (W.drewN q) os':=⟨1,#[],by
  have e:grow (W.drewN 1) #[]=W.drewN 1:=by simp only[grow,Array.append_empty]
  rw[hW2,e];rfl⟩
 clear hW2 ha hb c20 c21;simp only[List.take_succ_cons,List.take_zero,List.drop_succ_cons,List.drop_zero]
 still_step
 still_step
 still_step
 still_step
 still_step
 still_step
 still_step
 still_step
 still_call (hci _)
 still_step
 still_step
 still_step
 still_step
 still_step
 still_step
 still_step
 still_step
 still_call (hcs _)
 refine wpStill_nil ?_
 go_wp2_with (go_at_call 63;refine(Ta r1 r2 _ _ _ (LV _ _ _ 0) (LV _ _ _ 1)).mono ?_;rintro e w' ⟨rfl,rfl⟩)
 go_ret
 obtain⟨q,os',rfl⟩:=hg;exact⟨rfl,q,_,by rw[M6,grow_grow]⟩
end Go.Proofs.YthbbedliepkakaaGreatDoor.Q
namespace Go.Proofs
open Go.Shelf
def Tryz.SpL_ren:Go.Shelf.Ren:=⟨fun | 6=>61 | 15=>78 | 14=>77 | 28=>97 | 29=>98 | 20=>89 | 21=>90 | 22=>91 | 23=>92 | 24=>93 | 25=>94 | 26=>95 | 27=>96 | 46=>115 | 47=>116 | 48=>117 | 49=>118 | 50=>119 | 57=>131 | n=>n,fun | 22=>67 | 24=>69 | 25=>101 | 3=>3 | 39=>112 | 0=>0 | 53=>133 | 55=>135 | 4=>4 | 46=>126 | 45=>125 | 50=>130 | 5=>5 | 9=>9 | 66=>151 | 70=>155 | 76=>161 | 77=>162 | n=>n,fun | n=>n⟩
theorem Tryz.SpL:Go.Proofs.SlLaysF.n6 Tryz.prog Tryz.SpL_ren:={
 mixed:=by kernel_rfl
 f6:=⟨Tryz.f61.name,by decide,Tryz.func61.trans (congrArg some (by kernel_rfl))⟩
 f14:=⟨Tryz.f77.name,by decide,Tryz.func77.trans (congrArg some (by kernel_rfl))⟩
 f15:=Tryz.func78.trans (congrArg some (by kernel_rfl))
 f20:=⟨Tryz.f89.name,by decide,Tryz.func89.trans (congrArg some (by kernel_rfl))⟩
 f21:=⟨Tryz.f90.name,by decide,Tryz.func90.trans (congrArg some (by kernel_rfl))⟩
 f22:=⟨Tryz.f91.name,by decide,Tryz.func91.trans (congrArg some (by kernel_rfl))⟩
 f23:=⟨Tryz.f92.name,by decide,Tryz.func92.trans (congrArg some (by kernel_rfl))⟩
 f24:=⟨Tryz.f93.name,by decide,Tryz.func93.trans (congrArg some (by kernel_rfl))⟩
 f25:=⟨Tryz.f94.name,by decide,Tryz.func94.trans (congrArg some (by kernel_rfl))⟩
 f26:=⟨Tryz.f95.name,by decide,Tryz.func95.trans (congrArg some (by kernel_rfl))⟩
 f27:=⟨Tryz.f96.name,by decide,Tryz.func96.trans (congrArg some (by kernel_rfl))⟩
 f28:=Tryz.func97.trans (congrArg some (by kernel_rfl))
 f29:=Tryz.func98.trans (congrArg some (by kernel_rfl))
 f46:=⟨Tryz.f115.name,by decide,Tryz.func115.trans (congrArg some (by kernel_rfl))⟩
 f47:=Tryz.func116.trans (congrArg some (by kernel_rfl))
 f48:=Tryz.func117.trans (congrArg some (by kernel_rfl))
 f49:=⟨Tryz.f118.name,by decide,Tryz.func118.trans (congrArg some (by kernel_rfl))⟩
 f50:=⟨Tryz.f119.name,by decide,Tryz.func119.trans (congrArg some (by kernel_rfl))⟩
 f57:=⟨Tryz.f131.name,by decide,Tryz.func131.trans (congrArg some (by kernel_rfl))⟩
 t0:=Tryz.underlying0
 a0:=Tryz.isAgg0
 z0:=Tryz.sizeOf0
 v0:=Tryz.zeroValue0
 t3:=Tryz.underlying3
 a3:=Tryz.isAgg3
 z3:=Tryz.sizeOf3
 v3:=Tryz.zeroValue3
 t4:=Tryz.underlying4
 a4:=Tryz.isAgg4
 z4:=Tryz.sizeOf4
 v4:=Tryz.zeroValue4
 t5:=Tryz.underlying5
 a5:=Tryz.isAgg5
 z5:=Tryz.sizeOf5
 v5:=Tryz.zeroValue5
 t9:=Tryz.underlying9
 a9:=Tryz.isAgg9
 z9:=Tryz.sizeOf9
 v9:=Tryz.zeroValue9
 t22:=Tryz.underlying67
 a22:=Tryz.isAgg67
 z22:=Tryz.sizeOf67
 v22:=Tryz.zeroValue67
 a24:=Tryz.isAgg69
 z24:=Tryz.sizeOf69
 t25:=Tryz.underlying101
 a25:=Tryz.isAgg101
 z25:=Tryz.sizeOf101
 v25:=Tryz.zeroValue101
 t39:=Tryz.underlying112
 a39:=Tryz.isAgg112
 z39:=Tryz.sizeOf112
 v39:=Tryz.zeroValue112
 t45:=Tryz.underlying125
 a45:=Tryz.isAgg125
 z45:=Tryz.sizeOf125
 v45:=Tryz.zeroValue125
 t46:=Tryz.underlying126
 a46:=Tryz.isAgg126
 z46:=Tryz.sizeOf126
 v46:=Tryz.zeroValue126
 t50:=Tryz.underlying130
 a50:=Tryz.isAgg130
 z50:=Tryz.sizeOf130
 v50:=Tryz.zeroValue130
 t53:=Tryz.underlying133
 a53:=Tryz.isAgg133
 z53:=Tryz.sizeOf133
 v53:=Tryz.zeroValue133
 t55:=Tryz.underlying135
 a55:=Tryz.isAgg135
 z55:=Tryz.sizeOf135
 v55:=Tryz.zeroValue135
 t66:=Tryz.underlying151
 a66:=Tryz.isAgg151
 z66:=Tryz.sizeOf151
 v66:=Tryz.zeroValue151
 t70:=Tryz.underlying155
 a70:=Tryz.isAgg155
 z70:=Tryz.sizeOf155
 v70:=Tryz.zeroValue155
 t76:=Tryz.underlying161
 a76:=Tryz.isAgg161
 z76:=Tryz.sizeOf161
 v76:=Tryz.zeroValue161
 t77:=Tryz.underlying162
 a77:=Tryz.isAgg162
 z77:=Tryz.sizeOf162
 v77:=Tryz.zeroValue162 }
end Go.Proofs
namespace Go.Proofs.YthbbedliepkakaaGreatDoor.Q
open Go Go.RowKit Go.Sort Go.Shelf Go.Proofs
set_option linter.unusedVariables false
set_option linter.unusedSimpArgs false
def SP (x y:Ab):Int:=Rm (KJ x.fAt y.fAt) (KJ x.fPlace y.fPlace)
theorem K8 (x y:Ab):C1 x.fAt y.fAt x.fPlace y.fPlace=ltOf SP x y:=by
 unfold ltOf SP Rm KJ C1
 by_cases h1:x.fAt<y.fAt
 ·simp[h1]
 ·by_cases h2:y.fAt<x.fAt
  ·have : ¬ x.fAt=y.fAt:=by omega
   simp[h1,h2,this]
  ·have e:x.fAt=y.fAt:=by omega
   by_cases h3:x.fPlace<y.fPlace
   ·simp[e,h3]
   ·by_cases h4:y.fPlace<x.fPlace
    ·simp[e,h3,h4]
    ·simp[e,h3,h4]
theorem SV:SWO (ltOf SP) where
 irrefl x:=by rw[← K8,H8];omega
 trans x y z h1 h2:=by rw[← K8,JT] at *;omega
 ntrans x y z h1 h2:=by rw[← K8,H8] at *;omega
theorem JV {Z:Fz}{x:Ab}{us:List Value}(h:AO Z (Ae x) us):us[7]? =some (.int .i64 x.fAt)∧us[10]? =some (.int .i64 x.fPlace):=by
 have hl:=h.length;obtain⟨v0,v1,v2,v3,v4,v5,v6,v7,v8,v9,ha,rfl⟩:∃v0 v1 v2 v3 v4 v5 v6 v7 v8 v9 ha,us=[v0,v1,v2,v3,v4,v5,v6,v7,v8,v9,ha]:=by
  match us,hl with
  | [v0,v1,v2,v3,v4,v5,v6,v7,v8,v9,ha],_=>exact⟨_,_,_,_,_,_,_,_,_,_,_,rfl⟩
 obtain⟨_,_,_,_,_,_,_,h7,_,_,hb,_⟩:=h;have e7:v7 = .int .i64 x.fAt:=h7;have hd:ha = .int .i64 x.fPlace:=hb;subst e7;subst hd;exact⟨rfl,rfl⟩
theorem IF {v pv:Value}{e:TypeId}{k:Nat}{xs:List Int}{ps:List Ab}(hin:xs.all (λi=>C2 i (ps.length:Int))=true)(hd:Dg (λx y:Int=>C1 (Ac ps x).fAt (Ac ps y).fAt (Ac ps x).fPlace (Ac ps y).fPlace) xs=true)(hsz:Nat.blt xs.length 4611686018427387904=true) :
  Fn Tryz.prog GE 61 [rv v,rv (.func (.func 62) #[] #[])] [.row v e 1 (xs.map (eP k)),.pool k pv 71 (ps.map Ae)] (λR H=>R=rv (.tuple #[])∧H=[.row v e 1 ((G3 (λx y:Int=>C1 (Ac ps x).fAt (Ac ps y).fAt (Ac ps x).fPlace (Ac ps y).fPlace) xs).map (eP k)),.pool k pv 71 (ps.map Ae)]):=
 R8 Tryz.SpL SP SV (less:=λx y:Ab=>C1 x.fAt y.fAt x.fPlace y.fPlace) K8 (Nc (λx:Ab=>x.fAt) (λx=>x.fPlace))
  62 (enters_of Tryz.func62 (by kernel_rfl) rfl)
  (λx y b b' us us' Z W h1 h2 h3 h4=>by
   have c1:=JV h3;have c2:=JV h4;have hc:∀(b:Nat) (us:List Value) (j:Nat) (u:Value),W.heap[b]? =some (.cells us.toArray 71 (0,0))→us[j]? =some u→W.cell? ⟨b,j,none⟩=some u:=λb us j u hb hu=>by
    rw[cell_of_row W b j _ _ (0,0) hb];simpa using hu
   exact RI b b' x.fAt y.fAt x.fPlace y.fPlace W (hc _ _ _ _ h1 c1.1) (hc _ _ _ _ h1 c1.2) (hc _ _ _ _ h2 c2.1) (hc _ _ _ _ h2 c2.2))
  hin hd hsz
end Go.Proofs.YthbbedliepkakaaGreatDoor.Q
