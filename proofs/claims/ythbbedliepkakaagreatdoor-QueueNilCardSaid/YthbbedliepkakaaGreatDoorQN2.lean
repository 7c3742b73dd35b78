/-
  Texts of the proof, put together: ShelfV, PlD, PlE, FwJ, IdR, TzL, QG, QS, QO, RowQ, PQB, WQB, PVa, WVa, PVb, WVb, PVc, WVc, PVd, WVd, PVe, WVe, PVf, WVf, PM, PS, PSp, PUa, QU, QT, QN, QM, QI, QW, QV, PH, QJ, QX, QL, Q6, WUa, PUb, Q8, SpC, SpT.
-/
import Derived.Test.YthbbedliepkakaaGreatDoorQN1
import Derived.Shelf.Strings.Builder1
import Derived.Shelf.Strings.Count
import Derived.Shelf.Strings.Search1
import Derived.Shelf.Strings.Search2
import Derived.Shelf.Strings.Search3
import Derived.Shelf.Small.Strs
import Derived.Shelf.LaysM
import Derived.Shelf.LaysC
import Derived.Test.YthbbedliepkakaaGreatDoorProg
import Derived.Lib.ItoaMem
import Derived.Shelf.Lays7
import Derived.Shelf.Spec.TrailingZeros
import Derived.Laws.BytesString
import Derived.Lib.Builder
import Derived.Lib.UnsafeStr
import Derived.Lib.AppendStr
import Derived.Laws.Externs
import Derived.Deep.Slices
import Derived.ChangeArms
import Derived.DataReads
import Derived.Laws.Tables
import Derived.Lib.Bytealg
import Derived.Lib.SmallJoins
import Derived.Laws.StructEq
import Derived.Laws.Cover3
import Derived.MapKept
import Derived.Maps.RangeRun
import GoSem.Op.IntBits
import GoSem.Op.Shift
import Derived.ScopeJumps
import Derived.Laws.CopyRow
import Derived.Laws.IdiomCopy
import Derived.Laws.OwnMore
import Derived.Shelf.SlSortCmp.NoneTotal
import Derived.Tactics
import Derived.Lib.Small
import Derived.Lib.Walk
import Derived.Sort.Grow
import Derived.Deep.QuietTactic
import Derived.BigQuiet
import Derived.LoopN
import Derived.StillTailTactics
namespace Go.Proofs
open Go.Shelf
def Tryz.lays138_ren:Go.Shelf.Ren:=⟨fun | 138=>130 | 195=>149 | 218=>150 | 143=>151 | 219=>121 | 217=>136 | 225=>137 | 224=>138 | 267=>139 | 266=>156 | 314=>157 | n=>n,fun | 9=>9 | 3=>3 | 4=>4 | 5=>5 | 0=>0 | 46=>112 | 146=>181 | 51=>133 | n=>n,fun | 1=>0 | n=>n⟩
theorem Tryz.lays138:Go.Proofs.Lays.n138 Tryz.prog Tryz.lays138_ren:={
 mixed:=by kernel_rfl
 f138:=Tryz.func130.trans (congrArg some (by kernel_rfl))
 f143:=Tryz.func151.trans (congrArg some (by kernel_rfl))
 f195:=Tryz.func149.trans (congrArg some (by kernel_rfl))
 f217:=Tryz.func136.trans (congrArg some (by kernel_rfl))
 f218:=Tryz.func150.trans (congrArg some (by kernel_rfl))
 f219:=Tryz.func121.trans (congrArg some (by kernel_rfl))
 f224:=Tryz.func138.trans (congrArg some (by kernel_rfl))
 f225:=Tryz.func137.trans (congrArg some (by kernel_rfl))
 f266:=Tryz.func156.trans (congrArg some (by kernel_rfl))
 f267:=Tryz.func139.trans (congrArg some (by kernel_rfl))
 f314:=Tryz.func157.trans (congrArg some (by kernel_rfl))
 t0:=Tryz.underlying0
 a0:=Tryz.isAgg0
 z0:=Tryz.sizeOf0
 v0:=Tryz.zeroValue0
 t3:=Tryz.underlying3
 a3:=Tryz.isAgg3
 z3:=Tryz.sizeOf3
 v3:=Tryz.zeroValue3
 t4:=Tryz.underlying4
 a4:=Tryz.isAgg4
 z4:=Tryz.sizeOf4
 v4:=Tryz.zeroValue4
 t5:=Tryz.underlying5
 a5:=Tryz.isAgg5
 z5:=Tryz.sizeOf5
 v5:=Tryz.zeroValue5
 t9:=Tryz.underlying9
 a9:=Tryz.isAgg9
 z9:=Tryz.sizeOf9
 v9:=Tryz.zeroValue9
 t46:=Tryz.underlying112
 a46:=Tryz.isAgg112
 z46:=Tryz.sizeOf112
 v46:=Tryz.zeroValue112
 t51:=Tryz.underlying133
 a51:=Tryz.isAgg133
 z51:=Tryz.sizeOf133
 v51:=Tryz.zeroValue133
 t146:=Tryz.underlying181
 a146:=Tryz.isAgg181
 z146:=Tryz.sizeOf181
 v146:=Tryz.zeroValue181
 g1:=by kernel_rfl }
open Go.RowKit Go.Lib in
theorem Tryz.strings_Count_one (s:ByteArray)(c:UInt8)(w:World) :
  Calls Tryz.prog 130 #[.string s,.string ⟨#[c]⟩] w λe w'=>e = .returned (.int .i64 (Lib.countByte s.data.toList c))∧w'=w:=Any.strings_Count_one Tryz.lays138 s c w
end Go.Proofs
namespace Go.Proofs.YthbbedliepkakaaGreatDoor
open Go
set_option linter.unusedVariables false
set_option linter.unusedSimpArgs false
open Go Go.RowKit
section
variable {P : Program} {n : Nat} {w0 : World} {M : List Nat} {l : Fr} {H : List Ent} {d : Option Nat} {x y : Operand} {ty t t' : TypeId} {pos : String} {af : Array Edge} {g : Option (Nat × Bool)} {k : IntKind} {p q z : Int}
end
set_option maxRecDepth 100000
end Go.Proofs.YthbbedliepkakaaGreatDoor
namespace Go.Proofs
open Go.Shelf
end Go.Proofs
namespace Go.Proofs.YthbbedliepkakaaGreatDoor.Q
open Go Go.RowKit
set_option linter.unusedVariables false
def GE (Z:Fz):Prop:=∀w,MQ Z w→Mf w
theorem GE.mono {Z Z':Fz}(h:Fz.le Z Z')(hg:GE Z):GE Z':=λw hw=>hg w ⟨λb o e=>hw b o (h b o e),λk i b e=>hw.nm k i b (h.nm k i b e)⟩
theorem IE.rle {P:Program}{E:Fz→Prop}{f:FuncId}{args:List Rp}{r r':Rp}(h:IE P E f args r)(hr:HJ r r'):IE P E f args r':=λw Z vs hv hs=>
 (h w Z vs hv hs).mono λe w' ⟨q,v,H,Z',he,⟨hq,hH⟩,hp,ht⟩=>⟨r',v,H,Z',he,⟨rfl,hH⟩,hr Z' v (hq▸hp),ht⟩
theorem HJ.tup2 {a b:Value}:HJ (rv (.tuple #[a,b])) (C0 [rv a,rv b]):=λZ v h=>⟨[a,b],h,rfl,rfl,trivial⟩
theorem IE.of_id {P:Program}{E:Fz→Prop}{f:FuncId}{vs:List Value}{v:Value}(h:∀w,Calls P f vs.toArray w (λe w'=>e = .returned v∧w'=w)):IE P E f (vs.map rv) (rv v):=
 IE.of_old λw Z _ _=>(h w).mono λe w' ⟨he,hw⟩=>⟨he,by rw[hw];exact Proofs.YthbbedliepkakaaGreatDoor.St.refl w []⟩
theorem KM (m:Int)(g:Ce .i64 m=true):IE Tryz.prog GE 65 [rI .i64 m] (rS (Lib.itoa m)):=IE.of_old (vs:=[.int .i64 m]) λw Z hf he=>NZ m (HT g).1 (HT g).2 w (he w hf)
theorem OP (s:AI)(g:KL 1 s.length=true):IE Tryz.prog GE 82 [rS s] (C0 [rI .i64 (BJ s),rI .i64 (CO s)]):=(IE.of_old (vs:=[.string (B s)]) λw Z hf he=>OQ s (by simp[KL] at g;omega) w (he w hf)).rle HJ.tup2
theorem LY (s:AI)(c:UInt8):IE Tryz.prog GE 130 [rS s,rS [c]] (rI .i64 (Lib.countByte s c)):=IE.of_id (vs:=[.string (B s),.string (B [c])]) λw=>by have:=Tryz.strings_Count_one (B s) c w;rwa [L6] at this
theorem QL (s:AI)(m:Int):IE Tryz.prog GE 136 [rS s,rI .u8 m] (rI .i64 (Lib.indexByte s (Int.toNat m).toUInt8)):=IE.of_old (vs:=[.string (B s),.int .u8 m]) λw Z hf he=>KJ s m w
theorem MG (s:AI):IE Tryz.prog GE 75 [rS s] (rB (En s)):=IE.of_old (vs:=[.string (B s)]) λw Z hf he=>Rk s w
set_option linter.unusedSimpArgs false
theorem Jb (l:List UInt8):((MS l).map GK).flatten=(l.map λc=>Value.int .u8 c.toNat).map rv:=by
 induction l with
 | nil=>rfl
 | cons c r ih=>simp only[MS,Sn,List.flatten_cons] at ih ⊢;rw[ih];rfl
theorem LF (l:List UInt8):(MS l).length=l.length:=by simp[MS]
section
variable {P : Program} {n : Nat} {c : Cx} {ops : Array Oper} {Q : Exit → Act → World → Prop} {rest : List Oper} {l : Fr} {H H' : List Ent} {d : Nat} {d' : Option Nat} {x y z3 : Operand} {ty t t' e : TypeId} {pos : String} {af : Array Edge} {g : Option (Nat × Bool)} {v u : Value} {r : Rp} {sz : Nat} {K : Act → World → Prop}
theorem Fn.bld {E:Fz→Prop}{f:FuncId}{args:List Rp}{T te:TypeId}{b:Nat}{v:Value}{s s':List UInt8}{res:Rp}
  (h:∀p,(p = .pointer none∨p = .pointer (some ⟨b,0,none⟩))→Fn P E f args [.blk b [rv p,rv v] T,.row v te 1 ((MS s).map GK)] (λR H=>∃w0:Value,R=res∧H=[.blk b [rv (.pointer (some ⟨b,0,none⟩)),rv w0] T,.row w0 te 1 ((MS s').map GK)])) :
  Fn P E f args [.bld T te b v s] (λR H=>∃w0:Value,R=res∧H=[.bld T te b w0 s']):=λw Z vs hv hs=>by
 obtain⟨p,hp,h1,h2,h3⟩:=hs.has _ (List.mem_singleton.2 rfl);have hfoot:[Ent.bld T te b v s].flatMap Ent.foot=[Ent.blk b [rv p,rv v] T,Ent.row v te 1 ((MS s).map GK)].flatMap Ent.foot:=by simp[Ent.foot]
 have hs':St ⟨w,Z,[Ent.blk b [rv p,rv v] T,Ent.row v te 1 ((MS s).map GK)].flatMap Ent.foot,E,[]⟩ [Ent.blk b [rv p,rv v] T,Ent.row v te 1 ((MS s).map GK)] Z w:=by
  refine⟨rfl,rfl,rfl,RE _,λ_ _ _=>rfl,?_,λe he k hk=>.inr (List.mem_flatMap.2 ⟨e,he,hk⟩),?_,hs.frz,Fz.le.refl _,λ_ _ e=>.inl e,λe he k hk=>?_,hs.env,hs.emono,GP.none rfl⟩
  ·intro e he;simp only[Sq,List.not_mem_nil,or_false] at he;rcases he with rfl | rfl
   ·exact⟨[p,v],h1,rfl,rfl,trivial⟩
   ·refine⟨λcl hcl=>by obtain⟨z,_,rfl⟩:=List.mem_map.1 hcl;rfl,_,by simpa[LF] using h2,?_⟩;rw[Jb];exact AL.rvs Z _
  ·refine List.pairwise_cons.2 ⟨λe he k hk hk'=>?_,List.pairwise_singleton ..⟩;simp only[RJ] at he;subst he;simp only[Ent.foot,RJ] at hk;subst hk;simp only[Ent.foot,Option.mem_toList] at hk';exact h3 hk'
  ·have hmem:k∈[Ent.bld T te b v s].flatMap Ent.foot:=by rw[hfoot];exact List.mem_flatMap.2 ⟨e,he,hk⟩
   obtain⟨e',he',hk'⟩:=List.mem_flatMap.1 hmem;exact hs.zdis e' he' k hk'
 rw[hfoot] at hs ⊢;refine(h p hp w Z vs hv hs').mono λe w' ⟨R,vv,H,Z',he,⟨w0,hR,hH⟩,hpR,ht⟩=>⟨R,vv,[.bld T te b w0 s'],Z',he,⟨w0,hR,rfl⟩,hpR,?_⟩
 subst hH;obtain⟨us,k1,k2⟩:=ht.has (.blk b [rv (.pointer (some ⟨b,0,none⟩)),rv w0] T) (by simp);obtain⟨k3,ws,k4,k5⟩:=ht.has (.row w0 te 1 ((MS s').map GK)) (by simp);have e1:=AL.eq_rv (us:=[.pointer (some ⟨b,0,none⟩),w0]) k2;subst e1;rw[Jb] at k5;have e2:=AL.eq_rv k5;subst e2;have hd:=List.pairwise_cons.1 ht.dis;have hne:w0.ownBlock≠some b:=λhb=>hd.1 _ (List.mem_singleton.2 rfl) b (by simp[Ent.foot]) (by simp[Ent.foot,hb]);refine { ht with has:=?_,own:=?_,dis:=List.pairwise_singleton ..,zdis:=?_,gst:=⟨by simp[Ent.gk],by simp[Ent.gk],List.pairwise_singleton ..,ht.gst.new,by simp[Ent.gk]⟩ }
 ·intro e' he';simp only[RJ] at he';subst he';exact⟨_,.inr rfl,k1,by simpa[LF] using k4,hne⟩
 ·intro e' he' k hk;simp only[RJ] at he';subst he';simp only[Ent.foot,Sq] at hk;rcases hk with rfl | hk
  ·exact ht.own (.blk k [rv (.pointer (some ⟨k,0,none⟩)),rv w0] T) (by simp) k (by simp[Ent.foot])
  ·exact ht.own (.row w0 te 1 ((MS s').map GK)) (by simp) k hk
 ·intro e' he' k hk;simp only[RJ] at he';subst he';simp only[Ent.foot,Sq] at hk;rcases hk with rfl | hk
  ·exact ht.zdis (.blk k [rv (.pointer (some ⟨k,0,none⟩)),rv w0] T) (by simp) k (by simp[Ent.foot])
  ·exact ht.zdis (.row w0 te 1 ((MS s').map GK)) (by simp) k hk
theorem NI (hu:∃e',P.underlying t=some (.pointer e'))(hx:ev l x=some (rv (.pointer none))):AU P n c l H { dst:=d',op:=.binOp .eql t x (.const (.pointer none)) t',type:=ty,pos:=pos,after:=af,guard:=g } (rB true):=λa w Z ha _=>Cr<|by
 obtain⟨e',hu⟩:=hu;have h1:∀dd:Nat,(Op.equalIn (dd+1) t (.pointer none) (.pointer none)).run P w = .ok true w:=λdd=>by simp[Op.equalIn,run_underlying hu]
 have h2:(Op.equal t (.pointer none) (.pointer none)).run P w = .ok true w:=h1 9999;have h3:(eqGuard .eql t x (.const (.pointer none)) (.pointer none) (.pointer none)).run P w = .ok () w:=by unfold eqGuard;split<;>simp
 have hy:a.eval (.const (.pointer none)) = .pointer none:=rfl;simp only[execOp,ha.eval hx,hy,Sem.run_bind,h3,Result.andThen_ok,binOp,h2,Sem.run_pure]
theorem Jh {p:Addr}(hu:∃e',P.underlying t=some (.pointer e'))(hx:ev l x=some (rv (.pointer (some p)))):AU P n c l H { dst:=d',op:=.binOp .neq t x (.const (.pointer none)) t',type:=ty,pos:=pos,after:=af,guard:=g } (rB true):=λa w Z ha _=>Cr<|by
 obtain⟨e',hu⟩:=hu;have h1:∀dd:Nat,(Op.equalIn (dd+1) t (.pointer (some p)) (.pointer none)).run P w = .ok false w:=λdd=>by simp[Op.equalIn,run_underlying hu]
 have h2:(Op.equal t (.pointer (some p)) (.pointer none)).run P w = .ok false w:=h1 9999;have h3:(eqGuard .neq t x (.const (.pointer none)) (.pointer (some p)) (.pointer none)).run P w = .ok () w:=by unfold eqGuard;split<;>simp
 have hy:a.eval (.const (.pointer none)) = .pointer none:=rfl;simp only[execOp,ha.eval hx,hy,Sem.run_bind,h3,Result.andThen_ok,binOp,h2,Sem.run_pure];rfl
theorem K5 (hu:∃e',P.underlying t=some (.pointer e'))(hx:ev l x=some (rv (.pointer none))):AU P n c l H { dst:=d',op:=.binOp .neq t x (.const (.pointer none)) t',type:=ty,pos:=pos,after:=af,guard:=g } (rB false):=λa w Z ha _=>Cr<|by
 obtain⟨e',hu⟩:=hu;have h1:∀dd:Nat,(Op.equalIn (dd+1) t (.pointer none) (.pointer none)).run P w = .ok true w:=λdd=>by simp[Op.equalIn,run_underlying hu]
 have h2:(Op.equal t (.pointer none) (.pointer none)).run P w = .ok true w:=h1 9999;have h3:(eqGuard .neq t x (.const (.pointer none)) (.pointer none) (.pointer none)).run P w = .ok () w:=by unfold eqGuard;split<;>simp
 have hy:a.eval (.const (.pointer none)) = .pointer none:=rfl;simp only[execOp,ha.eval hx,hy,Sem.run_bind,h3,Result.andThen_ok,binOp,h2,Sem.run_pure];rfl
section
variable {P : Program} {n : Nat} {c : Cx} {l : Fr} {H : List Ent} {d' : Option Nat} {x : Operand} {ty t t' e : TypeId} {pos : String} {af : Array Edge} {g : Option (Nat × Bool)} {v : Value}
end
theorem Kx {f:FuncId}{args:List Operand}{ats:Array TypeId}{o:Oper}{a:Act}{caps:List Value}(ho:o.op = .call { callee:=.value x,args:=args.toArray,argTypes:=ats })(hx:a.eval x = .func (.func f) #[] caps.toArray)
  (hcall:∀(as1:Array Value) (w:World),(callFunc f as1).run P w = .ok (.enter f as1) w) (w:World):(execOp a.eval o).run P w = .ok (.enter f (args.map a.eval++caps).toArray) w:=by
 simp[execOp,ho,resolve,hx,Deferred.ofValue,invoke,hcall]
theorem Gm {f:FuncId}{args:List Operand}{ats:Array TypeId}{rs:List Rp}{caps:List Value}{Hin Hr:List Ent}{Φ:Rp→List Ent→Prop}(hcall:∀(as1:Array Value) (w:World),(callFunc f as1).run P w = .ok (.enter f as1) w)(hx:ev l x=some (rv (.func (.func f) #[] caps.toArray)))(hv:HH l args=some rs)
  (hp:H.Perm (Hin++Hr)) (hc:Fn P c.E f (rs++caps.map rv) Hin Φ) (hn:Nat.blt d n=true) (h:∀r Ho,Φ r Ho→WL P n c ops Q rest ((d,r)::l) (Ho++Hr)) :
  WL P n c ops Q ({ dst:=some d,op:=.call { callee:=.value x,args:=args.toArray,argTypes:=ats },type:=ty,pos:=pos,after:=af,guard:=none }::rest) l H:=
 Gk (args:=λa=>(args.map a.eval++caps).toArray) (λa w Z ha hw=>⟨Kx rfl (ha.eval hx) hcall w,by
  have hw2:=hw.perm hp;refine(hc w Z _ (by have:=(DM ha hv).append (AL.rvs Z caps);simpa using this) hw2.enter).mono ?_;rintro e w' ⟨r,v,Ho,Z',he,hΦ,hr,hs⟩;exact⟨v,r,Ho++Hr,Z',he,hs.le,hr,hw2.call hs,h r Ho hΦ⟩⟩) hn
end
section
variable {P : Program} {n : Nat} {c : Cx} {ops : Array Oper} {Q : Exit → Act → World → Prop} {rest : List Oper} {l : Fr} {H : List Ent} {d : Nat} {ty : TypeId} {pos : String} {af : Array Edge} {r : Rp} {x y z3 : Operand}
theorem wo {d:Option Nat}{op:Op}{j dj:Nat}{want b:Bool}(hb:b=want)(h:WL P n c ops Q ({ dst:=d,op:=op,type:=ty,pos:=pos,after:=af,guard:=none }::rest) l H)(hj:Cn ops j=some dj:=by rfl)(hv:look l dj=some (rB b):=by rfl) :
  WL P n c ops Q ({ dst:=d,op:=op,type:=ty,pos:=pos,after:=af,guard:=some (j,want) }::rest) l H:=Ax hj hv hb h
theorem wf {op:Op}{j dj:Nat}{want b:Bool}(hb:b = !want)(h:WL P n c ops Q rest ((d,rv undef)::l) H)(hj:Cn ops j=some dj:=by rfl)(hv:look l dj=some (rB b):=by rfl)(hn:Nat.blt d n=true:=by rfl) :
  WL P n c ops Q ({ dst:=some d,op:=op,type:=ty,pos:=pos,after:=af,guard:=some (j,want) }::rest) l H:=Ad hj hv hb hn h
theorem wu {op:Op}{j dj:Nat}{want:Bool}(h:WL P n c ops Q rest ((d,rv undef)::l) H)(hj:Cn ops j=some dj:=by rfl)(hv:look l dj=some (rv undef):=by rfl)(hn:Nat.blt d n=true:=by rfl) :
  WL P n c ops Q ({ dst:=some d,op:=op,type:=ty,pos:=pos,after:=af,guard:=some (j,want) }::rest) l H:=Dl hj hv hn h
theorem wv {op:Op}(hr:AU P n c l H { dst:=some d,op:=op,type:=ty,pos:=pos,after:=af,guard:=none } r)(h:WL P n c ops Q rest ((d,r)::l) H)(hn:Nat.blt d n=true:=by rfl):WL P n c ops Q ({ dst:=some d,op:=op,type:=ty,pos:=pos,after:=af,guard:=none }::rest) l H:=Ay hr hn h
theorem wm (h:ev l x=some r)(hk:WL P n c ops Q rest ((d,r)::l) H)(hn:Nat.blt d n=true:=by rfl):WL P n c ops Q ({ dst:=some d,op:=.move x,type:=ty,pos:=pos,after:=af,guard:=none }::rest) l H:=Ay (Au h) hn hk
theorem wa (h:ev l x=some r)(hk:WL P n c ops Q rest ((d,r)::l) H)(hn:Nat.blt d n=true:=by rfl):WL P n c ops Q ({ dst:=some d,op:=.assign x,type:=ty,pos:=pos,after:=af,guard:=none }::rest) l H:=Ay (Aj h) hn hk
theorem DU {b:Bool}(hc:ev l z3=some (rB b))(hb:b=true)(h:ev l x=some r)(hk:WL P n c ops Q rest ((d,r)::l) H)(hn:Nat.blt d n=true:=by rfl):WL P n c ops Q ({ dst:=some d,op:=.pick z3 x y,type:=ty,pos:=pos,after:=af,guard:=none }::rest) l H:=Ay (Am hc hb h) hn hk
theorem Ez {b:Bool}(hc:ev l z3=some (rB b))(hb:b=false)(h:ev l y=some r)(hk:WL P n c ops Q rest ((d,r)::l) H)(hn:Nat.blt d n=true:=by rfl):WL P n c ops Q ({ dst:=some d,op:=.pick z3 x y,type:=ty,pos:=pos,after:=af,guard:=none }::rest) l H:=Ay (As hc hb h) hn hk
theorem DB {f:FuncId}{args:List Operand}{ats:Array TypeId}{rs:List Rp}(hcall:∀(as1:Array Value) (w:World),(callFunc f as1).run P w = .ok (.enter f as1) w)(hc:IE P c.E f rs r)(hv:HH l args=some rs)(h:WL P n c ops Q rest ((d,r)::l) H)(hn:Nat.blt d n=true:=by rfl) :
  WL P n c ops Q ({ dst:=some d,op:=.call { callee:=.value (.func f),args:=args.toArray,argTypes:=ats },type:=ty,pos:=pos,after:=af,guard:=none }::rest) l H:=Cy hcall hv hc rfl hn h
theorem CZ {f:FuncId}{args:List Operand}{ats:Array TypeId}{rs:List Rp}{Hin Hr:List Ent}{Φ:Rp→List Ent→Prop}(hcall:∀(as1:Array Value) (w:World),(callFunc f as1).run P w = .ok (.enter f as1) w)(hc:Fn P c.E f rs Hin Φ)(hv:HH l args=some rs)
  (hp:H.Perm (Hin++Hr)) (hn:Nat.blt d n=true) (h:∀r Ho,Φ r Ho→WL P n c ops Q rest ((d,r)::l) (Ho++Hr)) :
  WL P n c ops Q ({ dst:=some d,op:=.call { callee:=.value (.func f),args:=args.toArray,argTypes:=ats },type:=ty,pos:=pos,after:=af,guard:=none }::rest) l H:=CJ hcall hv hp hc hn h
theorem NF {opsA:Array Oper}{f:FuncId}{args:List Operand}{ats:Array TypeId}{rs:List Rp}(hcall:∀(as1:Array Value) (w:World),(callFunc f as1).run P w = .ok (.enter f as1) w)(hc:IE P c.E f rs r)(hv:HH l args=some rs) :
  Co P n c opsA Q l H { dst:=some d,op:=.call { callee:=.value (.func f),args:=args.toArray,argTypes:=ats },type:=ty,pos:=pos,after:=af,guard:=none } r H:=K3 hcall hv hc rfl
theorem wt {K:Exit→Act→World→Prop}{l1:Fr}{H1:List Ent}(hl:AQ l1 l:=by repeat (first | exact AQ.nil | refine AQ.c rfl ?_))(hH:H1.Sublist H:=by repeat (first | exact sN | refine sC ?_ | refine sS ?_)):WK n c (Exit.then (Q0 n c l1 H1) K .normal) l H:=A3 (Bn hl hH)
theorem BY {p:Prop}(hp:p){K:Exit→Act→World→Prop}{l1:Fr}{H1:List Ent}(hl:p→AQ l1 l:=by intro hp;repeat (first | exact AQ.nil | refine AQ.c rfl ?_ | refine AQ.c (by first | (simp only[hp];rfl) | simp[hp]) ?_))(hH:H1.Sublist H:=by repeat (first | exact sN | refine sC ?_ | refine sS ?_)):WK n c (Exit.then (Q0 n c l1 H1) K .normal) l H:=A3 (Bn (hl hp) hH)
end
open Go Go.RowKit Go.ChangeShapes Go.Deep
def ZW (W:World):Fz:=⟨λb=>W.heap[b]?,λ_ _=>none⟩
theorem ZW.frz (W:World):MQ (ZW W) W:=⟨λ_ _ h=>h,λ_ _ _ h=>by cases h⟩
def HK (P:Program)(e:TypeId){α:Type}(enc:α→List Rp)(ok:α→Bool):Prop:=
 ∀{H:Type} {encH:TypeId×Value→H} {W:World} {sp:Nat→Bool} {held:Bool} {n:Nat} {cs:List Value} {x:DataW H×List MemPlace},DataW.trod encH P W 0 sp held n e cs=some x→∃y:α,ok y=true∧AL (ZW W) (enc y) cs
section
variable {P : Program} {e t : TypeId}
theorem HK.int {k:IntKind}{enc:Int→List Rp}(ht:P.underlying e=some (.int k))(he:∀n,enc n=[rI k n]):HK P e enc (Ce k):=λh=>by
 obtain⟨n,rfl,_,hwf⟩:=DataW.trod_int ht h;exact⟨n,hwf,by rw[he];exact⟨rfl,trivial⟩⟩
theorem HK.str {enc:AI→List Rp}(ht:P.underlying e=some .string)(he:∀n,enc n=[rS n]):HK P e enc Ov:=λh=>by
 obtain⟨s,rfl,_,hl⟩:=DataW.trod_string ht h;exact⟨s.data.toList,Sh (by rw[Array.length_toList];exact hl),by rw[he];exact⟨congrArg Value.string (Rn s),trivial⟩⟩
theorem HK.bool {enc:Bool→List Rp}(ht:P.underlying e=some .bool)(he:∀n,enc n=[rB n]):HK P e enc (λ_=>true):=λh=>by
 obtain⟨b,rfl,_⟩:=DataW.trod_bool ht h;exact⟨b,rfl,by rw[he];exact⟨rfl,trivial⟩⟩
theorem Jx {W:World}{a:Addr}{v:Value}(h:W.cell? a=some v):a.spot=none∧Ep (ZW W) a.block a.off=some v:=by
 unfold World.cell? at h;unfold Ep ZW;dsimp only
 cases hh:W.heap[a.block]? with
 | none=>rw[hh] at h;cases h
 | some o=>
  rw[hh] at h
  cases o with
  | cells cs t fz=>
   cases hs:a.spot with
   | none=>simp[hs] at h;exact⟨rfl,h⟩
   | some _=>simp[hs] at h
  | _=>simp at h
theorem HK.slice {α:Type}[Inhabited α]{enc:α→List Rp}{ok:α→Bool}{sz:Nat}(ht:P.underlying t=some (.slice e))(hc:P.cellsOf e=sz)(hsz:0<sz)(h:HK P e enc ok)(hlen:∀y,(enc y).length=sz){enc':List α→List Rp}(he:∀ys,enc' ys=[Cb sz (ys.map enc)]) :
  HK P t enc' (λys=>ys.all ok&&decide (ys.length≤9223372036854775807)):=fun {H encH W sp held n cs x} hx=>by
 rcases open_slice ht hx with⟨rfl,_⟩ | ⟨a,len,cap,m,n',D,Pl,rfl,hb,hl,hm,hmm,_,hel⟩
 ·exact⟨[],by simp,by rw[he];exact⟨Me.nil sz _,trivial⟩⟩
 ·have hlm:len≤m:=by rw[hmm];split<;>omega
  have each:∀i,i<len→∃y:α,ok y=true∧∃cs',W.cells? 0 (a.add (i*sz)) sz=some cs'∧AL (ZW W) (enc y) cs':=λi hi=>by
   obtain⟨cs',h1,h2⟩:=hel i (by omega);obtain⟨y,hy,hr⟩:=h h2;rw[hc] at h1;exact⟨y,hy,cs',h1,hr⟩
  obtain⟨f,hf⟩:=choose_lt each;refine⟨(List.range len).map f,?_,?_⟩
  ·simp only[RC,RS,List.mem_map,List.mem_range,R8];refine⟨?_,by simp;simp only[maxLen] at hm;omega⟩;rintro _ ⟨i,hi,rfl⟩;exact(hf i hi).1
  ·rw[he];refine⟨⟨some a,cap,by simp,by simpa using hl,hm,(λh=>by cases h),λi c hi=>?_⟩,trivial⟩;rw[List.map_map,Sb] at hi;have hil:i<len:=by
    cases hq:(List.range len)[i]? with
    | none=>rw[hq] at hi;cases hi
    | some _=>have:=(List.getElem?_eq_some_iff.1 hq).1;simpa using this
   rw[List.getElem?_range hil] at hi;simp only[Option.map_some,Option.some.injEq,Function.comp] at hi;subst hi;obtain⟨_,cs',h1,hr⟩:=hf i hil;obtain⟨_,hcl,hcell⟩:=World.cells?_some h1;have hsp:a.spot=none:=by
    obtain⟨_,cs0,g1,_⟩:=hf 0 (by omega);obtain⟨_,gcl,gcell⟩:=World.cells?_some g1;have h0:=gcell 0 hsz;rw[R9 (by omega)] at h0;have:=(Jx h0).1;simpa[Addr.add] using this
   refine⟨hlen _,a,rfl,hsp,λj r hj=>?_⟩;obtain⟨u,hu,hp⟩:=hr.at hj;have hjs:j<sz:=by have:=(List.getElem?_eq_some_iff.1 hj).1;rw[hlen] at this;exact this
   have h3:=hcell j hjs;rw[hu] at h3;have h4:=(Jx h3).2;refine⟨u,?_,hp⟩;have e1:((a.add (i*sz)).add j).block=a.block:=by simp only[Addr.add];split<;>split<;>rfl
   have e2:((a.add (i*sz)).add j).off=a.off+(i*sz+j):=by simp only[Addr.add];split<;>split<;>simp_all<;>omega
   rw[e1,e2] at h4;exact h4
theorem JF {Z:Fz}{cs:List Value}{o:Nat}(h:cs.length=o):AL Z [] (cs.drop o):=by rw[List.drop_of_length_le (by omega)];trivial
theorem B8 {Z:Fz}{cs:List Value}{o s o':Nat}{rs rs':List Rp}(h:AL Z rs ((cs.drop o).take s))(ho:o+s=o')(h2:AL Z rs' (cs.drop o')):AL Z (rs++rs') (cs.drop o):=by
 rw[← List.take_append_drop s (cs.drop o),List.drop_drop];subst ho;exact h.append h2
theorem HK.val {α:Type}{enc:α→List Rp}{ok:α→Bool}(h:HK P e enc ok){r:α→Rp}(he:∀y,enc y=[r y]){H:Type}{encH:TypeId×Value→H}{W:World}{sp:Nat→Bool}{held:Bool}{v:Value}{d:DataW H}{ps:List MemPlace}
  (hone:v.cells = #[v]) (ht:DataW.Trod encH P W 0 sp held e v d ps):∃y:α,ok y=true∧(r y).p (ZW W) v:=by
 obtain⟨fuel,hf⟩:=ht;rw[hone] at hf;obtain⟨y,hy,hr⟩:=h hf;rw[he] at hr;exact⟨y,hy,hr.1⟩
theorem HK.valAgg {α:Type}{enc:α→List Rp}{ok:α→Bool}(h:HK P e enc ok){H:Type}{encH:TypeId×Value→H}{W:World}{sp:Nat→Bool}{held:Bool}{cs:Array Value}{d:DataW H}{ps:List MemPlace}
  (ht:DataW.Trod encH P W 0 sp held e (.agg cs) d ps):∃y:α,ok y=true∧(Bh (enc y)).p (ZW W) (.agg cs):=by
 obtain⟨fuel,hf⟩:=ht;obtain⟨y,hy,hr⟩:=h hf;exact⟨y,hy,cs.toList,by simp,hr⟩
end
theorem NY {W w:World}(hw:MQ (ZW W) w):W.heap.size≤w.heap.size:=by
 rcases Nat.eq_zero_or_pos W.heap.size with h | h
 ·omega
 ·have h1:W.heap[W.heap.size-1]? =some (W.heap[W.heap.size-1]'(by omega)):=Array.getElem?_eq_getElem (by omega);have:=(Array.getElem?_eq_some_iff.1 (hw _ _ h1)).1;omega
theorem MH {W:World}(hE:Mf W):GE (ZW W):=λw hw=>by
 have hb:Below W.heap.size W { w with os:=W.os,tape:=W.tape,output:=W.output }:=⟨rfl,rfl,rfl,(show W.heap.size≤w.heap.size from NY hw),λk hk=>by
  have h1:W.heap[k]? =some (W.heap[k]'hk):=Array.getElem?_eq_getElem hk;rw[h1];exact hw k _ h1⟩
 have hE2:=hE.st0 (St.of_below hb);exact⟨Ka.block { w with os:=W.os,tape:=W.tape,output:=W.output } w (λ_ _=>rfl) hE2.tabs,hE2.size⟩
theorem Nv {W:World}(hE:Mf W):St ⟨W,ZW W,[],GE,[]⟩ [] (ZW W) W where
 os:=rfl
 tape:=rfl
 output:=rfl
 size:=RE _
 old:=λ_ _ _=>rfl
 has:=λ_ h=>by cases h
 own:=λ_ h=>by cases h
 dis:=.nil
 frz:=ZW.frz W
 le:=Fz.le.refl _
 new:=λ_ _ h=>.inl h
 zdis:=λ_ h=>by cases h
 env:=MH hE
 emono:=λh hg=>GE.mono h hg
 gst:=GP.none rfl
theorem Nw {W W':World}{Z Z':Fz}{E:Fz→Prop}{H:List Ent}(h:St ⟨W,Z,[],E,[]⟩ H Z' W'):Below W.heap.size W W':=⟨h.os,h.tape,h.output,h.size,λk hk=>h.old k hk (by simp)⟩
open Go
set_option maxRecDepth 100000
set_option maxHeartbeats 4000000
end Go.Proofs.YthbbedliepkakaaGreatDoor.Q
namespace Go.Proofs.YthbbedliepkakaaGreatDoor
open Go
set_option linter.unusedVariables false
structure Ap where
 fKind:Int
 fInt:Int
 fStr:AI
 fN:Int
 deriving DecidableEq,Inhabited
def Mz (s:AI)(ha:Int):Option (Stp (Int) (Out (Bool) (Unit))):=
 BF (decide (ha<(s.length:Int))) (Bo (CF ha (s.length:Int))<|BF (((decide ((D1 s ha)<32))||(decide (126<(D1 s ha))))) (some (.out (.ret false))) (Bo (Ce .i64 (ha+1))<|some (.next (ha+1)))) (some (.out (.go ())))
def Mx :Option (Bool):=
 some true
def JI (F:Nat)(s:AI):Option (Bool):=
 BN (Dv (λσ=>Mz s σ) F 0) (BW λν=>Mx )
def BI (ok:Bool)(i:Int):Option (Int):=
 BF (ok) (Bo (Ce .i64 (i+1))<|some (i+1)) (some (-1))
def N5 (F:Nat)(c:Ap):Option (Bool):=
 Bo (imp (decide (c.fKind=4)) (imp (decide (c.fInt=0)) (imp (decide (c.fN=0)) ((JI F c.fStr).isSome))))<|some ((decide (c.fKind=4))&&((decide (c.fInt=0))&&((decide (c.fN=0))&&(ov (JI F c.fStr)))))
def N3 (F:Nat)(ha:(List Ap)→Int→Int→Option (Int))(hb:(List Ap)→Int→Int→Option (Int))(v:(List Ap))(i:Int):Option (Int):=
 BF (((decide (i<0))||(decide ((v.length:Int)≤i)))) (some (-1)) (Bo (CF i (v.length:Int))<|BF (decide (((Ab v i).fKind)=1)) (Bo (imp (decide (((Ab v i).fInt)=0)) (imp (decide (((Ab v i).fStr)=([]:AI))) ((BI (decide (((Ab v i).fN)=0)) i).isSome)))<|Bo (imp (decide (((Ab v i).fInt)=0)) (imp (!(decide (((Ab v i).fStr)=([]:AI)))) ((BI false i).isSome)))<|Bo (imp (!(decide (((Ab v i).fInt)=0))) ((BI false i).isSome))<|some (bif decide (((Ab v i).fInt)=0) then(bif decide (((Ab v i).fStr)=([]:AI)) then(ov (BI (decide (((Ab v i).fN)=0)) i)) else(ov (BI false i))) else(ov (BI false i)))) (BF (decide (((Ab v i).fKind)=2)) (Bo (imp (decide (((Ab v i).fInt)=0)) (imp (decide (((Ab v i).fStr)=([]:AI))) ((BI (decide (((Ab v i).fN)=0)) i).isSome)))<|Bo (imp (decide (((Ab v i).fInt)=0)) (imp (!(decide (((Ab v i).fStr)=([]:AI)))) ((BI false i).isSome)))<|Bo (imp (!(decide (((Ab v i).fInt)=0))) (imp (decide (((Ab v i).fInt)=1)) (imp (decide (((Ab v i).fStr)=([]:AI))) ((BI (decide (((Ab v i).fN)=0)) i).isSome))))<|Bo (imp (!(decide (((Ab v i).fInt)=0))) (imp (decide (((Ab v i).fInt)=1)) (imp (!(decide (((Ab v i).fStr)=([]:AI)))) ((BI false i).isSome))))<|Bo (imp (!(decide (((Ab v i).fInt)=0))) (imp (!(decide (((Ab v i).fInt)=1))) ((BI false i).isSome)))<|some (bif decide (((Ab v i).fInt)=0) then(bif decide (((Ab v i).fStr)=([]:AI)) then(ov (BI (decide (((Ab v i).fN)=0)) i)) else(ov (BI false i))) else(bif decide (((Ab v i).fInt)=1) then(bif decide (((Ab v i).fStr)=([]:AI)) then(ov (BI (decide (((Ab v i).fN)=0)) i)) else(ov (BI false i))) else(ov (BI false i))))) (BF (decide (((Ab v i).fKind)=3)) (Bo (imp (decide (((Ab v i).fStr)=([]:AI))) ((BI (decide (((Ab v i).fN)=0)) i).isSome))<|Bo (imp (!(decide (((Ab v i).fStr)=([]:AI)))) ((BI false i).isSome))<|some (bif decide (((Ab v i).fStr)=([]:AI)) then(ov (BI (decide (((Ab v i).fN)=0)) i)) else(ov (BI false i)))) (BF (decide (((Ab v i).fKind)=4)) (BN (N5 F (Ab v i)) λhd=>BN (BI hd i) λhe=>some he) (BF (((decide (((Ab v i).fKind)=5))&&((decide (((Ab v i).fInt)=0))&&((decide (((Ab v i).fStr)=([]:AI)))&&(decide (0≤((Ab v i).fN))))))) (Bo (Ce .i64 (i+1))<|BN (ha v (i+1) ((Ab v i).fN)) λhf=>some hf) (BF (((decide (((Ab v i).fKind)=6))&&((decide (((Ab v i).fInt)=0))&&((decide (((Ab v i).fStr)=([]:AI)))&&(decide (0≤((Ab v i).fN))))))) (Bo (Ce .i64 (i+1))<|BN (hb v (i+1) ((Ab v i).fN)) λhg=>some hg) (some (-1))))))))
def Cq (v:(List Ap))(n:Int)(he:(List Ap)→Int→Option (Int))(hb:Int)(ha:Int):Option (Stp (Int×Int) (Out (Int) (Int))):=
 BF (decide (ha<n)) (BN (he v hb) λhd=>BF (decide (hd<0)) (some (.out (.ret (-1)))) (Bo (Ce .i64 (ha+1))<|some (.next (hd,ha+1)))) (some (.out (.go hb)))
def Em (ha:Int):Option (Int):=
 some ha
def Iz (F:Nat)(ha:(List Ap)→Int→Option (Int))(v:(List Ap))(i:Int)(n:Int):Option (Int):=
 BN (Dv (λσ=>Cq v n ha σ.1 σ.2) F (i,0)) (BW λν=>Em ν)
def C9 (F:Nat)(v:(List Ap))(n:Int)(hf:(List Ap)→Int→Option (Int))(ha:Int)(hd:AI)(hb:Int):Option (Stp (Int×AI×Int) (Out (Int) (Int))):=
 BF (decide (hb<n)) (Bo (imp (!(decide ((v.length:Int)≤ha))) (CF ha (v.length:Int)))<|Bo (imp (!(decide ((v.length:Int)≤ha))) ((N5 F (Ab v ha)).isSome))<|BF (((decide ((v.length:Int)≤ha))||((!(ov (N5 F (Ab v ha))))||((decide (0<hb))&&(CM ((Ab v ha).fStr) hd||decide (((Ab v ha).fStr)=hd)))))) (some (.out (.ret (-1)))) (Bo (CF ha (v.length:Int))<|Bo (Ce .i64 (ha+1))<|BN (hf v (ha+1)) λhe=>BF (decide (he<0)) (some (.out (.ret (-1)))) (Bo (Ce .i64 (hb+1))<|some (.next (he,(Ab v ha).fStr,hb+1))))) (some (.out (.go ha)))
def Ha (ha:Int):Option (Int):=
 some ha
def LH (F:Nat)(ha:(List Ap)→Int→Option (Int))(v:(List Ap))(i:Int)(n:Int):Option (Int):=
 BN (Dv (λσ=>C9 F v n ha σ.1 σ.2.1 σ.2.2) F (i,([]:AI),0)) (BW λν=>Ha ν)
mutual
def Jc:Nat→(List Ap)→Int→Option (Int)
 | 0,_,_=>none
 | nn+1,v,i=>N3 nn (Jd nn) (N2 nn) v i
def Jd:Nat→(List Ap)→Int→Int→Option (Int)
 | 0,_,_,_=>none
 | nn+1,v,i,n=>Iz nn (Jc nn) v i n
def N2:Nat→(List Ap)→Int→Int→Option (Int)
 | 0,_,_,_=>none
 | nn+1,v,i,n=>LH nn (Jc nn) v i n
end
end Go.Proofs.YthbbedliepkakaaGreatDoor
namespace Go.Proofs.YthbbedliepkakaaGreatDoor.Q
open Go Go.RowKit
set_option linter.unusedVariables false
set_option linter.unusedSimpArgs false
set_option maxRecDepth 100000
set_option maxHeartbeats 4000000
@[reducible] def Ak (x:Ap):List Rp:=[rI .i64 x.fKind,rI .i64 x.fInt,rS x.fStr,rI .i64 x.fN]
theorem Di (x:Ap):(Ak x).length=4:=rfl
theorem IW (x:Ap):(Ak x).all (·.one)=true:=rfl
end Go.Proofs.YthbbedliepkakaaGreatDoor.Q
namespace Go.Proofs.YthbbedliepkakaaGreatDoor
open Go
set_option linter.unusedVariables false
structure A2 where
 fPairs:Bool
 fLeft:Int
 fKey:Bool
 fLast:AI
 fStarted:Bool
 deriving DecidableEq,Inhabited
structure A8 where
 fDepth:Int
 fBytes:Int
 fOutside:Bool
 fLong:Bool
 deriving DecidableEq,Inhabited
def Be (n:Int):Option (Bool):=
 some ((decide ((-1000000000000)≤n))&&(decide (n≤1000000000000)))
def DX (s:AI)(ha:Int):Option (Stp (Int) (Out (Bool) (Unit))):=
 BF (decide (ha<(s.length:Int))) (Bo (CF ha (s.length:Int))<|BF (((decide ((D1 s ha)<32))||(decide (126<(D1 s ha))))) (some (.out (.ret false))) (Bo (Ce .i64 (ha+1))<|some (.next (ha+1)))) (some (.out (.go ())))
def DW :Option (Bool):=
 some true
def Gn (F:Nat)(s:AI):Option (Bool):=
 BN (Dv (λσ=>DX s σ) F 0) (BW λν=>DW )
def E9 (s:AI):Option (Int):=
 Bo (Ce .i64 ((s.length:Int)+2))<|Bo (Ce .i64 (((s.length:Int)+2)+(Lib.countByte s 34:Int)))<|Bo (Ce .i64 ((((s.length:Int)+2)+(Lib.countByte s 34:Int))+(Lib.countByte s 92:Int)))<|some ((((s.length:Int)+2)+(Lib.countByte s 34:Int))+(Lib.countByte s 92:Int))
def Ic (F:Nat)(c:Ap):Option (Bool):=
 BF (decide (c.fKind=1)) (some ((decide (c.fInt=0))&&((decide (c.fStr=([]:AI)))&&(decide (c.fN=0))))) (BF (decide (c.fKind=2)) (some (bif decide (c.fInt=0) then((decide (c.fStr=([]:AI)))&&(decide (c.fN=0))) else((decide (c.fInt=1))&&((decide (c.fStr=([]:AI)))&&(decide (c.fN=0)))))) (BF (decide (c.fKind=3)) (some ((decide (c.fStr=([]:AI)))&&(decide (c.fN=0)))) (BF (decide (c.fKind=4)) (Bo (imp (decide (c.fInt=0)) (imp (decide (c.fN=0)) ((Gn F c.fStr).isSome)))<|some ((decide (c.fInt=0))&&((decide (c.fN=0))&&(ov (Gn F c.fStr))))) (BF (decide (c.fKind=5)) (some ((decide (c.fInt=0))&&((decide (c.fStr=([]:AI)))&&(decide (0≤c.fN))))) (BF (decide (c.fKind=6)) (some ((decide (c.fInt=0))&&((decide (c.fStr=([]:AI)))&&(decide (0≤c.fN))))) (some false))))))
def Kk (c:Ap):Option (Int):=
 BF (decide (c.fKind=1)) (some 4) (BF (decide (c.fKind=2)) (some (IntKind.wrap .i64 (5-c.fInt))) (BF (decide (c.fKind=3)) (Bo (Ce .i64 c.fInt)<|some ((Lib.itoa c.fInt).length:Int)) (BF (decide (c.fKind=4)) (BN (E9 c.fStr) λha=>some ha) (some (IntKind.wrap .i64 (2+(max 0 (IntKind.wrap .i64 (c.fN-1)))))))))
def Ci (ha:(List A2)):Option (Stp ((List A2)) (Out ((List A2)) ((List A2)))):=
 BF (decide (0<(ha.length:Int))) (Bo (Ce .i64 ((ha.length:Int)-1))<|Bo (CF ((ha.length:Int)-1) (ha.length:Int))<|Bo (Ce .i64 (((Ab ha ((ha.length:Int)-1)).fLeft)-1))<|Oj (List.set ha (Int.toNat ((ha.length:Int)-1)) (A2.mk ((Ab ha ((ha.length:Int)-1)).fPairs) (((Ab ha ((ha.length:Int)-1)).fLeft)-1) ((Ab ha ((ha.length:Int)-1)).fKey) ((Ab ha ((ha.length:Int)-1)).fLast) ((Ab ha ((ha.length:Int)-1)).fStarted))) λhb=>BF (decide (0<((Ab hb ((ha.length:Int)-1)).fLeft))) (Oj (List.set hb (Int.toNat ((ha.length:Int)-1)) (A2.mk ((Ab hb ((ha.length:Int)-1)).fPairs) ((Ab hb ((ha.length:Int)-1)).fLeft) ((Ab hb ((ha.length:Int)-1)).fPairs) ((Ab hb ((ha.length:Int)-1)).fLast) ((Ab hb ((ha.length:Int)-1)).fStarted))) λhd=>some (.out (.ret hd))) (Bo (Ce .i64 ((hb.length:Int)-1))<|Bo (NU ((hb.length:Int)-1) (hb.length:Int))<|some (.next (List.take (Int.toNat ((hb.length:Int)-1)) hb)))) (some (.out (.go ha)))
def Cz (ha:(List A2)):Option ((List A2)):=
 some ha
def Gq (F:Nat)(stack:(List A2)):Option ((List A2)):=
 BN (Dv (λσ=>Ci σ) F stack) (BW λν=>Cz ν)
def Cu (ha:Int)(hb:(List A2))(hd:A8):Option (Stp ((List A2)×Int×A8) (Out (Int×A8×Bool) (A8))):=
 Bo (Ce .i64 (ha+1))<|some (.next (hb,ha+1,hd))
def D4 (F:Nat)(v:(List Ap))(ha:(List A2))(hb:Int)(hd:A8):Option (Stp ((List A2)×Int×A8) (Out (Int×A8×Bool) (A8))):=
 BF (decide (hb<(v.length:Int))) (Bo (CF hb (v.length:Int))<|BN (Ic F (Ab v hb)) λhj=>BF (!hj) (some (.out (.ret (0,hd,false)))) (Bo (imp (decide (0<(ha.length:Int))) (Ce .i64 ((ha.length:Int)-1)))<|Bo (imp (decide (0<(ha.length:Int))) (CF ((ha.length:Int)-1) (ha.length:Int)))<|BF (((decide (0<(ha.length:Int)))&&((Ab ha ((ha.length:Int)-1)).fKey))) (Bo (Ce .i64 ((ha.length:Int)-1))<|Bo (CF ((ha.length:Int)-1) (ha.length:Int))<|BF (((!decide (((Ab v hb).fKind)=4))||(((Ab ha ((ha.length:Int)-1)).fStarted)&&(CM ((Ab v hb).fStr) ((Ab ha ((ha.length:Int)-1)).fLast)||decide (((Ab v hb).fStr)=((Ab ha ((ha.length:Int)-1)).fLast)))))) (some (.out (.ret (0,hd,false)))) (Oj (List.set ha (Int.toNat ((ha.length:Int)-1)) (A2.mk ((Ab ha ((ha.length:Int)-1)).fPairs) ((Ab ha ((ha.length:Int)-1)).fLeft) ((Ab ha ((ha.length:Int)-1)).fKey) ((Ab v hb).fStr) ((Ab ha ((ha.length:Int)-1)).fStarted))) λhe=>Oj (List.set he (Int.toNat ((ha.length:Int)-1)) (A2.mk ((Ab he ((ha.length:Int)-1)).fPairs) ((Ab he ((ha.length:Int)-1)).fLeft) ((Ab he ((ha.length:Int)-1)).fKey) ((Ab he ((ha.length:Int)-1)).fLast) true)) λhf=>Oj (List.set hf (Int.toNat ((ha.length:Int)-1)) (A2.mk ((Ab hf ((ha.length:Int)-1)).fPairs) ((Ab hf ((ha.length:Int)-1)).fLeft) false ((Ab hf ((ha.length:Int)-1)).fLast) ((Ab hf ((ha.length:Int)-1)).fStarted))) λhk=>BN (E9 ((Ab v hb).fStr)) λhh=>Bo (Ce .i64 (hh+1))<|Cu hb hk (A8.mk hd.fDepth (IntKind.wrap .i64 (hd.fBytes+(hh+1))) hd.fOutside (hd.fLong||(decide (200<(((Ab v hb).fStr).length:Int))))))) (Bo (Ce .i64 ((ha.length:Int)+1))<|BN (Kk (Ab v hb)) λhg=>Bo (imp (!hd.fOutside) (imp (decide (((Ab v hb).fKind)=3)) ((Be ((Ab v hb).fInt)).isSome)))<|BF (decide (0<((Ab v hb).fN))) (BF (decide ((v.length:Int)<((Ab v hb).fN))) (some (.out (.ret (0,(A8.mk (max hd.fDepth ((ha.length:Int)+1)) (IntKind.wrap .i64 (hd.fBytes+hg)) (hd.fOutside||((decide (((Ab v hb).fKind)=3))&&(!(ov (Be ((Ab v hb).fInt)))))) (hd.fLong||(decide (200<(((Ab v hb).fStr).length:Int))))),false)))) (Bo (KL 48 (ha.length+([(A2.mk (decide (((Ab v hb).fKind)=6)) ((Ab v hb).fN) (decide (((Ab v hb).fKind)=6)) ([]:AI) false)]:List A2).length))<|Cu hb (ha++([(A2.mk (decide (((Ab v hb).fKind)=6)) ((Ab v hb).fN) (decide (((Ab v hb).fKind)=6)) ([]:AI) false)]:List A2)) (A8.mk (max hd.fDepth ((ha.length:Int)+1)) (IntKind.wrap .i64 (hd.fBytes+hg)) (hd.fOutside||((decide (((Ab v hb).fKind)=3))&&(!(ov (Be ((Ab v hb).fInt)))))) (hd.fLong||(decide (200<(((Ab v hb).fStr).length:Int))))))) (BN (Gq F ha) λhi=>BF (decide ((hi.length:Int)=0)) (Bo (Ce .i64 (hb+1))<|some (.out (.ret (hb+1,(A8.mk (max hd.fDepth ((ha.length:Int)+1)) (IntKind.wrap .i64 (hd.fBytes+hg)) (hd.fOutside||((decide (((Ab v hb).fKind)=3))&&(!(ov (Be ((Ab v hb).fInt)))))) (hd.fLong||(decide (200<(((Ab v hb).fStr).length:Int))))),true)))) (Cu hb hi (A8.mk (max hd.fDepth ((ha.length:Int)+1)) (IntKind.wrap .i64 (hd.fBytes+hg)) (hd.fOutside||((decide (((Ab v hb).fKind)=3))&&(!(ov (Be ((Ab v hb).fInt)))))) (hd.fLong||(decide (200<(((Ab v hb).fStr).length:Int)))))))))) (some (.out (.go hd)))
def Gp (ha:A8):Option (Int×A8×Bool):=
 some (0,ha,false)
def No (F:Nat)(v:(List Ap)):Option (Int×A8×Bool):=
 BN (Dv (λσ=>D4 F v σ.1 σ.2.1 σ.2.2) F (([]:List A2),0,(A8.mk 0 0 false false))) (BW λν=>Gp ν)
def Ld (F:Nat)(v:(List Ap)):Option (Int):=
 BN (No F v) λr1=>BF (((!r1.2.2)||(!decide (r1.1=(v.length:Int))))) (some 1) (BF (r1.2.1.fOutside) (some 2) (BF ((r1.2.1.fLong||((decide (200<(v.length:Int)))||((decide (8<r1.2.1.fDepth))||(decide (4000<r1.2.1.fBytes)))))) (some 3) (some 0)))
end Go.Proofs.YthbbedliepkakaaGreatDoor
namespace Go.Proofs.YthbbedliepkakaaGreatDoor.Q
open Go Go.RowKit
set_option linter.unusedVariables false
set_option linter.unusedSimpArgs false
set_option maxRecDepth 100000
set_option maxHeartbeats 4000000
@[reducible] def Aq (x:A2):List Rp:=[rB x.fPairs,rI .i64 x.fLeft,rB x.fKey,rS x.fLast,rB x.fStarted]
theorem Es (x:A2):(Aq x).length=5:=rfl
theorem HI (x:A2):(Aq x).all (·.one)=true:=rfl
@[reducible] def AE (x:A8):List Rp:=[rI .i64 x.fDepth,rI .i64 x.fBytes,rB x.fOutside,rB x.fLong]
theorem Pd:∃inf,Tryz.prog.info? 147=some inf∧inf.zero=some (.agg #[(.bool false),(.int .i64 0),(.bool false),(.string ⟨#[]⟩),(.bool false)])∧inf.size=5∧inf.bytes=48:=by
  have key:(Tryz.prog.info? 147).map (λi=>(i.zero,i.size,i.bytes))=some (some (.agg #[(.bool false),(.int .i64 0),(.bool false),(.string ⟨#[]⟩),(.bool false)]),5,48):=by kernel_rfl
  obtain⟨inf,h1,h2⟩:=Option.map_eq_some_iff.1 key;simp only[Prod.mk.injEq] at h2;exact⟨inf,h1,h2.1,h2.2.1,h2.2.2⟩
theorem Oi (parts:List (Nat×Value)):Tryz.prog.built 147 parts=Instr.fill (λi=>(#[(0,1),(1,1),(2,1),(3,1),(4,1)]:Array (Nat×Nat))[i]?) #[(.bool false),(.int .i64 0),(.bool false),(.string ⟨#[]⟩),(.bool false)] parts:=by kernel_rfl
theorem Hf {n:Nat}{c:Cx}{l:Fr}{H:List Ent}{d:Option Nat}{ty:TypeId}{pos:String}{af:Array Edge}{g:Option (Nat×Bool)}{x0:Operand}{r0:Rp}(h0:ev l x0=some r0)(u0:r0.one=true){x1:Operand}{r1:Rp}(h1:ev l x1=some r1)(u1:r1.one=true){x2:Operand}{r2:Rp}(h2:ev l x2=some r2)(u2:r2.one=true):AU Tryz.prog n c l H { dst:=d,op:=.build 147 #[(0,x0),(1,x1),(2,x2)],type:=ty,pos:=pos,after:=af,guard:=g } (Bh [r0,r1,r2,rS ([]:AI),rB false]):=λa w Z ha _=>by
  have p0:=ha.ev h0;have c0:=Bk (r0.hone u0 Z _ p0);have p1:=ha.ev h1;have c1:=Bk (r1.hone u1 Z _ p1);have p2:=ha.ev h2;have c2:=Bk (r2.hone u2 Z _ p2);have hb:Tryz.prog.built 147 [(0,a.eval x0),(1,a.eval x1),(2,a.eval x2)]=some #[a.eval x0,a.eval x1,a.eval x2,(.string ⟨#[]⟩),(.bool false)]:=by
    rw[Oi];generalize a.eval x0=v0 at *;generalize a.eval x1=v1 at *;generalize a.eval x2=v2 at *;simp[Instr.fill,c0,c1,c2]
  refine⟨.agg #[a.eval x0,a.eval x1,a.eval x2,(.string ⟨#[]⟩),(.bool false)],⟨[a.eval x0,a.eval x1,a.eval x2,(.string ⟨#[]⟩),(.bool false)],rfl,p0,p1,p2,rfl,rfl,trivial⟩,?_⟩;have:=run_build w 147 #[(0,a.eval x0),(1,a.eval x1),(2,a.eval x2)] _ (by simpa using hb);simp[execOp,this]
theorem NL (n:Int)(r:Bool)(h:Be n=some r):Fn Tryz.prog GE 103 [rI .i64 n] [] (λR H=>R=rB r∧H=[]):=by
 refine enter (n:=9) Tryz.func103 Aa Tryz.ntmps103 Aa (λw Z=>?_);refine AN (l':=[(0,rI .i64 n)]) (H':=[]) Aa Aa ?_;unfold Be at h;refine An (wv (r:=rB false) (Aj Aa) (A0 (AC [(2,rB ((decide ((-1000000000000)≤n))&&(decide (n≤1000000000000))))] [] ?_ ?_)))
 ·refine At (wm Aa (wv (EH Aa Aa) (wm Aa (AH (decide ((-1000000000000)≤n)) (λc1=>?_) (λc1=>?_)))))
  ·refine wo c1 (wm Aa (wo c1 (wv (EH Aa Aa) (DU Aa c1 Aa (wa Aa (Ar ?_))))));exact BY c1
  ·refine wf c1 (wf c1 (wv (r:=rB false) (As (b:=decide ((-1000000000000)≤n)) Aa c1 Aa) (wa Aa (Ar ?_))));exact BY c1
 refine Az ?_;obtain rfl:=A5 h;exact A1 (B4 Tryz.results103 (AM Aa)) sN ⟨Aa,Aa⟩
theorem O8 (F:Nat)(s:AI)(r:Bool)(h:Gn F s=some r):Fn Tryz.prog GE 129 [rS s] [] (λR H=>R=rB r∧H=[]):=by
 refine enter (n:=20) Tryz.func129 Aa Tryz.ntmps129 Aa (λw Z=>?_);refine AN (l':=[(0,rS s)]) (H':=[]) Aa Aa ?_;unfold Gn at h;refine An (wv (r:=rB false) (Aj Aa) (A0 (Aw (An (wm Aa (wv (BC Ev Aa) (wv (r:=rI .i64 0) (Au Aa) (A0 (AR ?_)))))))));obtain⟨hl,hm,hi⟩:=Ba h;refine BU (S:=Nat×(Int)×(Unit)) (V:=(Unit)×(Unit)) 0 (λσ=>Dv (λσ=>DX s σ) σ.1 σ.2.1=some hl) (λσ=>[(0,rS s),(5,rI .i64 (s.length:Int)),(6,rI .i64 σ.2.1)]) (λσ=>[]) (λσ=>σ.1) (F,0,()) hm (AQ.c Aa (AQ.c Aa (AQ.c Aa AQ.nil))) sN (λσ=>DW =some r) (λσ=>[]) (λσ=>[]) ?_ ?_
 ·rintro⟨hz,hb,⟨⟩⟩ hn;refine AN (l':=[(0,rS s),(5,rI .i64 (s.length:Int)),(6,rI .i64 hb)]) (H':=[]) Aa Aa ?_;obtain⟨ho,rfl,t37,hd,hf⟩:=G8 hn;replace hd:DX s hb=some t37:=hd;unfold DX at hd;refine An (wv (Eb Aa Aa) (A0 (Aw (AG (b:=decide (hb<(s.length:Int))) Aa (λhg=>?_) (λhg=>?_)))))
  ·have hp:=AW hg hd;refine AA (Bb (Aw (AR (An (wm Aa (wa Aa (A0 ?_)))))));obtain⟨hj,hk⟩:=AK hp;refine AC [(0,rS s),(5,rI .i64 (s.length:Int)),(6,rI .i64 hb),(18,rB ((decide ((D1 s hb)<32))||(decide (126<(D1 s hb)))))] [] ?_ ?_
   ·refine At (wm Aa (wm Aa (wv (CA Ev Aa Aa hj) (wv (Eb Aa Aa) (wm Aa (AH (decide ((D1 s hb)<32)) (λha=>?_) (λha=>?_)))))))
    ·refine wf ha (wf ha (wf ha (wf ha (wv (r:=rB true) (Am (b:=decide ((D1 s hb)<32)) Aa ha Aa) (Ar ?_)))));exact BY ha
    ·refine wo ha (wm Aa (wo ha (wm Aa (wo ha (wv (CA Ev Aa Aa hj) (wo ha (wv (CP Aa Aa) (Ez Aa ha Aa (Ar ?_)))))))));exact BY ha
   refine AG (b:=((decide ((D1 s hb)<32))||(decide (126<(D1 s hb))))) Aa (λhh=>?_) (λhh=>?_)
   ·have hq:=AW hh hk;refine An (wv (r:=rB false) (Aj Aa) (A0 (Az (AJ (Al (Al (BQ ?_)))))));have hr:=Dg hq hf hi;refine AJ (Al ?_);obtain rfl:=A5 hr;exact A1 (B4 Tryz.results129 (AM Aa)) sN ⟨Aa,Aa⟩
   ·have hs:=AX hh hk;refine AA (AV (Bb (At ?_)));obtain⟨ht,hu⟩:=AK hs;refine wv (Cl Aa Aa ht) (wm Aa (Ar ?_));have hw:=CL hu hf;exact A3 (AS (ho,hb+1,()) ⟨hw,Sg _⟩ (AQ.c Aa (AQ.c Aa (AQ.c Aa AQ.nil))) sN)
  ·have hx:=AX hg hd;refine BA (AD ?_);have hy:=DO hx hf hi;exact AD (B1 (AS ((),()) hy AQ.nil sN))
 ·rintro⟨⟨⟩,⟨⟩⟩ he;refine DV (l':=[]) (H':=[]) Aa Aa ?_;replace he:DW =some r:=he;unfold DW at he;refine Bv (Bb (An (wv (r:=rB true) (Aj Aa) (A0 (Az ?_)))));obtain rfl:=A5 he;exact A1 (B4 Tryz.results129 (AM Aa)) sN ⟨Aa,Aa⟩
theorem IX (s:AI)(r:Int)(h:E9 s=some r):Fn Tryz.prog GE 112 [rS s] [] (λR H=>R=rI .i64 r∧H=[]):=by
 refine enter (n:=12) Tryz.func112 Aa Tryz.ntmps112 Aa (λw Z=>?_);refine AN (l':=[(0,rS s)]) (H':=[]) Aa Aa ?_;unfold E9 at h;refine An (wv (r:=rI .i64 0) (Aj Aa) (B0 (wm Aa (wv (BC Ev Aa) ?_))));obtain⟨g1,h2⟩:=AK h;refine wv (Cl Aa Aa g1) (wm Aa (Cy (rs:=[rS s,rS ([34]:AI)]) (r:=rI .i64 (Lib.countByte s 34:Int)) Tryz.call130 Aa (LY s 34) Aa Aa ?_));obtain⟨g3,h4⟩:=AK h2;refine wv (Cl Aa Aa g3) (wm Aa (Cy (rs:=[rS s,rS ([92]:AI)]) (r:=rI .i64 (Lib.countByte s 92:Int)) Tryz.call130 Aa (LY s 92) Aa Aa ?_));obtain⟨g5,h6⟩:=AK h4;refine wv (Cl Aa Aa g5) (wa Aa (A0 (Az ?_)));obtain rfl:=A5 h6;exact A1 (B4 Tryz.results112 (AM Aa)) sN ⟨Aa,Aa⟩
theorem Nn (F:Nat)(c:Ap)(r:Bool)(h:Ic F c=some r):Fn Tryz.prog GE 111 [Bh (Ak c)] [] (λR H=>R=rB r∧H=[]):=by
 refine enter (n:=81) Tryz.func111 Aa Tryz.ntmps111 Aa (λw Z=>?_);refine AN (l':=[(0,Bh (Ak c))]) (H':=[]) Aa Aa ?_;unfold Ic at h;refine An (Bm Aa Aa (λb1=>?_));refine wv (r:=rB false) (Aj Aa) (A0 (Aw (An (wv (Ai BP Aa J1 Aa Aa) (wv (Ao (i:=0) J3 Aa Aa Aa) (A0 (AR (An (wv (Bl Aa Aa) (wa Aa (A0 (AG (b:=decide (c.fKind=1)) Aa (λc2=>?_) (λc2=>?_)))))))))))))
 ·have h3:=AW c2 h;refine AC [(2,rB ((decide (c.fInt=0))&&((decide (c.fStr=([]:AI)))&&(decide (c.fN=0)))))] [] ?_ ?_
  ·refine At (wv (Ai BP Aa BD Aa Aa) (wv (Ao (i:=0) BE Aa Aa Aa) (wv (Bl Aa Aa) (wm Aa (AH (decide (c.fInt=0)) (λc4=>?_) (λc4=>?_))))))
   ·refine wo c4 (wv (Ai BP Aa CG Aa Aa) (wo c4 (wv (Ao (i:=0) CH Aa Aa Aa) (wo c4 (wv (Dq Aa Aa) (DU Aa c4 Aa (wm Aa (AH (decide (c.fStr=([]:AI))) (λc5=>?_) (λc5=>?_)))))))))
    ·refine wo c5 (wv (Ai BP Aa BD Aa Aa) (wo c5 (wv (Ao (i:=0) BE Aa Aa Aa) (wo c5 (wv (Bl Aa Aa) (DU Aa c5 Aa (wa Aa (Ar ?_))))))));exact BY (And.intro c4 c5)
    ·refine wf c5 (wf c5 (wf c5 (wv (r:=rB false) (As (b:=decide (c.fStr=([]:AI))) Aa c5 Aa) (wa Aa (Ar ?_)))));exact BY (And.intro c4 c5)
   ·refine wf c4 (wf c4 (wf c4 (wv (r:=rB false) (As (b:=decide (c.fInt=0)) Aa c4 Aa) (wm Aa (Ad (b:=false) Aa Aa Aa Aa (Ad (b:=false) Aa Aa Aa Aa (Ad (b:=false) Aa Aa Aa Aa (wv (r:=rB false) (As (b:=false) Aa Aa Aa) (wa Aa (Ar ?_))))))))));exact BY c4
  refine Az (AJ (Al ?_));obtain rfl:=A5 h3;exact A1 (B4 HX (AM Aa)) sN ⟨Aa,Aa⟩
 ·have h6:=AX c2 h;refine An (wv (Bl Aa Aa) (wa Aa (A0 (AG (b:=decide (c.fKind=2)) Aa (λc7=>?_) (λc7=>?_)))))
  ·have h8:=AW c7 h6;refine AC [(2,rB (bif decide (c.fInt=0) then((decide (c.fStr=([]:AI)))&&(decide (c.fN=0))) else((decide (c.fInt=1))&&((decide (c.fStr=([]:AI)))&&(decide (c.fN=0))))))] [] ?_ ?_
   ·refine At (wv (Ai BP Aa BD Aa Aa) (wv (Ao (i:=0) BE Aa Aa Aa) (wv (Bl Aa Aa) (wm Aa (AH (decide (c.fInt=0)) (λc9=>?_) (λc9=>?_))))))
    ·refine wf c9 (wf c9 (wf c9 (wv (r:=rB true) (Am (b:=decide (c.fInt=0)) Aa c9 Aa) (wm Aa (Ax (b:=true) Aa Aa Aa (wv (Ai BP Aa CG Aa Aa) (Ax (b:=true) Aa Aa Aa (wv (Ao (i:=0) CH Aa Aa Aa) (Ax (b:=true) Aa Aa Aa (wv (Dq Aa Aa) (wv (r:=rB (decide (c.fStr=([]:AI)))) (Am (b:=true) Aa Aa Aa) (wm Aa (AH (decide (c.fStr=([]:AI))) (λhg=>?_) (λhg=>?_))))))))))))))
     ·refine wo hg (wv (Ai BP Aa BD Aa Aa) (wo hg (wv (Ao (i:=0) BE Aa Aa Aa) (wo hg (wv (Bl Aa Aa) (DU Aa hg Aa (wa Aa (Ar ?_))))))));exact BY (And.intro c9 hg)
     ·refine wf hg (wf hg (wf hg (wv (r:=rB false) (As (b:=decide (c.fStr=([]:AI))) Aa hg Aa) (wa Aa (Ar ?_)))));exact BY (And.intro c9 hg)
    ·refine wo c9 (wv (Ai BP Aa BD Aa Aa) (wo c9 (wv (Ao (i:=0) BE Aa Aa Aa) (wo c9 (wv (Bl Aa Aa) (Ez Aa c9 Aa (wm Aa (AH (decide (c.fInt=1)) (λhb=>?_) (λhb=>?_)))))))))
     ·refine wo hb (wv (Ai BP Aa CG Aa Aa) (wo hb (wv (Ao (i:=0) CH Aa Aa Aa) (wo hb (wv (Dq Aa Aa) (DU Aa hb Aa (wm Aa (AH (decide (c.fStr=([]:AI))) (λhh=>?_) (λhh=>?_)))))))))
      ·refine wo hh (wv (Ai BP Aa BD Aa Aa) (wo hh (wv (Ao (i:=0) BE Aa Aa Aa) (wo hh (wv (Bl Aa Aa) (DU Aa hh Aa (wa Aa (Ar ?_))))))));exact BY (And.intro c9 (And.intro hb hh))
      ·refine wf hh (wf hh (wf hh (wv (r:=rB false) (As (b:=decide (c.fStr=([]:AI))) Aa hh Aa) (wa Aa (Ar ?_)))));exact BY (And.intro c9 (And.intro hb hh))
     ·refine wf hb (wf hb (wf hb (wv (r:=rB false) (As (b:=decide (c.fInt=1)) Aa hb Aa) (wm Aa (Ad (b:=false) Aa Aa Aa Aa (Ad (b:=false) Aa Aa Aa Aa (Ad (b:=false) Aa Aa Aa Aa (wv (r:=rB false) (As (b:=false) Aa Aa Aa) (wa Aa (Ar ?_))))))))));exact BY (And.intro c9 hb)
   refine Az (AJ (Al ?_));obtain rfl:=A5 h8;exact A1 (B4 HX (AM Aa)) sN ⟨Aa,Aa⟩
  ·have hp:=AX c7 h6;refine An (wv (Bl Aa Aa) (wa Aa (A0 (AG (b:=decide (c.fKind=3)) Aa (λhm=>?_) (λhm=>?_)))))
   ·have ht:=AW hm hp;refine AC [(2,rB ((decide (c.fStr=([]:AI)))&&(decide (c.fN=0))))] [] ?_ ?_
    ·refine At (wv (Ai BP Aa CG Aa Aa) (wv (Ao (i:=0) CH Aa Aa Aa) (wv (Dq Aa Aa) (wm Aa (AH (decide (c.fStr=([]:AI))) (λhi=>?_) (λhi=>?_))))))
     ·refine wo hi (wv (Ai BP Aa BD Aa Aa) (wo hi (wv (Ao (i:=0) BE Aa Aa Aa) (wo hi (wv (Bl Aa Aa) (DU Aa hi Aa (wa Aa (Ar ?_))))))));exact BY hi
     ·refine wf hi (wf hi (wf hi (wv (r:=rB false) (As (b:=decide (c.fStr=([]:AI))) Aa hi Aa) (wa Aa (Ar ?_)))));exact BY hi
    refine Az (AJ (Al ?_));obtain rfl:=A5 ht;exact A1 (B4 HX (AM Aa)) sN ⟨Aa,Aa⟩
   ·have hq:=AX hm hp;refine An (wv (Bl Aa Aa) (wa Aa (A0 (AG (b:=decide (c.fKind=4)) Aa (λhn=>?_) (λhn=>?_)))))
    ·have hu:=AW hn hq;obtain⟨hw,hx⟩:=AK hu;refine AC [(2,rB ((decide (c.fInt=0))&&((decide (c.fN=0))&&(ov (Gn F c.fStr)))))] [] ?_ ?_
     ·refine At (wv (Ai BP Aa BD Aa Aa) (wv (Ao (i:=0) BE Aa Aa Aa) (wv (Bl Aa Aa) (wm Aa (AH (decide (c.fInt=0)) (λha=>?_) (λha=>?_))))))
      ·refine wo ha (wv (Ai BP Aa BD Aa Aa) (wo ha (wv (Ao (i:=0) BE Aa Aa Aa) (wo ha (wv (Bl Aa Aa) (DU Aa ha Aa (wm Aa (AH (decide (c.fN=0)) (λhd=>?_) (λhd=>?_)))))))))
       ·refine wo hd (wv (Ai BP Aa CG Aa Aa) (wo hd (wv (Ao (i:=0) CH Aa Aa Aa) (wo hd (DB Tryz.call129 (O8 F c.fStr (ov (Gn F c.fStr)) (Ls (Dw (Dw hw ha) hd))) Aa (DU Aa hd Aa (wa Aa (Ar ?_))))))));exact BY (And.intro ha hd)
       ·refine wf hd (wf hd (wf hd (wv (r:=rB false) (As (b:=decide (c.fN=0)) Aa hd Aa) (wa Aa (Ar ?_)))));exact BY (And.intro ha hd)
      ·refine wf ha (wf ha (wf ha (wv (r:=rB false) (As (b:=decide (c.fInt=0)) Aa ha Aa) (wm Aa (Ad (b:=false) Aa Aa Aa Aa (Ad (b:=false) Aa Aa Aa Aa (Ad (b:=false) Aa Aa Aa Aa (wv (r:=rB false) (As (b:=false) Aa Aa Aa) (wa Aa (Ar ?_))))))))));exact BY ha
     refine Az (AJ (Al ?_));obtain rfl:=A5 hx;exact A1 (B4 HX (AM Aa)) sN ⟨Aa,Aa⟩
    ·have hr:=AX hn hq;refine Aw (An (wv (Bl Aa Aa) (wa Aa (A0 (AG (b:=decide (c.fKind=5)) Aa (λhl=>?_) (λhl=>?_))))))
     ·have hy:=AW hl hr;refine AA (Bb (Bd Aa hl (AC [(2,rB ((decide (c.fInt=0))&&((decide (c.fStr=([]:AI)))&&(decide (0≤c.fN)))))] [] ?_ ?_)))
      ·refine At (wv (Ai BP Aa BD Aa Aa) (wv (Ao (i:=0) BE Aa Aa Aa) (wv (Bl Aa Aa) (wm Aa (AH (decide (c.fInt=0)) (λhe=>?_) (λhe=>?_))))))
       ·refine wo he (wv (Ai BP Aa CG Aa Aa) (wo he (wv (Ao (i:=0) CH Aa Aa Aa) (wo he (wv (Dq Aa Aa) (DU Aa he Aa (wm Aa (AH (decide (c.fStr=([]:AI))) (λhj=>?_) (λhj=>?_)))))))))
        ·refine wo hj (wv (Ai BP Aa BD Aa Aa) (wo hj (wv (Ao (i:=0) BE Aa Aa Aa) (wo hj (wv (G4 Aa Aa) (DU Aa hj Aa (wa Aa (Ar ?_))))))));exact BY (And.intro he hj)
        ·refine wf hj (wf hj (wf hj (wv (r:=rB false) (As (b:=decide (c.fStr=([]:AI))) Aa hj Aa) (wa Aa (Ar ?_)))));exact BY (And.intro he hj)
       ·refine wf he (wf he (wf he (wv (r:=rB false) (As (b:=decide (c.fInt=0)) Aa he Aa) (wm Aa (Ad (b:=false) Aa Aa Aa Aa (Ad (b:=false) Aa Aa Aa Aa (Ad (b:=false) Aa Aa Aa Aa (wv (r:=rB false) (As (b:=false) Aa Aa Aa) (wa Aa (Ar ?_))))))))));exact BY he
      refine Az (AJ (Al ?_));obtain rfl:=A5 hy;exact A1 (B4 HX (AM Aa)) sN ⟨Aa,Aa⟩
     ·have hs:=AX hl hr;refine At (wv (Bl Aa Aa) (wa Aa (A0 (AG (b:=decide (c.fKind=6)) Aa (λho=>?_) (λho=>?_)))))
      ·have hz:=AW ho hs;refine AC [(2,rB ((decide (c.fInt=0))&&((decide (c.fStr=([]:AI)))&&(decide (0≤c.fN)))))] [] ?_ ?_
       ·refine At (wv (Ai BP Aa BD Aa Aa) (wv (Ao (i:=0) BE Aa Aa Aa) (wv (Bl Aa Aa) (wm Aa (AH (decide (c.fInt=0)) (λhf=>?_) (λhf=>?_))))))
        ·refine wo hf (wv (Ai BP Aa CG Aa Aa) (wo hf (wv (Ao (i:=0) CH Aa Aa Aa) (wo hf (wv (Dq Aa Aa) (DU Aa hf Aa (wm Aa (AH (decide (c.fStr=([]:AI))) (λhk=>?_) (λhk=>?_)))))))))
         ·refine wo hk (wv (Ai BP Aa BD Aa Aa) (wo hk (wv (Ao (i:=0) BE Aa Aa Aa) (wo hk (wv (G4 Aa Aa) (DU Aa hk Aa (wa Aa (Ar ?_))))))));exact BY (And.intro hf hk)
         ·refine wf hk (wf hk (wf hk (wv (r:=rB false) (As (b:=decide (c.fStr=([]:AI))) Aa hk Aa) (wa Aa (Ar ?_)))));exact BY (And.intro hf hk)
        ·refine wf hf (wf hf (wf hf (wv (r:=rB false) (As (b:=decide (c.fInt=0)) Aa hf Aa) (wm Aa (Ad (b:=false) Aa Aa Aa Aa (Ad (b:=false) Aa Aa Aa Aa (Ad (b:=false) Aa Aa Aa Aa (wv (r:=rB false) (As (b:=false) Aa Aa Aa) (wa Aa (Ar ?_))))))))));exact BY hf
       refine Az (AJ (Al ?_));obtain rfl:=A5 hz;exact A1 (B4 HX (AM Aa)) sN ⟨Aa,Aa⟩
      ·have h0:=AX ho hs;refine AA (AV (Bb (An (wv (r:=rB false) (Aj Aa) (A0 (Az ?_))))));obtain rfl:=A5 h0;exact A1 (B4 HX (AM Aa)) (sS sN) ⟨Aa,Aa⟩
theorem O9 (c:Ap)(r:Int)(h:Kk c=some r):Fn Tryz.prog GE 113 [Bh (Ak c)] [] (λR H=>R=rI .i64 r∧H=[]):=by
 refine enter (n:=28) Tryz.func113 Aa Tryz.ntmps113 Aa (λw Z=>?_);refine AN (l':=[(0,Bh (Ak c))]) (H':=[]) Aa Aa ?_;unfold Kk at h;refine An (Bm Aa Aa (λb1=>?_));refine wv (r:=rI .i64 0) (Aj Aa) (A0 (Aw (An (wv (Ai BP Aa J1 Aa Aa) (wv (Ao (i:=0) J3 Aa Aa Aa) (A0 (AR (An (wv (Bl Aa Aa) (wa Aa (A0 (AG (b:=decide (c.fKind=1)) Aa (λc2=>?_) (λc2=>?_)))))))))))))
 ·have h3:=AW c2 h;refine An (wv (r:=rI .i64 4) (Aj Aa) (A0 (Az (AJ (Al ?_)))));obtain rfl:=A5 h3;exact A1 (B4 Kh (AM Aa)) (sS sN) ⟨Aa,Aa⟩
 ·have h4:=AX c2 h;refine An (wv (Bl Aa Aa) (wa Aa (A0 (AG (b:=decide (c.fKind=2)) Aa (λc5=>?_) (λc5=>?_)))))
  ·have h6:=AW c5 h4;refine An (wv (Ai BP Aa BD Aa Aa) (wv (Ao (i:=0) BE Aa Aa Aa) (wv (r:=rI .i64 (IntKind.wrap .i64 (5-c.fInt))) (NH Aa Aa) (wa Aa (A0 (Az (AJ (Al ?_))))))));obtain rfl:=A5 h6;exact A1 (B4 Kh (AM Aa)) (sS sN) ⟨Aa,Aa⟩
  ·have h7:=AX c5 h4;refine An (wv (Bl Aa Aa) (wa Aa (A0 (AG (b:=decide (c.fKind=3)) Aa (λc8=>?_) (λc8=>?_)))))
   ·have h9:=AW c8 h7;refine An (wv (Ai BP Aa BD Aa Aa) (wv (Ao (i:=0) BE Aa Aa Aa) ?_));obtain⟨hd,he⟩:=AK h9;refine Cy (rs:=[rI .i64 c.fInt]) (r:=rS (Lib.itoa c.fInt)) Tryz.call65 Aa (KM c.fInt hd) Aa Aa (wv (BC Ev Aa) (wa Aa (A0 (Az (AJ (Al ?_))))));obtain rfl:=A5 he;exact A1 (B4 Kh (AM Aa)) (sS sN) ⟨Aa,Aa⟩
   ·have hb:=AX c8 h7;refine An (wv (Bl Aa Aa) (wa Aa (A0 (AG (b:=decide (c.fKind=4)) Aa (λha=>?_) (λha=>?_)))))
    ·have hf:=AW ha hb;refine An (wv (Ai BP Aa CG Aa Aa) (wv (Ao (i:=0) CH Aa Aa Aa) ?_));obtain⟨hg,hh,hi⟩:=Ba hf;refine DB Tryz.call112 (IX c.fStr hg hh) Aa (wa Aa (A0 (Az (AJ (Al ?_)))));obtain rfl:=A5 hi;exact A1 (B4 Kh (AM Aa)) (sS sN) ⟨Aa,Aa⟩
    ·have hj:=AX ha hb;refine AA (AV (Bb (An (wv (Ai BP Aa BD Aa Aa) (wv (Ao (i:=0) BE Aa Aa Aa) (wv (r:=rI .i64 (IntKind.wrap .i64 (c.fN-1))) (NH Aa Aa) (wv (P2 QW Aa Aa) (wv (r:=rI .i64 (IntKind.wrap .i64 (2+(max 0 (IntKind.wrap .i64 (c.fN-1)))))) (Lv Aa Aa) (wa Aa (A0 (Az ?_)))))))))));obtain rfl:=A5 hj;exact A1 (B4 Kh (AM Aa)) (sS sN) ⟨Aa,Aa⟩
theorem Mo (F:Nat)(hg:Value)(stack:(List A2))(r:(List A2))(h:Gq F stack=some r):Fn Tryz.prog GE 114 [rv hg] [.row hg 147 5 (List.map Aq stack)] (λR H=>∃u0:Value,R=rv u0∧H=[.row u0 147 5 (List.map Aq r)]):=by
 refine enter (n:=38) Tryz.func114 Aa Tryz.ntmps114 Aa (λw Z=>?_);refine AN (l':=[(0,rv hg)]) (H':=[.row hg 147 5 (List.map Aq stack)]) Aa Aa ?_;unfold Gq at h;refine An (wv (r:=rv (.slice none 0 0)) (Aj Aa) (A0 (Aw (AR ?_))));obtain⟨hq,hr,hn⟩:=Ba h;refine BU (S:=Nat×((List A2))×(Value)) (V:=((List A2))×(Value)) 0 (λσ=>Dv (λσ=>Ci σ) σ.1 σ.2.1=some hq) (λσ=>[(0,rv σ.2.2),(2,rv (.slice none 0 0))]) (λσ=>[.row σ.2.2 147 5 (List.map Aq σ.2.1)]) (λσ=>σ.1) (F,stack,hg) hr (AQ.c Aa (AQ.c Aa AQ.nil)) (sC sN) (λσ=>Cz σ.1=some r) (λσ=>[(0,rv σ.2),(2,rv (.slice none 0 0))]) (λσ=>[.row σ.2 147 5 (List.map Aq σ.1)]) ?_ ?_
 ·rintro⟨hG,ha,hd⟩ hs;refine AN (l':=[(0,rv hd),(2,rv (.slice none 0 0))]) (H':=[.row hd 147 5 (List.map Aq ha)]) Aa Aa ?_;obtain⟨ht,rfl,hu,hh,hj⟩:=G8 hs;replace hh:Ci ha=some hu:=hh;unfold Ci at hh;refine Aw (An (wm Aa (wv (By (ys:=ha) (enc:=Aq) (i:=0) Er Aa Aa) (wv (CP Aa Aa) (A0 (AG (b:=decide (0<(ha.length:Int))) Aa (λhk=>?_) (λhk=>?_)))))))
  ·have hw:=AW hk hh;refine AA (Bb (AR (An (wm Aa (wm Aa (wv (By (ys:=ha) (enc:=Aq) (i:=0) Er Aa Aa) ?_))))));obtain⟨hx,hy⟩:=AK hw;refine wv (H6 Aa Aa hx) ?_;obtain⟨he,hz⟩:=AK hy;refine wv (r:=rv (CT 5 hd (Int.toNat ((ha.length:Int)-1)) 0)) (DQ (i:=0) Er Kf Aa Aa Aa (Bg he)) (wa Aa (B0 (wm Aa (wv (r:=rv (CT 5 hd (Int.toNat ((ha.length:Int)-1)) 0)) (B2 (k:=0) Aa (Bg he) Aa Aa) (wv (r:=rv (CT 5 hd (Int.toNat ((ha.length:Int)-1)) 1)) (C1 (k:=0) Eq Aa BD Aa (Bg he) Aa Aa Aa) (wv (r:=rI .i64 ((Ab ha ((ha.length:Int)-1)).fLeft)) (Dd (enc:=Aq) (ys:=ha) (i:=0) (j:=(ha.length:Int)-1) BE Aa Aa he Aa) ?_))))));obtain⟨h0,h1⟩:=AK hz;refine wv (H6 Aa Aa h0) (wv (r:=rv (CT 5 hd (Int.toNat ((ha.length:Int)-1)) 0)) (B2 (k:=0) Aa (Bg he) Aa Aa) (wv (r:=rv (CT 5 hd (Int.toNat ((ha.length:Int)-1)) 1)) (C1 (k:=0) Eq Aa BD Aa (Bg he) Aa Aa Aa) (GT (enc:=Aq) (ys:=ha) (y':=(A2.mk ((Ab ha ((ha.length:Int)-1)).fPairs) (((Ab ha ((ha.length:Int)-1)).fLeft)-1) ((Ab ha ((ha.length:Int)-1)).fKey) ((Ab ha ((ha.length:Int)-1)).fLast) ((Ab ha ((ha.length:Int)-1)).fStarted))) (i:=0) (j:=(ha.length:Int)-1) BD Aa Aa (Bp Aa) Aa he Aa Aa (H':=[.row hd 147 5 (List.map Aq (List.set ha (Int.toNat ((ha.length:Int)-1)) (A2.mk ((Ab ha ((ha.length:Int)-1)).fPairs) (((Ab ha ((ha.length:Int)-1)).fLeft)-1) ((Ab ha ((ha.length:Int)-1)).fKey) ((Ab ha ((ha.length:Int)-1)).fLast) ((Ab ha ((ha.length:Int)-1)).fStarted))))]) Aa ?_)));obtain⟨hb,hf,ho⟩:=Jy h1;rw[← hf];refine A0 (Aw (An (wm Aa (wv (r:=rv (CT 5 hd (Int.toNat ((ha.length:Int)-1)) 0)) (B2 (k:=0) Aa (Bg (BM he hf)) Aa Aa) (wv (r:=rv (CT 5 hd (Int.toNat ((ha.length:Int)-1)) 1)) (C1 (k:=0) Eq Aa BD Aa (Bg (BM he hf)) Aa Aa Aa) (wv (r:=rI .i64 ((Ab hb ((ha.length:Int)-1)).fLeft)) (Dd (enc:=Aq) (ys:=hb) (i:=0) (j:=(ha.length:Int)-1) BE Aa Aa (BM he hf) Aa) (wv (CP Aa Aa) (A0 (AG (b:=decide (0<((Ab hb ((ha.length:Int)-1)).fLeft))) Aa (λhl=>?_) (λhl=>?_))))))))))
   ·have h2:=AW hl ho;refine An (wm Aa (wm Aa (wv (r:=rv (CT 5 hd (Int.toNat ((ha.length:Int)-1)) 0)) (B2 (k:=0) Aa (Bg (BM he hf)) Aa Aa) (wv (r:=rv (CT 5 hd (Int.toNat ((ha.length:Int)-1)) 0)) (C1 (k:=0) Eq Aa EJ Aa (Bg (BM he hf)) Aa Aa Aa) (wv (r:=rB ((Ab hb ((ha.length:Int)-1)).fPairs)) (Dd (enc:=Aq) (ys:=hb) (i:=0) (j:=(ha.length:Int)-1) Ot Aa Aa (BM he hf) Aa) (wv (r:=rv (CT 5 hd (Int.toNat ((ha.length:Int)-1)) 0)) (B2 (k:=0) Aa (Bg (BM he hf)) Aa Aa) (wv (r:=rv (CT 5 hd (Int.toNat ((ha.length:Int)-1)) 2)) (C1 (k:=0) Eq Aa EJ Aa (Bg (BM he hf)) Aa Aa Aa) (GT (enc:=Aq) (ys:=hb) (y':=(A2.mk ((Ab hb ((ha.length:Int)-1)).fPairs) ((Ab hb ((ha.length:Int)-1)).fLeft) ((Ab hb ((ha.length:Int)-1)).fPairs) ((Ab hb ((ha.length:Int)-1)).fLast) ((Ab hb ((ha.length:Int)-1)).fStarted))) (i:=0) (j:=(ha.length:Int)-1) EJ Aa Aa (Bp Aa) Aa (BM he hf) Aa Aa (H':=[.row hd 147 5 (List.map Aq (List.set hb (Int.toNat ((ha.length:Int)-1)) (A2.mk ((Ab hb ((ha.length:Int)-1)).fPairs) ((Ab hb ((ha.length:Int)-1)).fLeft) ((Ab hb ((ha.length:Int)-1)).fPairs) ((Ab hb ((ha.length:Int)-1)).fLast) ((Ab hb ((ha.length:Int)-1)).fStarted))))]) Aa ?_))))))));obtain⟨hH,h3,h4⟩:=Jy h2;rw[← h3];refine B0 (wm Aa (wa Aa (A0 (Az (Al (AJ (Al (BQ ?_))))))));have h5:=Dg h4 hj hn;refine AJ (Al ?_);obtain rfl:=A5 h5;exact A1 (B4 Tryz.results114 (AM Aa)) (sC sN) ⟨hd,Aa,Aa⟩
   ·have h6:=AX hl ho;refine AA (Bb (At (wm Aa (wm Aa (wv (By (ys:=hb) (enc:=Aq) (i:=0) Er Aa Aa) ?_)))));obtain⟨h7,h8⟩:=AK h6;refine wv (H6 Aa Aa h7) ?_;obtain⟨h9,hA⟩:=AK h8;refine Q7 (i:=0) Er Kf Aa Aa Aa h9 Aa (λhB=>?_);refine wa Aa (Ar (AV ?_));have hC:=CL hA hj;exact A3 (AS (ht,List.take (Int.toNat ((hb.length:Int)-1)) hb,hB) ⟨hC,Sg _⟩ (AQ.c Aa (AQ.c Aa AQ.nil)) (sC sN))
  ·have hD:=AX hk hh;refine BA (AD ?_);have hE:=DO hD hj hn;exact AD (B1 (AS (ha,hd) hE (AQ.c Aa (AQ.c Aa AQ.nil)) (sC sN)))
 ·rintro⟨hp,hm⟩ hi;refine DV (l':=[(0,rv hm),(2,rv (.slice none 0 0))]) (H':=[.row hm 147 5 (List.map Aq hp)]) Aa Aa ?_;replace hi:Cz hp=some r:=hi;unfold Cz at hi;refine Bv (Bb (An (wm Aa (wa Aa (A0 (Az ?_))))));obtain rfl:=A5 hi;exact A1 (B4 Tryz.results114 (AM Aa)) (sC sN) ⟨hm,Aa,Aa⟩
theorem OA (F:Nat)(v:(List Ap))(r:Int×A8×Bool)(h:No F v=some r):Fn Tryz.prog GE 88 [Cb 4 (List.map Ak v)] [] (λR H=>R=C0 [rI .i64 r.1,Bh (AE r.2.1),rB r.2.2]∧H=[]):=by
 refine enter (n:=152) Tryz.func88 Aa Tryz.ntmps88 Aa (λw Z=>?_);refine AN (l':=[(0,Cb 4 (List.map Ak v))]) (H':=[]) Aa Aa ?_;unfold No at h;refine An (wv (r:=rI .i64 0) (Aj Aa) (Ei (cs:=[rI .i64 0,rI .i64 0,rB false,rB false]) Tryz.zeroValue121 Aa Aa (λb1=>?_)));refine wv (r:=rB false) (Aj Aa) (A0 (Nj (An (Ei (cs:=[rI .i64 0,rI .i64 0,rB false,rB false]) Tryz.zeroValue121 Aa Aa (λb2=>?_)))));refine B0 (wv (r:=rv (.slice none 0 0)) (Aj Aa) (A0 (Aw (Nk (Bb (Aw (An (wm Aa (wv (Ck (ys:=v) (enc:=Ak) Ew Aa) (wv (r:=rI .i64 0) (Au Aa) (A0 (AR (WC.nilrow (e:=147) (sz:=5) (Eh (H2:=[.blk b2 [rI .i64 0,rI .i64 0,rB false,rB false] 121,.blk b1 [rI .i64 0,rI .i64 0,rB false,rB false] 121,.row (.slice none 0 0                                                                                                                                                   ) 147 5 (List.map Aq ([]:List A2))]) ((Ae (i:=1) Aa).trans (R5 _ ((Ae (i:=1) Aa).trans (R5 _ (R7 _))))) ?_))))))))))))));obtain⟨hQ,hR,hy⟩:=Ba h;refine BU (S:=Nat×((List A2)×Int×A8)×(Value)) (V:=(A8)×(Unit)) 0 (λσ=>Dv (λσ=>D4 F v σ.1 σ.2.1 σ.2.2) σ.1 σ.2.1=some hQ) (λσ=>[(0,Cb 4 (List.map Ak v)),(3,rv (.pointer (some ⟨b1,0,none⟩))),(5,rv (.pointer (some ⟨b2,0,none⟩))),(6,rv σ.2.2),(11,Cb 4 (List.map Ak v)),(12,rI .i64 (v.length:Int)),(13,rI .i64 σ.2.1.2.1)]) (λσ=>[.blk b2 (AE σ.2.1.2.2) 121,.blk b1 [rI .i64 0,rI .i64 0,rB false,rB false] 121,.row σ.2.2 147 5 (List.map Aq σ.2.1.1)]) (λσ=>σ.1) (F,(([]:List A2),0,(A8.mk 0 0 false false)),(.slice none 0 0                                                                                                                                                   )) hR (AQ.c Aa (AQ.c Aa (AQ.c5 Aa Aa Aa Aa Aa AQ.nil))) (sC (sC (sC sN))) (λσ=>Gp σ.1=some r) (λσ=>[(3,rv (.pointer (some ⟨b1,0,none⟩))),(5,rv (.pointer (some ⟨b2,0,none⟩)))]) (λσ=>[.blk b2 (AE σ.1) 121,.blk b1 [rI .i64 0,rI .i64 0,rB false,rB false] 121]) ?_ ?_
 ·rintro⟨gI,⟨hd,hb,ha⟩,he⟩ hS;refine AN (l':=[(0,Cb 4 (List.map Ak v)),(3,rv (.pointer (some ⟨b1,0,none⟩))),(5,rv (.pointer (some ⟨b2,0,none⟩))),(6,rv he),(11,Cb 4 (List.map Ak v)),(12,rI .i64 (v.length:Int)),(13,rI .i64 hb)]) (H':=[.blk b2 (AE ha) 121,.blk b1 [rI .i64 0,rI .i64 0,rB false,rB false] 121,.row he 147 5 (List.map Aq hd)]) Aa Aa ?_;obtain⟨hT,rfl,h4,hz,hx⟩:=G8 hS;replace hz:D4 F v hd hb ha=some h4:=hz;unfold D4 at hz;refine An (wv (Eb Aa Aa) (A0 (Aw (AG (b:=decide (hb<(v.length:Int))) Aa (λh5=>?_) (λh5=>?_)))))
  ·have hU:=AW h5 hz;refine AA (Bb (Da (S:=((List A2)×A8)×(Value)) (λσ=>Cu hb σ.1.1 σ.1.2=some h4) (λσ=>[(0,Cb 4 (List.map Ak v)),(3,rv (.pointer (some ⟨b1,0,none⟩))),(5,rv (.pointer (some ⟨b2,0,none⟩))),(6,rv σ.2),(11,Cb 4 (List.map Ak v)),(12,rI .i64 (v.length:Int)),(13,rI .i64 hb)]) (λσ=>[.blk b2 (AE σ.1.2) 121,.blk b1 [rI .i64 0,rI .i64 0,rB false,rB false] 121,.row σ.2 147 5 (List.map Aq σ.1.1)]) ?_ ?_))
   ·refine AR (An (wm Aa ?_));obtain⟨hV,hW⟩:=AK hU;refine wv (He (enc:=Ak) (ys:=v) Ew HB Aa Aa hV) (wv (EB Nd HB Aa Aa Aa) (Ei (cs:=[rI .i64 0,rI .i64 0,rS ([]:AI),rI .i64 0]) P7 Aa Aa (λhf=>?_)));refine wa Aa (Dn (i:=0) HB Aa Aa Aa (Ct.c Aa) Aa Aa (cs':=[rI .i64 ((Ab v hb).fKind),rI .i64 ((Ab v hb).fInt),rS ((Ab v hb).fStr),rI .i64 ((Ab v hb).fN)]) Aa (H':=[.blk hf (Ak (Ab v hb)) 95,.blk b2 (AE ha) 121,.blk b1 [rI .i64 0,rI .i64 0,rB false,rB false] 121,.row he 147 5 (List.map Aq hd)]) Aa (A0 (Aw (An (wv (Bc (i:=0) Nd HB Aa Aa Aa Aa) ?_)))));obtain⟨hH,hX,hI⟩:=Ba hW;refine DB Tryz.call111 (Nn F (Ab v hb) hH hX) Aa (wv (B9 Aa) (A0 (AG (b:=!hH) Aa (λh6=>?_) (λh6=>?_))))
    ·have hY:=AW h6 hI;refine Aw (Eg (H1:=[.blk hf (Ak (Ab v hb)) 95,.blk b2 (AE ha) 121,.blk b1 (AE ha) 121,.row he 147 5 (List.map Aq hd)]) [3,5] [⟨[],Bh (AE ha),1⟩,⟨[],rI .i64 0,0⟩,⟨[0],rv undef,2⟩,⟨[],rB false,0⟩] (rle [(3,_),(2,[.blk hf (Ak (Ab v hb)) 95,.blk b2 (AE ha) 121,.blk b1 (AE ha) 121,.row he 147 5 (List.map Aq hd)])]) [2,4,3] ?_ ?_)
     ·refine of (Bc (i:=1) EK Du Aa Aa Aa Aa) (oq (Aj Aa) (G3 Aa (JL (Cw (i:=2) Du Aa Aa Aa (Ct.c Aa) Aa Aa (cs':=[rI .i64 ha.fDepth,rI .i64 ha.fBytes,rB ha.fOutside,rB ha.fLong]) Aa (H':=[.blk hf (Ak (Ab v hb)) 95,.blk b2 (AE ha) 121,.blk b1 (AE ha) 121,.row he 147 5 (List.map Aq hd)]) Aa)) ?_));refine oq (Aj Aa) ?_;exact Cg
     refine Bb (Az (Al (AJ (Al (Al (BQ ?_))))));have hZ:=Dg hY hx hy;refine AJ (Al (Gl ?_));obtain rfl:=A5 hZ;exact A1 (Mw Na (AM Aa) (Iw (i:=2) EK Du Aa Aa Aa) (AM Aa)) (sS (sS (sS (sS sN)))) ⟨Aa,Aa⟩
    ·have ga:=AX h6 hI;refine AA (Bb (Aw (An (wm Aa (wv (By (ys:=hd) (enc:=Aq) (i:=3) Er Aa Aa) (wa Aa (A0 ?_)))))));obtain⟨gb,gc⟩:=AK ga;obtain⟨h7,hJ⟩:=AK gc;refine AC [(0,Cb 4 (List.map Ak v)),(3,rv (.pointer (some ⟨b1,0,none⟩))),(5,rv (.pointer (some ⟨b2,0,none⟩))),(6,rv he),(7,rI .i64 hb),(8,rv (.pointer (some ⟨hf,0,none⟩))),(9,rI .i64 (hd.length:Int)),(11,Cb 4 (List.map Ak v)),(12,rI .i64 (v.length:Int)),(13,rI .i64 hb),(33,rB ((decide (0<(hd.length:Int)))&&((Ab hd ((hd.length:Int)-1)).fKey)))] [.blk hf (Ak (Ab v hb)) 95,.blk b2 (AE ha) 121,.blk b1 [rI .i64 0,rI .i64 0,rB false,rB false] 121,.row he 147 5 (List.map Aq hd)] ?_ ?_
     ·refine At (wm Aa (wv (CP Aa Aa) (wm Aa (AH (decide (0<(hd.length:Int))) (λhi=>?_) (λhi=>?_)))))
      ·refine wo hi (wm Aa (wo hi (wm Aa (wo hi (wv (H6 Aa Aa (Dw gb hi)) (wo hi (wv (r:=rv (CT 5 he (Int.toNat ((hd.length:Int)-1)) 0)) (DQ (i:=3) Er Kf Aa Aa Aa (Bg (Dw h7 hi))) (wo hi (wv (r:=rv (CT 5 he (Int.toNat ((hd.length:Int)-1)) 2)) (C1 (k:=3) Eq Aa EJ Aa (Bg (Dw h7 hi)) Aa Aa Aa) (wo hi (wv (r:=rB ((Ab hd ((hd.length:Int)-1)).fKey)) (Dd (enc:=Aq) (ys:=hd) (i:=3) (j:=(hd.length:Int)-1) Ot Aa Aa (Dw h7 hi) Aa) (DU Aa hi Aa (Ar ?_)))))))))))));exact BY hi
      ·refine wf hi (wf hi (wf hi (wf hi (wf hi (wf hi (wv (r:=rB false) (As (b:=decide (0<(hd.length:Int))) Aa hi Aa) (Ar ?_)))))));exact BY hi
     refine AG (b:=((decide (0<(hd.length:Int)))&&((Ab hd ((hd.length:Int)-1)).fKey))) Aa (λh8=>?_) (λh8=>?_)
     ·have gd:=AW h8 hJ;refine An (wm Aa (wm Aa ?_));obtain⟨ge,gf⟩:=AK gd;refine wv (H6 Aa Aa ge) ?_;obtain⟨hj,hK⟩:=AK gf;refine wv (r:=rv (CT 5 he (Int.toNat ((hd.length:Int)-1)) 0)) (DQ (i:=3) Er Kf Aa Aa Aa (Bg hj)) (wa Aa (A0 (Aw (AC [(0,Cb 4 (List.map Ak v)),(3,rv (.pointer (some ⟨b1,0,none⟩))),(5,rv (.pointer (some ⟨b2,0,none⟩))),(6,rv he),(8,rv (.pointer (some ⟨hf,0,none⟩))),(10,rv (CT 5 he (Int.toNat ((hd.length:Int)-1)) 0)),(11,Cb 4 (List.map Ak v)),(12,rI .i64 (v.length:Int)),(13,rI .i64 hb),(38,rv (.pointer (some ⟨hf,0,none⟩))),(39,rI .i64 ((Ab v hb).fKind)),(40,rB (!decide (((Ab v hb).fKind)=4))),(41,rB (!decide (((Ab v hb).fKind)=4))),(55,rB ((!decide (((Ab v hb).fKind)=4))||(((Ab hd ((hd.length:Int)-1)).fStarted)&&(CM ((Ab v hb).fStr) ((Ab hd ((hd.length:Int)-1)).fLast)||decide (((Ab v hb).fStr)=((Ab hd ((hd.length:Int)-1)).fLast))))))] [.blk hf (Ak (Ab v hb)) 95,.blk b2 (AE ha) 121,.blk b1 [rI .i64 0,rI .i64 0,rB false,rB false] 121,.row he 147 5 (List.map Aq hd)] ?_ ?_))))
      ·refine AH (!decide (((Ab v hb).fKind)=4)) (λhh=>?_) (λhh=>?_)
       ·refine CI [0,3,5,6,8,10,11,12,13] [⟨[],rv (.pointer (some ⟨hf,0,none⟩)),0⟩,⟨[0],rI .i64 ((Ab v hb).fKind),1⟩,⟨[1],rB (!decide (((Ab v hb).fKind)=4)),0⟩,⟨[2],rB (!decide (((Ab v hb).fKind)=4)),0⟩,⟨[3],rv undef,0⟩,⟨[4,3],rv undef,0⟩,⟨[5,3],rv undef,0⟩,⟨[6,3],rv undef,0⟩,⟨[7,3],rv undef,0⟩,⟨[8],rv undef,0⟩,⟨[9,8],rv undef,0⟩,⟨[8],rv undef,0⟩,⟨[11,8],rv undef,0⟩,⟨[12,8],rv undef,0⟩,⟨[13,8],rv undef,0⟩,⟨[10,14,8],rv undef,0⟩,⟨[8,15,3],rv undef,0⟩,⟨[3,16],rB true,0⟩] [38,39,40,41,42,43,44,45,46,47,48,49,50,51,52,53,54,55,0,3,5,6,8,10,11,12,13] ?_ ?_
        ·refine oq (Ai BP Aa J1 Aa Aa) (of (Ao (i:=0) J3 Aa Aa Aa) (oq (DC Aa Aa) (oq (Au Aa) (oz hh (oz hh (oz hh (oz hh (oz hh (ou (ou (ou (ou (ou (ou (ou (oz hh (oq (Am (b:=!decide (((Ab v hb).fKind)=4)) Aa hh Aa) ?_)))))))))))))))));exact Cg
        exact BY hh
       ·refine AH ((Ab hd ((hd.length:Int)-1)).fStarted) (λhk=>?_) (λhk=>?_)
        ·refine CI [0,3,5,6,8,10,11,12,13] [⟨[],rv (.pointer (some ⟨hf,0,none⟩)),0⟩,⟨[0],rI .i64 ((Ab v hb).fKind),1⟩,⟨[1],rB (!decide (((Ab v hb).fKind)=4)),0⟩,⟨[2],rB (!decide (((Ab v hb).fKind)=4)),0⟩,⟨[3],rv (CT 5 he (Int.toNat ((hd.length:Int)-1)) 0),0⟩,⟨[4,3],rv (CT 5 he (Int.toNat ((hd.length:Int)-1)) 0),1⟩,⟨[5,3],rv (CT 5 he (Int.toNat ((hd.length:Int)-1)) 4),1⟩,⟨[6,3],rB ((Ab hd ((hd.length:Int)-1)).fStarted),1⟩,⟨[7,3],rB ((Ab hd ((hd.length:Int)-1)).fStarted),0⟩,⟨[8],rv (.pointer (some ⟨hf,2,none⟩)),0⟩,⟨[9,8],rS ((Ab v hb).fStr),1⟩,⟨[8],rv (CT 5 he (Int.toNat ((hd.length:Int)-1)) 0),0⟩,⟨[11,8],rv (CT 5 he (Int.toNat ((hd.length:Int)-1)) 0),1⟩,⟨[12,8],rv (CT 5 he (Int.toNat ((hd.length:Int)-1)) 3),1⟩,⟨[13,8],rS ((Ab hd ((hd.length:Int)-1)).fLast),1⟩,⟨[10,14,8],rB (CM ((Ab v hb).fStr) ((Ab hd ((hd.length:Int)-1)).fLast)||decide (((Ab v hb).fStr)=((Ab hd ((hd.length:Int)-1)).fLast))),0⟩,⟨[8,15,3],rB (CM ((Ab v hb).fStr) ((Ab hd ((hd.length:Int)-1)).fLast)||decide (((Ab v hb).fStr)=((Ab hd ((hd.length:Int)-1)).fLast))),0⟩,⟨[3,16],rB (CM ((Ab v hb).fStr) ((Ab hd ((hd.length:Int)-1)).fLast)||decide (((Ab v hb).fStr)=((Ab hd ((hd.length:Int)-1)).fLast))),0⟩] [38,39,40,41,42,43,44,45,46,47,48,49,50,51,52,53,54,55,0,3,5,6,8,10,11,12,13] ?_ ?_
         ·refine oq (Ai BP Aa J1 Aa Aa) (of (Ao (i:=0) J3 Aa Aa Aa) (oq (DC Aa Aa) (oq (Au Aa) (on hh (oq (Au Aa) (on hh (of (B2 (k:=3) Aa (Bg hj) Aa Aa) (on hh (of (C1 (k:=3) Eq Aa EJ Aa (Bg hj) Aa Aa Aa) (on hh (of (Dd (enc:=Aq) (ys:=hd) (i:=3) (j:=(hd.length:Int)-1) Ot Aa Aa hj Aa) (on hh (oq (Au Aa) (on hk (oq (Ai BP Aa CG Aa Aa) (on hk (of (Ao (i:=0) CH Aa Aa Aa) (on hk (oq (Au Aa) (on hk (of (B2 (k:=3) Aa (Bg hj) Aa Aa) (on hk (of (C1 (k:=3) Eq Aa CG Aa (Bg hj) Aa Aa Aa) ?_)))))))))))))))))))))));refine on hk (of (Dd (enc:=Aq) (ys:=hd) (i:=3) (j:=(hd.length:Int)-1) CH Aa Aa hj Aa) (on hk (oq (P1 Aa Aa) (on hh (oq (Am Aa hk Aa) (oq (As Aa hh Aa) ?_))))));exact Cg
         exact BY (And.intro hh hk)
        ·refine CI [0,3,5,6,8,10,11,12,13] [⟨[],rv (.pointer (some ⟨hf,0,none⟩)),0⟩,⟨[0],rI .i64 ((Ab v hb).fKind),1⟩,⟨[1],rB (!decide (((Ab v hb).fKind)=4)),0⟩,⟨[2],rB (!decide (((Ab v hb).fKind)=4)),0⟩,⟨[3],rv (CT 5 he (Int.toNat ((hd.length:Int)-1)) 0),0⟩,⟨[4,3],rv (CT 5 he (Int.toNat ((hd.length:Int)-1)) 0),1⟩,⟨[5,3],rv (CT 5 he (Int.toNat ((hd.length:Int)-1)) 4),1⟩,⟨[6,3],rB ((Ab hd ((hd.length:Int)-1)).fStarted),1⟩,⟨[7,3],rB ((Ab hd ((hd.length:Int)-1)).fStarted),0⟩,⟨[8],rv undef,0⟩,⟨[9,8],rv undef,0⟩,⟨[8],rv undef,0⟩,⟨[11,8],rv undef,0⟩,⟨[12,8],rv undef,0⟩,⟨[13,8],rv undef,0⟩,⟨[10,14,8],rv undef,0⟩,⟨[8,15,3],rB false,0⟩,⟨[3,16],rB false,0⟩] [38,39,40,41,42,43,44,45,46,47,48,49,50,51,52,53,54,55,0,3,5,6,8,10,11,12,13] ?_ ?_
         ·refine oq (Ai BP Aa J1 Aa Aa) (of (Ao (i:=0) J3 Aa Aa Aa) (oq (DC Aa Aa) (oq (Au Aa) (on hh (oq (Au Aa) (on hh (of (B2 (k:=3) Aa (Bg hj) Aa Aa) (on hh (of (C1 (k:=3) Eq Aa EJ Aa (Bg hj) Aa Aa Aa) (on hh (of (Dd (enc:=Aq) (ys:=hd) (i:=3) (j:=(hd.length:Int)-1) Ot Aa Aa hj Aa) (on hh (oq (Au Aa) (oz hk (oz hk (oz hk (oz hk (oz hk (oz hk (oz hk (on hh (oq (As (b:=(Ab hd ((hd.length:Int)-1)).fStarted) Aa hk Aa) (oq (As Aa hh Aa) ?_)))))))))))))))))))))));exact Cg
         exact BY (And.intro hh hk)
      refine AG (b:=((!decide (((Ab v hb).fKind)=4))||(((Ab hd ((hd.length:Int)-1)).fStarted)&&(CM ((Ab v hb).fStr) ((Ab hd ((hd.length:Int)-1)).fLast)||decide (((Ab v hb).fStr)=((Ab hd ((hd.length:Int)-1)).fLast)))))) Aa (λh9=>?_) (λh9=>?_)
      ·have gg:=AW h9 hK;refine Aw (Eg (H1:=[.blk hf (Ak (Ab v hb)) 95,.blk b2 (AE ha) 121,.blk b1 (AE ha) 121,.row he 147 5 (List.map Aq hd)]) [3,5] [⟨[],Bh (AE ha),1⟩,⟨[],rI .i64 0,0⟩,⟨[0],rv undef,2⟩,⟨[],rB false,0⟩] (rle [(3,_),(2,[.blk hf (Ak (Ab v hb)) 95,.blk b2 (AE ha) 121,.blk b1 (AE ha) 121,.row he 147 5 (List.map Aq hd)])]) [2,4,3] ?_ ?_)
       ·refine of (Bc (i:=1) EK Du Aa Aa Aa Aa) (oq (Aj Aa) (G3 Aa (JL (Cw (i:=2) Du Aa Aa Aa (Ct.c Aa) Aa Aa (cs':=[rI .i64 ha.fDepth,rI .i64 ha.fBytes,rB ha.fOutside,rB ha.fLong]) Aa (H':=[.blk hf (Ak (Ab v hb)) 95,.blk b2 (AE ha) 121,.blk b1 (AE ha) 121,.row he 147 5 (List.map Aq hd)]) Aa)) ?_));refine oq (Aj Aa) ?_;exact Cg
       refine Bb (Az (Al (Al (AJ (Al (Al (BQ ?_)))))));have gh:=Dg gg hx hy;refine AJ (Al (Gl ?_));obtain rfl:=A5 gh;exact A1 (Mw Na (AM Aa) (Iw (i:=2) EK Du Aa Aa Aa) (AM Aa)) (sS (sS (sS (sS sN)))) ⟨Aa,Aa⟩
      ·have gi:=AX h9 hK;refine AA (Bb (An (wm Aa (wm Aa (wm Aa (wv (Ai BP Aa CG Aa Aa) (wv (Ao (i:=0) CH Aa Aa Aa) (wv (r:=rv (CT 5 he (Int.toNat ((hd.length:Int)-1)) 0)) (B2 (k:=3) Aa (Bg hj) Aa Aa) (wv (r:=rv (CT 5 he (Int.toNat ((hd.length:Int)-1)) 3)) (C1 (k:=3) Eq Aa CG Aa (Bg hj) Aa Aa Aa) (GT (enc:=Aq) (ys:=hd) (y':=(A2.mk ((Ab hd ((hd.length:Int)-1)).fPairs) ((Ab hd ((hd.length:Int)-1)).fLeft) ((Ab hd ((hd.length:Int)-1)).fKey) ((Ab v hb).fStr) ((Ab hd ((hd.length:Int)-1)).fStarted))) (i:=3) (j:=(hd.length:Int)-1) CG Aa Aa (Bp Aa) Aa hj Aa Aa (H':=[.blk hf (Ak (Ab v hb)) 95,.blk b2 (AE ha) 121,.blk b1 [rI .i64 0,rI .i64 0,rB false,rB false] 121,.row he 147 5 (List.map Aq (List.set hd (Int.toNat ((hd.length:Int)-1)) (A2.mk ((Ab hd ((hd.length:Int)-1)).fPairs) ((Ab hd ((hd.length:Int)-1)).fLeft) ((Ab hd ((hd.length:Int)-1)).fKey) ((Ab v hb).fStr) ((Ab hd ((hd.length:Int)-1)).fStarted))))]) Aa ?_))))))))));obtain⟨hr,hw,gj⟩:=Jy gi;rw[← hw];refine wv (r:=rv (CT 5 he (Int.toNat ((hd.length:Int)-1)) 0)) (B2 (k:=3) Aa (Bg (BM hj hw)) Aa Aa) (wv (r:=rv (CT 5 he (Int.toNat ((hd.length:Int)-1)) 4)) (C1 (k:=3) Eq Aa EJ Aa (Bg (BM hj hw)) Aa Aa Aa) (GT (enc:=Aq) (ys:=hr) (y':=(A2.mk ((Ab hr ((hd.length:Int)-1)).fPairs) ((Ab hr ((hd.length:Int)-1)).fLeft) ((Ab hr ((hd.length:Int)-1)).fKey) ((Ab hr ((hd.length:Int)-1)).fLast) true)) (i:=3) (j:=(hd.length:Int)-1) EJ Aa Aa (Bp Aa) Aa (BM hj hw) Aa Aa (H':=[.blk hf (Ak (Ab v hb)) 95,.blk b2 (AE ha) 121,.blk b1 [rI .i64 0,rI .i64 0,rB false,rB false] 121,.row he 147 5 (List.map Aq (List.set hr (Int.toNat ((hd.length:Int)-1)) (A2.mk ((Ab hr ((hd.length:Int)-1)).fPairs) ((Ab hr ((hd.length:Int)-1)).fLeft) ((Ab hr ((hd.length:Int)-1)).fKey) ((Ab hr ((hd.length:Int)-1)).fLast) true)))]) Aa ?_));obtain⟨hs,h1,gl⟩:=Jy gj;rw[← h1];refine wv (r:=rv (CT 5 he (Int.toNat ((hd.length:Int)-1)) 0)) (B2 (k:=3) Aa (Bg (BM (BM hj hw) h1)) Aa Aa) (wv (r:=rv (CT 5 he (Int.toNat ((hd.length:Int)-1)) 2)) (C1 (k:=3) Eq Aa EJ Aa (Bg (BM (BM hj hw) h1)) Aa Aa Aa) (GT (enc:=Aq) (ys:=hs) (y':=(A2.mk ((Ab hs ((hd.length:Int)-1)).fPairs) ((Ab hs ((hd.length:Int)-1)).fLeft) false ((Ab hs ((hd.length:Int)-1)).fLast) ((Ab hs ((hd.length:Int)-1)).fStarted))) (i:=3) (j:=(hd.length:Int)-1) EJ Aa Aa (Bp Aa) Aa (BM (BM hj hw) h1) Aa Aa (H':=[.blk hf (Ak (Ab v hb)) 95,.blk b2 (AE ha) 121,.blk b1 [rI .i64 0,rI .i64 0,rB false,rB false] 121,.row he 147 5 (List.map Aq (List.set hs (Int.toNat ((hd.length:Int)-1)) (A2.mk ((Ab hs ((hd.length:Int)-1)).fPairs) ((Ab hs ((hd.length:Int)-1)).fLeft) false ((Ab hs ((hd.length:Int)-1)).fLast) ((Ab hs ((hd.length:Int)-1)).fStarted))))]) Aa ?_));obtain⟨ht,gm,gp⟩:=Jy gl;rw[← gm];refine A0 (Aw ?_);obtain⟨hl,gq,gr⟩:=Ba gp;obtain⟨gs,gt⟩:=AK gr;refine Eg (H1:=[.blk hf (Ak (Ab v hb)) 95,.blk b2 [rI .i64 ha.fDepth,rI .i64 (IntKind.wrap .i64 (ha.fBytes+(hl+1))),rB ha.fOutside,rB ha.fLong] 121,.blk b1 [rI .i64 0,rI .i64 0,rB false,rB false] 121,.row he 147 5 (List.map Aq ht)]) [0,3,5,6,8,11,12,13,38,39,40,41] [⟨[],rv (.pointer (some ⟨b2,1,none⟩)),0⟩,⟨[0],rI .i64 ha.fBytes,1⟩,⟨[],rv (.pointer (some ⟨hf,2,none⟩)),0⟩,⟨[2],rS ((Ab v hb).fStr),1⟩,⟨[3],rI .i64 hl,0⟩,⟨[4],rI .i64 (hl+1),0⟩,⟨[1,5],rI .i64 (IntKind.wrap .i64 (ha.fBytes+(hl+1))),0⟩,⟨[],rv (.pointer (some ⟨b2,1,none⟩)),0⟩,⟨[7,6],rv undef,2⟩] (rle [(9,_),(1,[.blk hf (Ak (Ab v hb)) 95,.blk b2 [rI .i64 ha.fDepth,rI .i64 (IntKind.wrap .i64 (ha.fBytes+(hl+1))),rB ha.fOutside,rB ha.fLong] 121,.blk b1 [rI .i64 0,rI .i64 0,rB false,rB false] 121,.row he 147 5 (List.map Aq ht)])]) [68,69,70,71,72,73,74,75,0,3,5,6,8,11,12,13,38,39,40,41] ?_ ?_
       ·refine oq (Ai C3 Aa BD Aa Aa) (of (Ao (i:=1) BE Aa Aa Aa) (oq (Ai BP Aa CG Aa Aa) (of (Ao (i:=0) CH Aa Aa Aa) (Jg Aa (λH=>NF Tryz.call112 (IX ((Ab v hb).fStr) hl gq) Aa) ?_))));refine oq (Cl Aa Aa gs) (oq (Lv Aa Aa) (oq (Ai C3 Aa BD Aa Aa) (G3 Aa (JL (Jz (i:=1) BD Aa Aa (Bp Aa) Aa Aa (cs':=[rI .i64 ha.fDepth,rI .i64 (IntKind.wrap .i64 (ha.fBytes+(hl+1))),rB ha.fOutside,rB ha.fLong]) Aa (H':=[.blk hf (Ak (Ab v hb)) 95,.blk b2 [rI .i64 ha.fDepth,rI .i64 (IntKind.wrap .i64 (ha.fBytes+(hl+1))),rB ha.fOutside,rB ha.fLong] 121,.blk b1 [rI .i64 0,rI .i64 0,rB false,rB false] 121,.row he 147 5 (List.map Aq ht)]) Aa)) ?_)));exact Cg
       refine Bb (AC [(0,Cb 4 (List.map Ak v)),(3,rv (.pointer (some ⟨b1,0,none⟩))),(5,rv (.pointer (some ⟨b2,0,none⟩))),(6,rv he),(11,Cb 4 (List.map Ak v)),(12,rI .i64 (v.length:Int)),(13,rI .i64 hb),(38,rv (.pointer (some ⟨hf,0,none⟩))),(39,rI .i64 ((Ab v hb).fKind)),(40,rB (!decide (((Ab v hb).fKind)=4))),(41,rB (!decide (((Ab v hb).fKind)=4))),(68,rv (.pointer (some ⟨b2,1,none⟩))),(69,rI .i64 ha.fBytes),(70,rv (.pointer (some ⟨hf,2,none⟩))),(71,rS ((Ab v hb).fStr)),(72,rI .i64 hl),(73,rI .i64 (hl+1)),(74,rI .i64 (IntKind.wrap .i64 (ha.fBytes+(hl+1)))),(75,rv (.pointer (some ⟨b2,1,none⟩)))] [.blk hf (Ak (Ab v hb)) 95,.blk b2 [rI .i64 ha.fDepth,rI .i64 (IntKind.wrap .i64 (ha.fBytes+(hl+1))),rB ha.fOutside,rB (ha.fLong||(decide (200<(((Ab v hb).fStr).length:Int))))] 121,.blk b1 [rI .i64 0,rI .i64 0,rB false,rB false] 121,.row he 147 5 (List.map Aq ht)] ?_ ?_)
       ·refine At (wv (Ai C3 Aa EJ Aa Aa) (wv (Ao (i:=1) Ot Aa Aa Aa) (wm Aa (AH (ha.fLong) (λho=>?_) (λho=>?_)))))
        ·refine wf ho (wf ho (wf ho (wf ho (wv (r:=rB true) (Am (b:=ha.fLong) rfl ho rfl) (wv (Ai C3 rfl EJ rfl rfl) (Cp (i:=1) EJ rfl rfl (Bp rfl) rfl rfl (cs':=[rI .i64 ha.fDepth,rI .i64 (IntKind.wrap .i64 (ha.fBytes+(hl+1))),rB ha.fOutside,rB true]) rfl (H':=[.blk hf (Ak (Ab v hb)) 95,.blk b2 [rI .i64 ha.fDepth,rI .i64 (IntKind.wrap .i64 (ha.fBytes+(hl+1))),rB ha.fOutside,rB true] 121,.blk b1 [rI .i64 0,rI .i64 0,rB false,rB false] 121,.row he 147 5 (List.map Aq ht)]) rfl (Ar (EX (H':=[.blk hf (Ak (Ab v hb)) 95,.blk b2 [rI .i64 ha.fDepth,rI .i64 (IntKind.wrap .i64 (ha.fBytes+(hl+1))),rB ha.fOutside,rB (ha.fLong||(decide (200<(((Ab v hb).fStr).length:Int))))] 121,.blk b1 [rI .i64 0,rI .i64 0,rB false,rB false] 121,.row he 147 5 (List.map Aq ht)]) (by simp only[ho,RK,RN,RX,RG,RP,RO,RT,RU,RF,RM,RQ,RH]) ?_))))))));exact wt
        ·refine wo ho (wv (Ai BP rfl CG rfl rfl) (wo ho (wv (Ao (i:=0) CH rfl rfl rfl) (wo ho (wv (BC Ev rfl) (wo ho (wv (CP rfl rfl) (Ez rfl ho rfl (wv (Ai C3 rfl EJ rfl rfl) (Cp (i:=1) EJ rfl rfl (Bp rfl) rfl rfl (cs':=[rI .i64 ha.fDepth,rI .i64 (IntKind.wrap .i64 (ha.fBytes+(hl+1))),rB ha.fOutside,rB (decide (200<(((Ab v hb).fStr).length:Int)))]) rfl (H':=[.blk hf (Ak (Ab v hb)) 95,.blk b2 [rI .i64 ha.fDepth,rI .i64 (IntKind.wrap .i64 (ha.fBytes+(hl+1))),rB ha.fOutside,rB (decide (200<(((Ab v hb).fStr).length:Int)))] 121,.blk b1 [rI .i64 0,rI .i64 0,rB false,rB false] 121,.row he 147 5 (List.map Aq ht)]) rfl (Ar (EX (H':=[.blk hf (Ak (Ab v hb)) 95,.blk b2 [rI .i64 ha.fDepth,rI .i64 (IntKind.wrap .i64 (ha.fBytes+(hl+1))),rB ha.fOutside,rB (ha.fLong||(decide (200<(((Ab v hb).fStr).length:Int))))] 121,.blk b1 [rI .i64 0,rI .i64 0,rB false,rB false] 121,.row he 147 5 (List.map Aq ht)]) (by simp only[ho,RK,RN,RX,RG,RP,RO,RT,RU,RF,RM,RQ,RH]) ?_))))))))))));exact wt
       exact BA (AD (Bv (A3 (AS ((ht,(A8.mk ha.fDepth (IntKind.wrap .i64 (ha.fBytes+(hl+1))) ha.fOutside (ha.fLong||(decide (200<(((Ab v hb).fStr).length:Int)))))),he) gt (AQ.c Aa (AQ.c Aa (AQ.c5 Aa Aa Aa Aa Aa AQ.nil))) (sS (sC (sC (sC sN))))))))
     ·have gu:=AX h8 hJ;refine AA (Bb (An (wv (Ai C3 Aa BD Aa Aa) (wv (Ao (i:=1) BE Aa Aa Aa) (wm Aa (wv (By (ys:=hd) (enc:=Aq) (i:=3) Er Aa Aa) ?_))))));obtain⟨gv,gw⟩:=AK gu;refine wv (Cl Aa Aa gv) (wv (P2 QW Aa Aa) (wv (Ai C3 Aa BD Aa Aa) (Cp (i:=1) BD Aa Aa (Bp Aa) Aa Aa (cs':=[rI .i64 (max ha.fDepth ((hd.length:Int)+1)),rI .i64 ha.fBytes,rB ha.fOutside,rB ha.fLong]) Aa (H':=[.blk hf (Ak (Ab v hb)) 95,.blk b2 [rI .i64 (max ha.fDepth ((hd.length:Int)+1)),rI .i64 ha.fBytes,rB ha.fOutside,rB ha.fLong] 121,.blk b1 [rI .i64 0,rI .i64 0,rB false,rB false] 121,.row he 147 5 (List.map Aq hd)]) Aa (A0 (Aw ?_)))));obtain⟨hg,gx,gy⟩:=Ba gw;refine Eg (H1:=[.blk hf (Ak (Ab v hb)) 95,.blk b2 [rI .i64 (max ha.fDepth ((hd.length:Int)+1)),rI .i64 (IntKind.wrap .i64 (ha.fBytes+hg)),rB ha.fOutside,rB ha.fLong] 121,.blk b1 [rI .i64 0,rI .i64 0,rB false,rB false] 121,.row he 147 5 (List.map Aq hd)]) [0,3,5,6,7,8,11,12,13] [⟨[],rv (.pointer (some ⟨b2,1,none⟩)),0⟩,⟨[0],rI .i64 ha.fBytes,1⟩,⟨[],Bh (Ak (Ab v hb)),1⟩,⟨[2],rI .i64 hg,0⟩,⟨[1,3],rI .i64 (IntKind.wrap .i64 (ha.fBytes+hg)),0⟩,⟨[],rv (.pointer (some ⟨b2,1,none⟩)),0⟩,⟨[5,4],rv undef,2⟩] (rle [(7,_),(1,[.blk hf (Ak (Ab v hb)) 95,.blk b2 [rI .i64 (max ha.fDepth ((hd.length:Int)+1)),rI .i64 (IntKind.wrap .i64 (ha.fBytes+hg)),rB ha.fOutside,rB ha.fLong] 121,.blk b1 [rI .i64 0,rI .i64 0,rB false,rB false] 121,.row he 147 5 (List.map Aq hd)])]) [92,93,94,95,96,97,0,3,5,6,7,8,11,12,13] ?_ ?_
      ·refine oq (Ai C3 Aa BD Aa Aa) (of (Ao (i:=1) BE Aa Aa Aa) (of (Bc (i:=0) Nd HB Aa Aa Aa Aa) (Jg Aa (λH=>NF Tryz.call113 (O9 (Ab v hb) hg gx) Aa) ?_)));refine oq (Lv Aa Aa) (oq (Ai C3 Aa BD Aa Aa) (G3 Aa (JL (Jz (i:=1) BD Aa Aa (Bp Aa) Aa Aa (cs':=[rI .i64 (max ha.fDepth ((hd.length:Int)+1)),rI .i64 (IntKind.wrap .i64 (ha.fBytes+hg)),rB ha.fOutside,rB ha.fLong]) Aa (H':=[.blk hf (Ak (Ab v hb)) 95,.blk b2 [rI .i64 (max ha.fDepth ((hd.length:Int)+1)),rI .i64 (IntKind.wrap .i64 (ha.fBytes+hg)),rB ha.fOutside,rB ha.fLong] 121,.blk b1 [rI .i64 0,rI .i64 0,rB false,rB false] 121,.row he 147 5 (List.map Aq hd)]) Aa)) ?_));exact Cg
      refine Bb ?_;obtain⟨gz,hL⟩:=AK gy;refine AC [(0,Cb 4 (List.map Ak v)),(3,rv (.pointer (some ⟨b1,0,none⟩))),(5,rv (.pointer (some ⟨b2,0,none⟩))),(6,rv he),(7,rI .i64 hb),(8,rv (.pointer (some ⟨hf,0,none⟩))),(11,Cb 4 (List.map Ak v)),(12,rI .i64 (v.length:Int)),(13,rI .i64 hb),(92,rv (.pointer (some ⟨b2,1,none⟩))),(93,rI .i64 ha.fBytes),(94,Bh (Ak (Ab v hb))),(95,rI .i64 hg),(96,rI .i64 (IntKind.wrap .i64 (ha.fBytes+hg))),(97,rv (.pointer (some ⟨b2,1,none⟩)))] [.blk hf (Ak (Ab v hb)) 95,.blk b2 [rI .i64 (max ha.fDepth ((hd.length:Int)+1)),rI .i64 (IntKind.wrap .i64 (ha.fBytes+hg)),rB (ha.fOutside||((decide (((Ab v hb).fKind)=3))&&(!(ov (Be ((Ab v hb).fInt)))))),rB ha.fLong] 121,.blk b1 [rI .i64 0,rI .i64 0,rB false,rB false] 121,.row he 147 5 (List.map Aq hd)] ?_ ?_
      ·refine At (wv (Ai C3 Aa EJ Aa Aa) (wv (Ao (i:=1) Ot Aa Aa Aa) (wm Aa (AH (ha.fOutside) (λhm=>?_) (λhm=>?_)))))
       ·refine wf hm (wf hm (wf hm (wf hm (wu (wu (wu (wu (wf hm (wv (r:=rB true) (Am (b:=ha.fOutside) rfl hm rfl) (wv (Ai C3 rfl EJ rfl rfl) (Cp (i:=1) EJ rfl rfl (Bp rfl) rfl rfl (cs':=[rI .i64 (max ha.fDepth ((hd.length:Int)+1)),rI .i64 (IntKind.wrap .i64 (ha.fBytes+hg)),rB true,rB ha.fLong]) rfl (H':=[.blk hf (Ak (Ab v hb)) 95,.blk b2 [rI .i64 (max ha.fDepth ((hd.length:Int)+1)),rI .i64 (IntKind.wrap .i64 (ha.fBytes+hg)),rB true,rB ha.fLong] 121,.blk b1 [rI .i64 0,rI .i64 0,rB false,rB false] 121,.row he 147 5 (List.map Aq hd)]) rfl (Ar (EX (H':=[.blk hf (Ak (Ab v hb)) 95,.blk b2 [rI .i64 (max ha.fDepth ((hd.length:Int)+1)),rI .i64 (IntKind.wrap .i64 (ha.fBytes+hg)),rB (ha.fOutside||((decide (((Ab v hb).fKind)=3))&&(!(ov (Be ((Ab v hb).fInt)))))),rB ha.fLong] 121,.blk b1 [rI .i64 0,rI .i64 0,rB false,rB false] 121,.row he 147 5 (List.map Aq hd)]) (by simp only[hm,RK,RN,RX,RG,RP,RO,RT,RU,RF,RM,RQ,RH]) ?_)))))))))))));exact wt
       ·refine wo hm (wv (Ai BP Aa J1 Aa Aa) (wo hm (wv (Ao (i:=0) J3 Aa Aa Aa) (wo hm (wv (Bl Aa Aa) (wo hm (wm Aa (AH (decide (((Ab v hb).fKind)=3)) (λhn=>?_) (λhn=>?_)))))))))
        ·refine wo hn (wv (Ai BP rfl BD rfl rfl) (wo hn (wv (Ao (i:=0) BE rfl rfl rfl) (wo hn (DB Tryz.call103 (NL ((Ab v hb).fInt) (ov (Be ((Ab v hb).fInt))) (Ls (Dw (ET gz hm) hn))) rfl (wo hn (wv (B9 rfl) (wo hm (DU rfl hn rfl (Ez rfl hm rfl (wv (Ai C3 rfl EJ rfl rfl) (Cp (i:=1) EJ rfl rfl (Bp rfl) rfl rfl (cs':=[rI .i64 (max ha.fDepth ((hd.length:Int)+1)),rI .i64 (IntKind.wrap .i64 (ha.fBytes+hg)),rB (!(ov (Be ((Ab v hb).fInt)))),rB ha.fLong]) rfl (H':=[.blk hf (Ak (Ab v hb)) 95,.blk b2 [rI .i64 (max ha.fDepth ((hd.length:Int)+1)),rI .i64 (IntKind.wrap .i64 (ha.fBytes+hg)),rB (!(ov (Be ((Ab v hb).fInt)))),rB ha.fLong] 121,.blk b1 [rI .i64 0,rI .i64 0,rB false,rB false] 121,.row he 147 5 (List.map Aq hd)]) rfl (Ar (EX (H':=[.blk hf (Ak (Ab v hb)) 95,.blk b2 [rI .i64 (max ha.fDepth ((hd.length:Int)+1)),rI .i64 (IntKind.wrap .i64 (ha.fBytes+hg)),rB (ha.fOutside||((decide (((Ab v hb).fKind)=3))&&(!(ov (Be ((Ab v hb).fInt)))))),rB ha.fLong] 121,.blk b1 [rI .i64 0,rI .i64 0,rB false,rB false] 121,.row he 147 5 (List.map Aq hd)]) (by simp only[hm,hn,RK,RN,RX,RG,RP,RO,RT,RU,RF,RM,RQ,RH]) ?_))))))))))))));exact wt
        ·refine wf hn (wf hn (wf hn (wf hn (wo hm (wv (r:=rB false) (As (b:=decide (((Ab v hb).fKind)=3)) rfl hn rfl) (Ez rfl hm rfl (wv (Ai C3 rfl EJ rfl rfl) (Cp (i:=1) EJ rfl rfl (Bp rfl) rfl rfl (cs':=[rI .i64 (max ha.fDepth ((hd.length:Int)+1)),rI .i64 (IntKind.wrap .i64 (ha.fBytes+hg)),rB false,rB ha.fLong]) rfl (H':=[.blk hf (Ak (Ab v hb)) 95,.blk b2 [rI .i64 (max ha.fDepth ((hd.length:Int)+1)),rI .i64 (IntKind.wrap .i64 (ha.fBytes+hg)),rB false,rB ha.fLong] 121,.blk b1 [rI .i64 0,rI .i64 0,rB false,rB false] 121,.row he 147 5 (List.map Aq hd)]) rfl (Ar (EX (H':=[.blk hf (Ak (Ab v hb)) 95,.blk b2 [rI .i64 (max ha.fDepth ((hd.length:Int)+1)),rI .i64 (IntKind.wrap .i64 (ha.fBytes+hg)),rB (ha.fOutside||((decide (((Ab v hb).fKind)=3))&&(!(ov (Be ((Ab v hb).fInt)))))),rB ha.fLong] 121,.blk b1 [rI .i64 0,rI .i64 0,rB false,rB false] 121,.row he 147 5 (List.map Aq hd)]) (by simp only[hm,hn,RK,RN,RX,RG,RP,RO,RT,RU,RF,RM,RQ,RH]) ?_))))))))));exact wt
      refine AC [(0,Cb 4 (List.map Ak v)),(3,rv (.pointer (some ⟨b1,0,none⟩))),(5,rv (.pointer (some ⟨b2,0,none⟩))),(6,rv he),(7,rI .i64 hb),(8,rv (.pointer (some ⟨hf,0,none⟩))),(11,Cb 4 (List.map Ak v)),(12,rI .i64 (v.length:Int)),(13,rI .i64 hb),(92,rv (.pointer (some ⟨b2,1,none⟩))),(93,rI .i64 ha.fBytes),(94,Bh (Ak (Ab v hb))),(95,rI .i64 hg),(96,rI .i64 (IntKind.wrap .i64 (ha.fBytes+hg))),(97,rv (.pointer (some ⟨b2,1,none⟩)))] [.blk hf (Ak (Ab v hb)) 95,.blk b2 [rI .i64 (max ha.fDepth ((hd.length:Int)+1)),rI .i64 (IntKind.wrap .i64 (ha.fBytes+hg)),rB (ha.fOutside||((decide (((Ab v hb).fKind)=3))&&(!(ov (Be ((Ab v hb).fInt)))))),rB (ha.fLong||(decide (200<(((Ab v hb).fStr).length:Int))))] 121,.blk b1 [rI .i64 0,rI .i64 0,rB false,rB false] 121,.row he 147 5 (List.map Aq hd)] ?_ ?_
      ·refine At (wv (Ai C3 Aa EJ Aa Aa) (wv (Ao (i:=1) Ot Aa Aa Aa) (wm Aa (AH (ha.fLong) (λhp=>?_) (λhp=>?_)))))
       ·refine wf hp (wf hp (wf hp (wf hp (wv (r:=rB true) (Am (b:=ha.fLong) rfl hp rfl) (wv (Ai C3 rfl EJ rfl rfl) (Cp (i:=1) EJ rfl rfl (Bp rfl) rfl rfl (cs':=[rI .i64 (max ha.fDepth ((hd.length:Int)+1)),rI .i64 (IntKind.wrap .i64 (ha.fBytes+hg)),rB (ha.fOutside||((decide (((Ab v hb).fKind)=3))&&(!(ov (Be ((Ab v hb).fInt)))))),rB true]) rfl (H':=[.blk hf (Ak (Ab v hb)) 95,.blk b2 [rI .i64 (max ha.fDepth ((hd.length:Int)+1)),rI .i64 (IntKind.wrap .i64 (ha.fBytes+hg)),rB (ha.fOutside||((decide (((Ab v hb).fKind)=3))&&(!(ov (Be ((Ab v hb).fInt)))))),rB true] 121,.blk b1 [rI .i64 0,rI .i64 0,rB false,rB false] 121,.row he 147 5 (List.map Aq hd)]) rfl (Ar (EX (H':=[.blk hf (Ak (Ab v hb)) 95,.blk b2 [rI .i64 (max ha.fDepth ((hd.length:Int)+1)),rI .i64 (IntKind.wrap .i64 (ha.fBytes+hg)),rB (ha.fOutside||((decide (((Ab v hb).fKind)=3))&&(!(ov (Be ((Ab v hb).fInt)))))),rB (ha.fLong||(decide (200<(((Ab v hb).fStr).length:Int))))] 121,.blk b1 [rI .i64 0,rI .i64 0,rB false,rB false] 121,.row he 147 5 (List.map Aq hd)]) (by simp only[hp,RK,RN,RX,RG,RP,RO,RT,RU,RF,RM,RQ,RH]) ?_))))))));exact wt
       ·refine wo hp (wv (Ai BP rfl CG rfl rfl) (wo hp (wv (Ao (i:=0) CH rfl rfl rfl) (wo hp (wv (BC Ev rfl) (wo hp (wv (CP rfl rfl) (Ez rfl hp rfl (wv (Ai C3 rfl EJ rfl rfl) (Cp (i:=1) EJ rfl rfl (Bp rfl) rfl rfl (cs':=[rI .i64 (max ha.fDepth ((hd.length:Int)+1)),rI .i64 (IntKind.wrap .i64 (ha.fBytes+hg)),rB (ha.fOutside||((decide (((Ab v hb).fKind)=3))&&(!(ov (Be ((Ab v hb).fInt)))))),rB (decide (200<(((Ab v hb).fStr).length:Int)))]) rfl (H':=[.blk hf (Ak (Ab v hb)) 95,.blk b2 [rI .i64 (max ha.fDepth ((hd.length:Int)+1)),rI .i64 (IntKind.wrap .i64 (ha.fBytes+hg)),rB (ha.fOutside||((decide (((Ab v hb).fKind)=3))&&(!(ov (Be ((Ab v hb).fInt)))))),rB (decide (200<(((Ab v hb).fStr).length:Int)))] 121,.blk b1 [rI .i64 0,rI .i64 0,rB false,rB false] 121,.row he 147 5 (List.map Aq hd)]) rfl (Ar (EX (H':=[.blk hf (Ak (Ab v hb)) 95,.blk b2 [rI .i64 (max ha.fDepth ((hd.length:Int)+1)),rI .i64 (IntKind.wrap .i64 (ha.fBytes+hg)),rB (ha.fOutside||((decide (((Ab v hb).fKind)=3))&&(!(ov (Be ((Ab v hb).fInt)))))),rB (ha.fLong||(decide (200<(((Ab v hb).fStr).length:Int))))] 121,.blk b1 [rI .i64 0,rI .i64 0,rB false,rB false] 121,.row he 147 5 (List.map Aq hd)]) (by simp only[hp,RK,RN,RX,RG,RP,RO,RT,RU,RF,RM,RQ,RH]) ?_))))))))))));exact wt
      refine Aw (An (wv (Ai BP Aa BD Aa Aa) (wv (Ao (i:=0) BE Aa Aa Aa) (wv (CP Aa Aa) (A0 (AG (b:=decide (0<((Ab v hb).fN))) Aa (λhA=>?_) (λhA=>?_)))))))
      ·have hN:=AW hA hL;refine Aw (An (wv (Ai BP Aa BD Aa Aa) (wv (Ao (i:=0) BE Aa Aa Aa) (wm Aa (wv (Ck (ys:=v) (enc:=Ak) Ew Aa) (wv (CP Aa Aa) (A0 (AG (b:=decide ((v.length:Int)<((Ab v hb).fN))) Aa (λhB=>?_) (λhB=>?_)))))))))
       ·have g0:=AW hB hN;refine Aw (Eg (H1:=[.blk hf (Ak (Ab v hb)) 95,.blk b2 [rI .i64 (max ha.fDepth ((hd.length:Int)+1)),rI .i64 (IntKind.wrap .i64 (ha.fBytes+hg)),rB (ha.fOutside||((decide (((Ab v hb).fKind)=3))&&(!(ov (Be ((Ab v hb).fInt)))))),rB (ha.fLong||(decide (200<(((Ab v hb).fStr).length:Int))))] 121,.blk b1 [rI .i64 (max ha.fDepth ((hd.length:Int)+1)),rI .i64 (IntKind.wrap .i64 (ha.fBytes+hg)),rB (ha.fOutside||((decide (((Ab v hb).fKind)=3))&&(!(ov (Be ((Ab v hb).fInt)))))),rB (ha.fLong||(decide (200<(((Ab v hb).fStr).length:Int))))] 121,.row he 147 5 (List.map Aq hd)]) [3,5] [⟨[],Bh [rI .i64 (max ha.fDepth ((hd.length:Int)+1)),rI .i64 (IntKind.wrap .i64 (ha.fBytes+hg)),rB (ha.fOutside||((decide (((Ab v hb).fKind)=3))&&(!(ov (Be ((Ab v hb).fInt)))))),rB (ha.fLong||(decide (200<(((Ab v hb).fStr).length:Int))))],1⟩,⟨[],rI .i64 0,0⟩,⟨[0],rv undef,2⟩,⟨[],rB false,0⟩] (rle [(3,_),(2,[.blk hf (Ak (Ab v hb)) 95,.blk b2 [rI .i64 (max ha.fDepth ((hd.length:Int)+1)),rI .i64 (IntKind.wrap .i64 (ha.fBytes+hg)),rB (ha.fOutside||((decide (((Ab v hb).fKind)=3))&&(!(ov (Be ((Ab v hb).fInt)))))),rB (ha.fLong||(decide (200<(((Ab v hb).fStr).length:Int))))] 121,.blk b1 [rI .i64 (max ha.fDepth ((hd.length:Int)+1)),rI .i64 (IntKind.wrap .i64 (ha.fBytes+hg)),rB (ha.fOutside||((decide (((Ab v hb).fKind)=3))&&(!(ov (Be ((Ab v hb).fInt)))))),rB (ha.fLong||(decide (200<(((Ab v hb).fStr).length:Int))))] 121,.row he 147 5 (List.map Aq hd)])]) [2,4,3] ?_ ?_)
        ·refine of (Bc (i:=1) EK Du Aa Aa Aa Aa) (oq (Aj Aa) (G3 Aa (JL (Cw (i:=2) Du Aa Aa Aa (Ct.c Aa) Aa Aa (cs':=[rI .i64 (max ha.fDepth ((hd.length:Int)+1)),rI .i64 (IntKind.wrap .i64 (ha.fBytes+hg)),rB (ha.fOutside||((decide (((Ab v hb).fKind)=3))&&(!(ov (Be ((Ab v hb).fInt)))))),rB (ha.fLong||(decide (200<(((Ab v hb).fStr).length:Int))))]) Aa (H':=[.blk hf (Ak (Ab v hb)) 95,.blk b2 [rI .i64 (max ha.fDepth ((hd.length:Int)+1)),rI .i64 (IntKind.wrap .i64 (ha.fBytes+hg)),rB (ha.fOutside||((decide (((Ab v hb).fKind)=3))&&(!(ov (Be ((Ab v hb).fInt)))))),rB (ha.fLong||(decide (200<(((Ab v hb).fStr).length:Int))))] 121,.blk b1 [rI .i64 (max ha.fDepth ((hd.length:Int)+1)),rI .i64 (IntKind.wrap .i64 (ha.fBytes+hg)),rB (ha.fOutside||((decide (((Ab v hb).fKind)=3))&&(!(ov (Be ((Ab v hb).fInt)))))),rB (ha.fLong||(decide (200<(((Ab v hb).fStr).length:Int))))] 121,.row he 147 5 (List.map Aq hd)]) Aa)) ?_));refine oq (Aj Aa) ?_;exact Cg
        refine Bb (Az (Al (Al (AJ (Al (Al (BQ ?_)))))));have g1:=Dg g0 hx hy;refine AJ (Al (Gl ?_));obtain rfl:=A5 g1;exact A1 (Mw Na (AM Aa) (Iw (i:=2) EK Du Aa Aa Aa) (AM Aa)) (sS (sS (sS (sS sN)))) ⟨Aa,Aa⟩
       ·have g2:=AX hB hN;refine AA (Bb (An (wm Aa (wv (Ai BP Aa J1 Aa Aa) (wv (Ao (i:=0) J3 Aa Aa Aa) (wv (Bl Aa Aa) (wv (Ai BP Aa BD Aa Aa) (wv (Ao (i:=0) BE Aa Aa Aa) (wv (Ai BP Aa J1 Aa Aa) (wv (Ao (i:=0) J3 Aa Aa Aa) (wv (Bl Aa Aa) (wv (r:=Bh [rB (decide (((Ab v hb).fKind)=6)),rI .i64 ((Ab v hb).fN),rB (decide (((Ab v hb).fKind)=6)),rS ([]:AI),rB false]) (Hf Aa Aa Aa Aa Aa Aa) (BB (ys:=([(A2.mk (decide (((Ab v hb).fKind)=6)) ((Ab v hb).fN) (decide (((Ab v hb).fKind)=6)) ([]:AI) false)]:List A2)) (enc:=Aq) (css:=[[rB (decide (((Ab v hb).fKind)=6)),rI .i64 ((Ab v hb).fN),rB (decide (((Ab v hb).fKind)=6)),rS ([]:AI),rB false]]) (xs:=[.tmp 139]) Er Kf Tryz.zeroValue147 Aa Aa Aa ⟨Mg.agg ⟨Up.refl _,Up.refl _,Up.refl _,Up.refl _,Up.refl _,trivial⟩,trivial⟩ Aa Es Aa Aa Aa (λg3=>?_))))))))))))));obtain⟨g4,g5⟩:=AK g2;obtain⟨inf,hinf⟩:=Pd;refine Dm (xs:=hd) (ys:=([(A2.mk (decide (((Ab v hb).fKind)=6)) ((Ab v hb).fN) (decide (((Ab v hb).fKind)=6)) ([]:AI) false)]:List A2)) (enc:=Aq) (i:=4) Er hinf.1 hinf.2.1 hinf.2.2.1 hinf.2.2.2 Aa Aa Aa Aa Aa (KZ.w (i:=0) Aa Aa) Es HI g4 Aa (λhO=>?_);exact wa Aa (A0 (BA (AD (Bv (Bs (H2:=[.blk b2 [rI .i64 (max ha.fDepth ((hd.length:Int)+1)),rI .i64 (IntKind.wrap .i64 (ha.fBytes+hg)),rB (ha.fOutside||((decide (((Ab v hb).fKind)=3))&&(!(ov (Be ((Ab v hb).fInt)))))),rB (ha.fLong||(decide (200<(((Ab v hb).fStr).length:Int))))] 121,.blk b1 [rI .i64 0,rI .i64 0,rB false,rB false] 121,.row hO 147 5 (List.map Aq (hd++([(A2.mk (decide (((Ab v hb).fKind)=6)) ((Ab v hb).fN) (decide (((Ab v hb).fKind)=6)) ([]:AI) false)]:List A2))),.row (.slice (some ⟨g3,0,none⟩) 1 1) 147 5 (List.map Aq ([(A2.mk (decide (((Ab v hb).fKind)=6)) ((Ab v hb).fN) (decide (((Ab v hb).fKind)=6)) ([]:AI) false)]:List A2)),.blk hf (Ak (Ab v hb)) 95]) ((Ae (i:=3) Aa).trans (R5 _ ((Ae (i:=3) Aa).trans (R5 _ (R7 _))))) (A3 (AS ((hd++([(A2.mk (decide (((Ab v hb).fKind)=6)) ((Ab v hb).fN) (decide (((Ab v hb).fKind)=6)) ([]:AI) false)]:List A2),(A8.mk (max ha.fDepth ((hd.length:Int)+1)) (IntKind.wrap .i64 (ha.fBytes+hg)) (ha.fOutside||((decide (((Ab v hb).fKind)=3))&&(!(ov (Be ((Ab v hb).fInt)))))) (ha.fLong||(decide (200<(((Ab v hb).fStr).length:Int)))))),hO) g5 (AQ.c Aa (AQ.c Aa (AQ.c5 Aa Aa Aa Aa Aa AQ.nil))) (sC (sC (sC (sS (sS sN))))))))))))
      ·have g6:=AX hA hL;refine AA (Bb (An (wm Aa ?_)));obtain⟨hu,g7,hP⟩:=Ba g6;refine CZ (Hr:=[.blk hf (Ak (Ab v hb)) 95,.blk b2 [rI .i64 (max ha.fDepth ((hd.length:Int)+1)),rI .i64 (IntKind.wrap .i64 (ha.fBytes+hg)),rB (ha.fOutside||((decide (((Ab v hb).fKind)=3))&&(!(ov (Be ((Ab v hb).fInt)))))),rB (ha.fLong||(decide (200<(((Ab v hb).fStr).length:Int))))] 121,.blk b1 [rI .i64 0,rI .i64 0,rB false,rB false] 121]) Tryz.call114 (Mo F he hd hu g7) Aa ((Ae (i:=3) Aa).trans (R5 _ (R7 _))) Aa ?_;rintro _ _ ⟨h0,rfl,rfl⟩;refine wa Aa (B0 (wm Aa (wv (By (ys:=hu) (enc:=Aq) (i:=0) Er Aa Aa) (wv (Bl Aa Aa) (A0 (AG (b:=decide ((hu.length:Int)=0)) Aa (λhC=>?_) (λhC=>?_)))))))
       ·have g8:=AW hC hP;refine Aw ?_;obtain⟨g9,gA⟩:=AK g8;refine Eg (H1:=[.row h0 147 5 (List.map Aq hu),.blk hf (Ak (Ab v hb)) 95,.blk b2 [rI .i64 (max ha.fDepth ((hd.length:Int)+1)),rI .i64 (IntKind.wrap .i64 (ha.fBytes+hg)),rB (ha.fOutside||((decide (((Ab v hb).fKind)=3))&&(!(ov (Be ((Ab v hb).fInt)))))),rB (ha.fLong||(decide (200<(((Ab v hb).fStr).length:Int))))] 121,.blk b1 [rI .i64 (max ha.fDepth ((hd.length:Int)+1)),rI .i64 (IntKind.wrap .i64 (ha.fBytes+hg)),rB (ha.fOutside||((decide (((Ab v hb).fKind)=3))&&(!(ov (Be ((Ab v hb).fInt)))))),rB (ha.fLong||(decide (200<(((Ab v hb).fStr).length:Int))))] 121]) [3,5,7] [⟨[],rI .i64 hb,0⟩,⟨[0],rI .i64 (hb+1),0⟩,⟨[],Bh [rI .i64 (max ha.fDepth ((hd.length:Int)+1)),rI .i64 (IntKind.wrap .i64 (ha.fBytes+hg)),rB (ha.fOutside||((decide (((Ab v hb).fKind)=3))&&(!(ov (Be ((Ab v hb).fInt)))))),rB (ha.fLong||(decide (200<(((Ab v hb).fStr).length:Int))))],1⟩,⟨[1],rI .i64 (hb+1),0⟩,⟨[2],rv undef,2⟩,⟨[],rB true,0⟩] (rle [(5,_),(2,[.row h0 147 5 (List.map Aq hu),.blk hf (Ak (Ab v hb)) 95,.blk b2 [rI .i64 (max ha.fDepth ((hd.length:Int)+1)),rI .i64 (IntKind.wrap .i64 (ha.fBytes+hg)),rB (ha.fOutside||((decide (((Ab v hb).fKind)=3))&&(!(ov (Be ((Ab v hb).fInt)))))),rB (ha.fLong||(decide (200<(((Ab v hb).fStr).length:Int))))] 121,.blk b1 [rI .i64 (max ha.fDepth ((hd.length:Int)+1)),rI .i64 (IntKind.wrap .i64 (ha.fBytes+hg)),rB (ha.fOutside||((decide (((Ab v hb).fKind)=3))&&(!(ov (Be ((Ab v hb).fInt)))))),rB (ha.fLong||(decide (200<(((Ab v hb).fStr).length:Int))))] 121])]) [2,4,3] ?_ ?_
        ·refine oq (Au Aa) (oq (Cl Aa Aa g9) (of (Bc (i:=2) EK Du Aa Aa Aa Aa) (oq (Aj Aa) (G3 Aa (JL (Cw (i:=3) Du Aa Aa Aa (Ct.c Aa) Aa Aa (cs':=[rI .i64 (max ha.fDepth ((hd.length:Int)+1)),rI .i64 (IntKind.wrap .i64 (ha.fBytes+hg)),rB (ha.fOutside||((decide (((Ab v hb).fKind)=3))&&(!(ov (Be ((Ab v hb).fInt)))))),rB (ha.fLong||(decide (200<(((Ab v hb).fStr).length:Int))))]) Aa (H':=[.row h0 147 5 (List.map Aq hu),.blk hf (Ak (Ab v hb)) 95,.blk b2 [rI .i64 (max ha.fDepth ((hd.length:Int)+1)),rI .i64 (IntKind.wrap .i64 (ha.fBytes+hg)),rB (ha.fOutside||((decide (((Ab v hb).fKind)=3))&&(!(ov (Be ((Ab v hb).fInt)))))),rB (ha.fLong||(decide (200<(((Ab v hb).fStr).length:Int))))] 121,.blk b1 [rI .i64 (max ha.fDepth ((hd.length:Int)+1)),rI .i64 (IntKind.wrap .i64 (ha.fBytes+hg)),rB (ha.fOutside||((decide (((Ab v hb).fKind)=3))&&(!(ov (Be ((Ab v hb).fInt)))))),rB (ha.fLong||(decide (200<(((Ab v hb).fStr).length:Int))))] 121]) Aa)) ?_))));refine oq (Aj Aa) ?_;exact Cg
        refine Bb (Az (AJ (Al (Al (BQ ?_)))));have gB:=Dg gA hx hy;refine AJ (Al (Gl ?_));obtain rfl:=A5 gB;exact A1 (Mw Na (AM Aa) (Iw (i:=3) EK Du Aa Aa Aa) (AM Aa)) (sS (sS (sS (sS sN)))) ⟨Aa,Aa⟩
       ·have gC:=AX hC hP;exact AA (AV (Bs (H2:=[.blk b2 [rI .i64 (max ha.fDepth ((hd.length:Int)+1)),rI .i64 (IntKind.wrap .i64 (ha.fBytes+hg)),rB (ha.fOutside||((decide (((Ab v hb).fKind)=3))&&(!(ov (Be ((Ab v hb).fInt)))))),rB (ha.fLong||(decide (200<(((Ab v hb).fStr).length:Int))))] 121,.blk b1 [rI .i64 0,rI .i64 0,rB false,rB false] 121,.row h0 147 5 (List.map Aq hu),.blk hf (Ak (Ab v hb)) 95]) ((Ae (i:=2) Aa).trans (R5 _ ((Ae (i:=2) Aa).trans (R5 _ (R7 _))))) (A3 (AS ((hu,(A8.mk (max ha.fDepth ((hd.length:Int)+1)) (IntKind.wrap .i64 (ha.fBytes+hg)) (ha.fOutside||((decide (((Ab v hb).fKind)=3))&&(!(ov (Be ((Ab v hb).fInt)))))) (ha.fLong||(decide (200<(((Ab v hb).fStr).length:Int)))))),h0) gC (AQ.c Aa (AQ.c Aa (AQ.c5 Aa Aa Aa Aa Aa AQ.nil))) (sC (sC (sC (sS sN))))))))
   ·rintro⟨⟨hD,hE⟩,hG⟩ h2;refine AN (l':=[(0,Cb 4 (List.map Ak v)),(3,rv (.pointer (some ⟨b1,0,none⟩))),(5,rv (.pointer (some ⟨b2,0,none⟩))),(6,rv hG),(11,Cb 4 (List.map Ak v)),(12,rI .i64 (v.length:Int)),(13,rI .i64 hb)]) (H':=[.blk b2 (AE hE) 121,.blk b1 [rI .i64 0,rI .i64 0,rB false,rB false] 121,.row hG 147 5 (List.map Aq hD)]) Aa Aa ?_;replace h2:Cu hb hD hE=some h4:=h2;unfold Cu at h2;refine At ?_;obtain⟨gD,gE⟩:=AK h2;refine wv (Cl Aa Aa gD) (wm Aa (Ar ?_));have gF:=CL gE hx;exact A3 (AS (hT,(hD,hb+1,hE),hG) ⟨gF,Sg _⟩ (AQ.c Aa (AQ.c Aa (AQ.c5 Aa Aa Aa Aa Aa AQ.nil))) (sC (sC (sC sN))))
  ·have gG:=AX h5 hz;refine BA (AD ?_);have gH:=DO gG hx hy;exact AD (B1 (AS (ha,()) gH (AQ.c Aa (AQ.c Aa AQ.nil)) (sC (sC (sS sN)))))
 ·rintro⟨hq,⟨⟩⟩ h3;refine DV (l':=[(3,rv (.pointer (some ⟨b1,0,none⟩))),(5,rv (.pointer (some ⟨b2,0,none⟩)))]) (H':=[.blk b2 (AE hq) 121,.blk b1 [rI .i64 0,rI .i64 0,rB false,rB false] 121]) Aa Aa ?_;replace h3:Gp hq=some r:=h3;unfold Gp at h3;refine Bv (Bb (Aw (Eg (H1:=[.blk b2 (AE hq) 121,.blk b1 (AE hq) 121]) [3,5] [⟨[],Bh (AE hq),1⟩,⟨[],rI .i64 0,0⟩,⟨[0],rv undef,2⟩,⟨[],rB false,0⟩] (rle [(3,_),(2,[.blk b2 (AE hq) 121,.blk b1 (AE hq) 121])]) [2,4,3] ?_ ?_)))
  ·refine of (Bc (i:=0) EK Du Aa Aa Aa Aa) (oq (Aj Aa) (G3 Aa (JL (Cw (i:=1) Du Aa Aa Aa (Ct.c Aa) Aa Aa (cs':=[rI .i64 hq.fDepth,rI .i64 hq.fBytes,rB hq.fOutside,rB hq.fLong]) Aa (H':=[.blk b2 (AE hq) 121,.blk b1 (AE hq) 121]) Aa)) ?_));refine oq (Aj Aa) ?_;exact Cg
  refine Bb (Az (Gl ?_));obtain rfl:=A5 h3;exact A1 (Mw Na (AM Aa) (Iw (i:=1) EK Du Aa Aa Aa) (AM Aa)) (sS (sS sN)) ⟨Aa,Aa⟩
theorem Np (F:Nat)(v:(List Ap))(r:Int)(h:Ld F v=some r):Fn Tryz.prog GE 76 [Cb 4 (List.map Ak v)] [] (λR H=>R=rI .i64 r∧H=[]):=by
 refine enter (n:=42) Tryz.func76 Aa Tryz.ntmps76 Aa (λw Z=>?_);refine AN (l':=[(0,Cb 4 (List.map Ak v))]) (H':=[]) Aa Aa ?_;unfold Ld at h;refine An (wv (r:=rI .i64 0) (Aj Aa) (B0 (wm Aa ?_)));obtain⟨r1,e3,h2⟩:=Ba h;refine DB Tryz.call88 (OA F v r1 e3) Aa (wm Aa (wv (A7 Aa Aa) (wv (A7 Aa Aa) (wv (A7 Aa Aa) (Ei (cs:=[rI .i64 0,rI .i64 0,rB false,rB false]) Tryz.zeroValue121 Aa Aa (λb4=>?_))))));refine wa Aa (Dn (i:=0) Du Aa Aa Aa (Ct.c Aa) Aa Aa (cs':=[rI .i64 r1.2.1.fDepth,rI .i64 r1.2.1.fBytes,rB r1.2.1.fOutside,rB r1.2.1.fLong]) Aa (H':=[.blk b4 (AE r1.2.1) 121]) Aa (wa Aa (A0 (Aw (AR (AC [(0,Cb 4 (List.map Ak v)),(4,rv (.pointer (some ⟨b4,0,none⟩))),(12,rB ((!r1.2.2)||(!decide (r1.1=(v.length:Int)))))] [.blk b4 (AE r1.2.1) 121] ?_ ?_))))))
 ·refine At (wm Aa (wv (B9 Aa) (wm Aa (AH (!r1.2.2) (λc5=>?_) (λc5=>?_)))))
  ·refine wf c5 (wf c5 (wf c5 (wf c5 (wv (r:=rB true) (Am (b:=!r1.2.2) Aa c5 Aa) (wa Aa (Ar ?_))))));exact BY c5
  ·refine wo c5 (wm Aa (wo c5 (wm Aa (wo c5 (wv (Ck (ys:=v) (enc:=Ak) Ew Aa) (wo c5 (wv (DC Aa Aa) (Ez Aa c5 Aa (wa Aa (Ar ?_))))))))));exact BY c5
 refine AG (b:=((!r1.2.2)||(!decide (r1.1=(v.length:Int))))) Aa (λc6=>?_) (λc6=>?_)
 ·have h7:=AW c6 h2;refine An (wv (r:=rI .i64 1) (Aj Aa) (A0 (Az (AJ (Al ?_)))));obtain rfl:=A5 h7;exact A1 (B4 Oz (AM Aa)) (sS sN) ⟨Aa,Aa⟩
 ·have h8:=AX c6 h2;refine An (wv (Ai C3 Aa EJ Aa Aa) (wv (Ao (i:=0) Ot Aa Aa Aa) (wa Aa (A0 (AG (b:=r1.2.1.fOutside) Aa (λc9=>?_) (λc9=>?_))))))
  ·have hg:=AW c9 h8;refine An (wv (r:=rI .i64 2) (Aj Aa) (A0 (Az (AJ (Al ?_)))));obtain rfl:=A5 hg;exact A1 (B4 Oz (AM Aa)) (sS sN) ⟨Aa,Aa⟩
  ·have hf:=AX c9 h8;refine AC [(24,rB (r1.2.1.fLong||((decide (200<(v.length:Int)))||((decide (8<r1.2.1.fDepth))||(decide (4000<r1.2.1.fBytes))))))] [] ?_ ?_
   ·refine At (wv (Ai C3 Aa EJ Aa Aa) (wv (Ao (i:=0) Ot Aa Aa Aa) (wm Aa (AH (r1.2.1.fLong) (λha=>?_) (λha=>?_)))))
    ·refine wf ha (wf ha (wf ha (wv (r:=rB true) (Am (b:=r1.2.1.fLong) Aa ha Aa) (wm Aa (Ad (b:=true) Aa Aa Aa Aa (Ad (b:=true) Aa Aa Aa Aa (Ad (b:=true) Aa Aa Aa Aa (wv (r:=rB true) (Am (b:=true) Aa Aa Aa) (wm Aa (Ad (b:=true) Aa Aa Aa Aa (Ad (b:=true) Aa Aa Aa Aa (Ad (b:=true) Aa Aa Aa Aa (wv (r:=rB true) (Am (b:=true) Aa Aa Aa) (wa Aa (Ar ?_)))))))))))))));exact BY ha
    ·refine wo ha (wm Aa (wo ha (wv (Ck (ys:=v) (enc:=Ak) Ew Aa) (wo ha (wv (CP Aa Aa) (Ez Aa ha Aa (wm Aa (AH (decide (200<(v.length:Int))) (λhb=>?_) (λhb=>?_)))))))))
     ·refine wf hb (wf hb (wf hb (wv (r:=rB true) (Am (b:=decide (200<(v.length:Int))) Aa hb Aa) (wm Aa (Ad (b:=true) Aa Aa Aa Aa (Ad (b:=true) Aa Aa Aa Aa (Ad (b:=true) Aa Aa Aa Aa (wv (r:=rB true) (Am (b:=true) Aa Aa Aa) (wa Aa (Ar ?_))))))))));exact BY (And.intro ha hb)
     ·refine wo hb (wv (Ai C3 Aa BD Aa Aa) (wo hb (wv (Ao (i:=0) BE Aa Aa Aa) (wo hb (wv (CP Aa Aa) (Ez Aa hb Aa (wm Aa (AH (decide (8<r1.2.1.fDepth)) (λhd=>?_) (λhd=>?_)))))))))
      ·refine wf hd (wf hd (wf hd (wv (r:=rB true) (Am (b:=decide (8<r1.2.1.fDepth)) Aa hd Aa) (wa Aa (Ar ?_)))));exact BY (And.intro ha (And.intro hb hd))
      ·refine wo hd (wv (Ai C3 Aa BD Aa Aa) (wo hd (wv (Ao (i:=0) BE Aa Aa Aa) (wo hd (wv (CP Aa Aa) (Ez Aa hd Aa (wa Aa (Ar ?_))))))));exact BY (And.intro ha (And.intro hb hd))
   refine AG (b:=(r1.2.1.fLong||((decide (200<(v.length:Int)))||((decide (8<r1.2.1.fDepth))||(decide (4000<r1.2.1.fBytes)))))) Aa (λhe=>?_) (λhe=>?_)
   ·have hh:=AW he hf;refine An (wv (r:=rI .i64 3) (Aj Aa) (A0 (Az (AJ (Al ?_)))));obtain rfl:=A5 hh;exact A1 (B4 Oz (AM Aa)) sN ⟨Aa,Aa⟩
   ·have hi:=AX he hf;refine AA (AV (Bb (An (wv (r:=rI .i64 0) (Aj Aa) (A0 (Az ?_))))));obtain rfl:=A5 hi;exact A1 (B4 Oz (AM Aa)) sN ⟨Aa,Aa⟩
end Go.Proofs.YthbbedliepkakaaGreatDoor.Q
namespace Go.Proofs.YthbbedliepkakaaGreatDoor
open Go
set_option linter.unusedVariables false
end Go.Proofs.YthbbedliepkakaaGreatDoor
namespace Go.Proofs.YthbbedliepkakaaGreatDoor.Q
open Go Go.RowKit
set_option linter.unusedVariables false
set_option linter.unusedSimpArgs false
set_option maxRecDepth 100000
set_option maxHeartbeats 4000000
end Go.Proofs.YthbbedliepkakaaGreatDoor.Q
namespace Go.Proofs.YthbbedliepkakaaGreatDoor
open Go
set_option linter.unusedVariables false
end Go.Proofs.YthbbedliepkakaaGreatDoor
namespace Go.Proofs.YthbbedliepkakaaGreatDoor.Q
open Go Go.RowKit
set_option linter.unusedVariables false
set_option linter.unusedSimpArgs false
set_option maxRecDepth 100000
set_option maxHeartbeats 4000000
end Go.Proofs.YthbbedliepkakaaGreatDoor.Q
namespace Go.Proofs.YthbbedliepkakaaGreatDoor
open Go
set_option linter.unusedVariables false
def D5 (a:(List Ap))(b:(List Ap))(ha:Int):Option (Stp (Int) (Out (Bool) (Unit))):=
 BF (decide (ha<(a.length:Int))) (Bo (CF ha (a.length:Int))<|Bo (CF ha (b.length:Int))<|BF (!(decide (((Ab a ha).fKind)=((Ab b ha).fKind))&&decide (((Ab a ha).fInt)=((Ab b ha).fInt))&&decide (((Ab a ha).fStr)=((Ab b ha).fStr))&&decide (((Ab a ha).fN)=((Ab b ha).fN)))) (some (.out (.ret false))) (Bo (Ce .i64 (ha+1))<|some (.next (ha+1)))) (some (.out (.go ())))
def G0 :Option (Bool):=
 some true
def H5 (F:Nat)(a:(List Ap))(b:(List Ap)):Option (Bool):=
 BF (!decide ((a.length:Int)=(b.length:Int))) (some false) (BN (Dv (λσ=>D5 a b σ) F 0) (BW λν=>G0 ))
end Go.Proofs.YthbbedliepkakaaGreatDoor
namespace Go.Proofs.YthbbedliepkakaaGreatDoor.Q
open Go Go.RowKit
set_option linter.unusedVariables false
set_option linter.unusedSimpArgs false
set_option maxRecDepth 100000
set_option maxHeartbeats 4000000
theorem On {a0 b0:Int}{a1 b1:Int}{a2 b2:AI}{a3 b3:Int}(w:World):(Op.equalIn 10000 95 (.agg #[.int .i64 a0,.int .i64 a1,.string (B a2),.int .i64 a3]) (.agg #[.int .i64 b0,.int .i64 b1,.string (B b2),.int .i64 b3])).run Tryz.prog w = .ok (decide (a0=b0)&&decide (a1=b1)&&decide (a2=b2)&&decide (a3=b3)) w:=by
  have hS:Tryz.prog.underlying 95=some (.struct (Tryz.prog.fieldsOf 95)):=by kernel_rfl
  have hp:Tryz.prog.stoodInHeld 95=false:=by kernel_rfl
  have u3:=QW;have ia3:=BE;have so3:=BD;have u9:=Ev;have ia9:=CH;have so9:=CG;have ha:=Tryz.underlying93;have hb:=J3;have hd:=J1;rw[show(10000:Nat)=9999+1 from rfl,run_equalIn_agg w 9999 95 _ _ hS hp];simp only[Program.fieldsOf,BP]
  go_simp
  simp only[CW]
  by_cases h0:a0=b0<;>by_cases h1:a1=b1<;>by_cases h2:a2=b2<;>by_cases h3:a3=b3<;>simp[h0,h1,h2,h3]
theorem KA {n:Nat}{c:Cx}{l:Fr}{H:List Ent}{d:Option Nat}{ty rty:TypeId}{pos:String}{af:Array Edge}{g:Option (Nat×Bool)}{x y:Operand}{a0 b0:Int}{a1 b1:Int}{a2 b2:AI}{a3 b3:Int}(hx:ev l x=some (Bh [rI .i64 a0,rI .i64 a1,rS a2,rI .i64 a3]))(hy:ev l y=some (Bh [rI .i64 b0,rI .i64 b1,rS b2,rI .i64 b3])):AU Tryz.prog n c l H { dst:=d,op:=.binOp .neq 95 x y rty,type:=ty,pos:=pos,after:=af,guard:=g } (rB (!(decide (a0=b0)&&decide (a1=b1)&&decide (a2=b2)&&decide (a3=b3)))):=λa w Z ha hw=>by
  obtain⟨us,e1,q1⟩:=ha.ev hx;obtain⟨vs,e2,q2⟩:=ha.ev hy;have k1:=AL.eq_rv (us:=[.int .i64 a0,.int .i64 a1,.string (B a2),.int .i64 a3]) q1;have k2:=AL.eq_rv (us:=[.int .i64 b0,.int .i64 b1,.string (B b2),.int .i64 b3]) q2;subst k1;subst k2;have hm:Tryz.prog.eqGuardType Tryz.prog.depth 95=false:=by kernel_rfl
  have hb:=On (a0:=a0) (a1:=a1) (a2:=a2) (a3:=a3) (b0:=b0) (b1:=b1) (b2:=b2) (b3:=b3) w;refine⟨.bool (!(decide (a0=b0)&&decide (a1=b1)&&decide (a2=b2)&&decide (a3=b3))),rfl,?_⟩;have hg:=run_eqGuard_agg (P:=Tryz.prog) w .neq 95 x y #[.int .i64 a0,.int .i64 a1,.string (B a2),.int .i64 a3] #[.int .i64 b0,.int .i64 b1,.string (B b2),.int .i64 b3] hm;simp only[execOp,e1,e2,Sem.run_bind,hg,Result.andThen_ok,run_neq_struct,hb,Sem.run_pure]
theorem OM (F:Nat)(a:(List Ap))(b:(List Ap))(r:Bool)(h:H5 F a b=some r):Fn Tryz.prog GE 69 [Cb 4 (List.map Ak a),Cb 4 (List.map Ak b)] [] (λR H=>R=rB r∧H=[]):=by
 refine enter (n:=26) Tryz.func69 Aa Tryz.ntmps69 Aa (λw Z=>?_);refine AN (l':=[(0,Cb 4 (List.map Ak a)),(1,Cb 4 (List.map Ak b))]) (H':=[]) Aa Aa ?_;unfold H5 at h;refine An (wv (r:=rB false) (Aj Aa) (A0 (Aw (An (wm Aa (wv (Ck (ys:=a) (enc:=Ak) Ew Aa) (wm Aa (wv (Ck (ys:=b) (enc:=Ak) Ew Aa) (wv (DC Aa Aa) (A0 (AG (b:=!decide ((a.length:Int)=(b.length:Int))) Aa (λc1=>?_) (λc1=>?_))))))))))))
 ·have h2:=AW c1 h;refine An (wv (r:=rB false) (Aj Aa) (A0 (Az (Al ?_))));obtain rfl:=A5 h2;exact A1 (B4 Tryz.results69 (AM Aa)) sN ⟨Aa,Aa⟩
 ·have h3:=AX c1 h;refine AA (Bb (Aw (An (wv (r:=rI .i64 0) (Aj Aa) (A0 (AR ?_))))));obtain⟨hj,hk,hh⟩:=Ba h3;refine BU (S:=Nat×(Int)×(Unit)) (V:=(Unit)×(Unit)) 0 (λσ=>Dv (λσ=>D5 a b σ) σ.1 σ.2.1=some hj) (λσ=>[(0,Cb 4 (List.map Ak a)),(1,Cb 4 (List.map Ak b)),(5,rI .i64 σ.2.1)]) (λσ=>[]) (λσ=>σ.1) (F,0,()) hk (AQ.c Aa (AQ.c Aa (AQ.c Aa AQ.nil))) sN (λσ=>G0 =some r) (λσ=>[]) (λσ=>[]) ?_ ?_
  ·rintro⟨h1,ha,⟨⟩⟩ hl;refine AN (l':=[(0,Cb 4 (List.map Ak a)),(1,Cb 4 (List.map Ak b)),(5,rI .i64 ha)]) (H':=[]) Aa Aa ?_;obtain⟨hm,rfl,hn,hb,he⟩:=G8 hl;replace hb:D5 a b ha=some hn:=hb;unfold D5 at hb;refine Aw (An (wm Aa (wm Aa (wv (Ck (ys:=a) (enc:=Ak) Ew Aa) (wv (Eb Aa Aa) (A0 (AG (b:=decide (ha<(a.length:Int))) Aa (λhf=>?_) (λhf=>?_))))))))
   ·have ho:=AW hf hb;refine AA (Bb (Aw (AR (Aw ?_))));obtain⟨hp,hq⟩:=AK ho;obtain⟨hr,hi⟩:=AK hq;refine CI [0,1,5] [⟨[],Cb 4 (List.map Ak a),0⟩,⟨[],rI .i64 ha,0⟩,⟨[0,1],PW (Ak (Ab a ha)),0⟩,⟨[2],Bh (Ak (Ab a ha)),0⟩,⟨[],Cb 4 (List.map Ak b),0⟩,⟨[],rI .i64 ha,0⟩,⟨[4,5],PW (Ak (Ab b ha)),0⟩,⟨[6],Bh (Ak (Ab b ha)),0⟩,⟨[3,7],rB (!(decide (((Ab a ha).fKind)=((Ab b ha).fKind))&&decide (((Ab a ha).fInt)=((Ab b ha).fInt))&&decide (((Ab a ha).fStr)=((Ab b ha).fStr))&&decide (((Ab a ha).fN)=((Ab b ha).fN)))),0⟩] [17,18,19,20,21,22,23,24,25,0,1,5] ?_ ?_
    ·refine oq (Au Aa) (oq (Au Aa) (oq (He (enc:=Ak) (ys:=a) Ew HB Aa Aa hp) (oq (EB Nd HB Aa Aa Aa) (oq (Au Aa) (oq (Au Aa) (oq (He (enc:=Ak) (ys:=b) Ew HB Aa Aa hr) (oq (EB Nd HB Aa Aa Aa) (oq (KA Aa Aa) ?_))))))));exact Cg
    refine Bb (AG (b:=!(decide (((Ab a ha).fKind)=((Ab b ha).fKind))&&decide (((Ab a ha).fInt)=((Ab b ha).fInt))&&decide (((Ab a ha).fStr)=((Ab b ha).fStr))&&decide (((Ab a ha).fN)=((Ab b ha).fN)))) Aa (λhg=>?_) (λhg=>?_))
    ·have hs:=AW hg hi;refine An (wv (r:=rB false) (Aj Aa) (A0 (Az (AJ (Al (Al (BQ ?_)))))));have ht:=Dg hs he hh;refine AJ (Al ?_);obtain rfl:=A5 ht;exact A1 (B4 Tryz.results69 (AM Aa)) sN ⟨Aa,Aa⟩
    ·have hu:=AX hg hi;refine AA (AV (Bb (At (wm Aa ?_))));obtain⟨hw,hx⟩:=AK hu;refine wv (Cl Aa Aa hw) (wa Aa (Ar ?_));have hy:=CL hx he;exact A3 (AS (hm,ha+1,()) ⟨hy,Sg _⟩ (AQ.c Aa (AQ.c Aa (AQ.c Aa AQ.nil))) sN)
   ·have hz:=AX hf hb;refine BA (AD ?_);have h0:=DO hz he hh;exact AD (B1 (AS ((),()) h0 AQ.nil sN))
  ·rintro⟨⟨⟩,⟨⟩⟩ hd;refine DV (l':=[]) (H':=[]) Aa Aa ?_;replace hd:G0 =some r:=hd;unfold G0 at hd;refine Bv (Bb (An (wv (r:=rB true) (Aj Aa) (A0 (Az ?_)))));obtain rfl:=A5 hd;exact A1 (B4 Tryz.results69 (AM Aa)) sN ⟨Aa,Aa⟩
end Go.Proofs.YthbbedliepkakaaGreatDoor.Q
namespace Go.Proofs.YthbbedliepkakaaGreatDoor
open Go
set_option linter.unusedVariables false
end Go.Proofs.YthbbedliepkakaaGreatDoor
namespace Go.Proofs.YthbbedliepkakaaGreatDoor.Q
open Go Go.RowKit
set_option linter.unusedVariables false
set_option linter.unusedSimpArgs false
set_option maxRecDepth 100000
set_option maxHeartbeats 4000000
end Go.Proofs.YthbbedliepkakaaGreatDoor.Q
namespace Go.Proofs.YthbbedliepkakaaGreatDoor
open Go
set_option linter.unusedVariables false
set_option linter.unusedSimpArgs false
section
variable {T S : Type}
def Dy:List (AI×T)→AI→Option T
 | [],_=>none
 | p::r,k=>bif decide (p.1=k) then some p.2 else Dy r k
def BR (xs:List (AI×T))(k:AI)(z:T):T:=(Dy xs k).getD z
def CQ (xs:List (AI×T))(k:AI):Bool:=(Dy xs k).isSome
def KD (k:AI)(v:T):List (AI×T)→List (AI×T)
 | []=>[(k,v)]
 | p::r=>bif CM k p.1 then(k,v)::p::r else p::KD k v r
def Hh (xs:List (AI×T))(k:AI)(v:T):List (AI×T):=xs.map λp=>bif decide (p.1=k) then(k,v) else p
def Hg (xs:List (AI×T))(k:AI)(v:T):List (AI×T):=bif CQ xs k then Hh xs k v else KD k v xs
def Ec (xs:List (AI×T))(k:AI):List (AI×T):=xs.filter λp=>!decide (p.1=k)
def A9 (f:T→S)(xs:List (AI×T)):List (AI×S):=xs.map λp=>(p.1,f p.2)
theorem G7 (f:T→S):∀(xs:List (AI×T)) (k:AI),Dy (A9 f xs) k=(Dy xs k).map f
 | [],k=>rfl
 | p::r,k=>by
  show(bif decide (p.1=k) then some (f p.2) else Dy (A9 f r) k)=_;rw[Dy,G7 f r k]
  cases decide (p.1=k)<;>rfl
theorem NO (f:T→S)(xs:List (AI×T))(k:AI):CQ (A9 f xs) k=CQ xs k:=by
 unfold CQ;rw[G7];cases Dy xs k<;>rfl
theorem KC (f:T→S)(k:AI)(v:T):∀xs:List (AI×T),A9 f (KD k v xs)=KD k (f v) (A9 f xs)
 | []=>rfl
 | p::r=>by
  show A9 f (bif CM k p.1 then(k,v)::p::r else p::KD k v r)=(bif CM k p.1 then(k,f v)::(p.1,f p.2)::A9 f r else(p.1,f p.2)::KD k (f v) (A9 f r));rw[← KC f k v r]
  cases CM k p.1<;>rfl
theorem NN (f:T→S)(xs:List (AI×T))(k:AI)(v:T):A9 f (Hg xs k v)=Hg (A9 f xs) k (f v):=by
 unfold Hg;rw[NO]
 cases CQ xs k with
 | false=>exact KC f k v xs
 | true=>
  show A9 f (Hh xs k v)=Hh (A9 f xs) k (f v);unfold A9 Hh;rw[List.map_map,List.map_map];refine List.map_congr_left λp _=>?_;show _=(bif decide (p.1=k) then(k,f v) else(p.1,f p.2));simp only[Function.comp]
  cases decide (p.1=k)<;>rfl
theorem NP (f:T→S)(xs:List (AI×T))(k:AI):A9 f (Ec xs k)=Ec (A9 f xs) k:=by
 unfold A9 Ec;rw[List.filter_map];rfl
theorem E2 (f:T→S)(xs:List (AI×T)):(A9 f xs).length=xs.length:=by simp[A9]
theorem Jk (k:AI)(v:T):∀xs:List (AI×T),(KD k v xs).Perm ((k,v)::xs)
 | []=>R7 _
 | p::r=>by
  rw[KD]
  cases CM k p.1 with
  | true=>exact R7 _
  | false=>exact((Jk k v r).cons p).trans (List.Perm.swap _ _ _)
def ED (x:T):List T→List (List T)
 | []=>[[x]]
 | y::r=>(x::y::r)::(ED x r).map (y::·)
def Jf:List T→List (List T)
 | []=>[[]]
 | x::r=>(Jf r).flatMap (ED x)
theorem H7 (x:T):∀(a b:List T),a++x::b∈ED x (a++b)
 | [],[]=>by simp[ED]
 | [],y::b=>by simp[ED]
 | y::a,b=>by
  simp only[List.cons_append,ED,Sq,List.mem_map];exact .inr ⟨_,H7 x a b,rfl⟩
theorem Jm:∀(xs ys:List T),ys.Perm xs→ys∈Jf xs
 | [],ys,h=>by rw[h.eq_nil];simp[Jf]
 | x::r,ys,h=>by
  have hx:x∈ys:=h.symm.subset (List.mem_cons_self ..);obtain⟨a,b,rfl⟩:=List.append_of_mem hx;have h2:(a++b).Perm r:=(List.perm_middle.symm.trans h).cons_inv;simp only[Jf,List.mem_flatMap];exact⟨a++b,Jm r _ h2,H7 x a b⟩
def MB {R:Type}[DecidableEq R](xs:List T)(K:List T→Option R):Option R:=match K xs with
 | none=>none
 | some r=>bif (Jf xs).all (λp=>decide (K p=some r)) then some r else none
theorem JM {R:Type}[DecidableEq R]{xs:List T}{K:List T→Option R}{r:R}(h:MB xs K=some r):∀p:List T,p.Perm xs→K p=some r:=λp hp=>by
 unfold MB at h
 cases hk:K xs with
 | none=>rw[hk] at h;cases h
 | some q=>
  rw[hk] at h;simp only at h
  cases ha:(Jf xs).all (λp=>decide (K p=some q)) with
  | false=>rw[ha] at h;cases h
  | true=>
   rw[ha] at h;cases h;exact of_decide_eq_true (List.all_eq_true.1 ha p (Jm xs p hp))
def KF {St O:Type}(body:T→St→Option (Stp St (Out O St))):List T→St→Option (Out O St)
 | [],s=>some (.go s)
 | x::r,s=>match body x s with
  | none=>none
  | some (.next s')=>KF body r s'
  | some (.out o)=>some o
def QO {St R:Type}(body:T→St→Option (Stp St (Out R St)))(ys:List T)(K:St→Option R)(r:R):Stp St (Out R St)→Prop
 | .next s'=>∀q:List T,q.Perm ys→BN (KF body q s') (BW K)=some r
 | .out o=>BW K o=some r
theorem LS {St R:Type}{body:T→St→Option (Stp St (Out R St))}{ys ys':List T}{p:T}{s:St}{K:St→Option R}{r:R}(h:∀q:List T,q.Perm ys→BN (KF body q s) (BW K)=some r)(hp:ys.Perm (p::ys')):∃t,body p s=some t∧QO body ys' K r t:=by
 have h1:∀q:List T,q.Perm ys'→BN (KF body (p::q) s) (BW K)=some r:=λq hq=>h _ ((hq.cons p).trans hp.symm)
 cases hb:body p s with
 | none=>
  have:=h1 ys' (R7 _);rw[KF,hb] at this;cases this
 | some t=>
  refine⟨t,rfl,?_⟩
  cases t with
  | next s'=>
   intro q hq;have:=h1 q hq;rw[KF,hb] at this;exact this
  | out o=>
   have:=h1 ys' (R7 _);rw[KF,hb] at this;exact this
theorem HS {St R:Type}{body:T→St→Option (Stp St (Out R St))}{ys:List T}{s:St}{K:St→Option R}{r:R}(h:∀q:List T,q.Perm ys→BN (KF body q s) (BW K)=some r)(hy:ys=[]):K s=some r:=by
 subst hy;exact h [] (R7 _)
theorem CB {St R:Type}{body:T→St→Option (Stp St (Out R St))}{ys:List T}{s':St}{K:St→Option R}{r:R}{t:Stp St (Out R St)}(h:some (Stp.next s')=some t)(ht:QO body ys K r t):∀q:List T,q.Perm ys→BN (KF body q s') (BW K)=some r:=by cases h;exact ht
theorem DJ {ys ys':List T}{p:T}(h:ys.Perm (p::ys')):ys'.length<ys.length:=by rw[h.length_eq];exact Sg _
end
section
variable {T S : Type}
def Mu (lt:T→T→Bool)(x:T):List T→List T
 | []=>[x]
 | y::r=>bif lt y x then y::Mu lt x r else x::y::r
def Kv (lt:T→T→Bool):List T→List T
 | []=>[]
 | x::r=>Mu lt x (Kv lt r)
theorem GY (lt:T→T→Bool)(x:T):∀xs:List T,(Mu lt x xs).Perm (x::xs)
 | []=>R7 _
 | y::r=>by
  rw[Mu]
  cases lt y x with
  | true=>exact((GY lt x r).cons y).trans (List.Perm.swap _ _ _)
  | false=>exact R7 _
theorem Gx (lt:T→T→Bool):∀xs:List T,(Kv lt xs).Perm xs
 | []=>R7 _
 | x::r=>(GY lt x _).trans ((Gx lt r).cons x)
def EM (lt:T→T→Bool):List T→Bool
 | []=>true
 | x::r=>r.all (λy=>lt x y||lt y x)&&EM lt r
structure Q5 (lt:T→T→Bool):Prop where
 irrefl:∀x,lt x x=false
 ntrans:∀x y z,lt x y=false→lt y z=false→lt x z=false
 asym:∀x y,lt x y=true→lt y x=false
theorem Iv {lt:T→T→Bool}:∀{xs:List T},EM lt xs=true→xs.Pairwise λx y=>(lt x y||lt y x)=true
 | [],_=>List.Pairwise.nil
 | x::r,h=>by
  simp only[EM,RC,RS] at h;exact List.pairwise_cons.2 ⟨λy hy=>h.1 y hy,Iv h.2⟩
theorem K2 {R:T→T→Prop}(hs:∀x y,R x y→R y x):∀{xs:List T},xs.Pairwise R→∀a b,a∈xs→b∈xs→a=b∨R a b
 | [],_,a,b,h,_=>by cases h
 | x::r,h,a,b,ha,hb=>by
  rw[List.pairwise_cons] at h;rcases List.mem_cons.1 ha with e | ha1
  ·rcases List.mem_cons.1 hb with e2 | hb1
   ·exact .inl (e.trans e2.symm)
   ·exact .inr (e▸h.1 b hb1)
  ·rcases List.mem_cons.1 hb with e2 | hb1
   ·exact .inr (hs _ _ (e2▸h.1 a ha1))
   ·exact K2 hs h.2 a b ha1 hb1
theorem H4 {lt:T→T→Bool}(L:Q5 lt)(x:T):∀{xs:List T},(xs.Pairwise λx y=>lt y x=false)→(Mu lt x xs).Pairwise λx y=>lt y x=false
 | [],_=>List.pairwise_singleton _ _
 | y::r,h=>by
  rw[List.pairwise_cons] at h;rw[Mu]
  cases hy:lt y x with
  | true=>
   refine List.pairwise_cons.2 ⟨λz hz=>?_,H4 L x h.2⟩;rcases List.mem_cons.1 ((GY lt x r).subset hz) with e | h1
   ·rw[e];exact L.asym _ _ hy
   ·exact h.1 z h1
  | false=>
   refine List.pairwise_cons.2 ⟨λz hz=>?_,List.pairwise_cons.2 h⟩;rcases List.mem_cons.1 hz with e | h1
   ·rw[e];exact hy
   ·exact L.ntrans _ _ _ (h.1 z h1) hy
theorem Iu {lt:T→T→Bool}(L:Q5 lt):∀xs:List T,(Kv lt xs).Pairwise λx y=>lt y x=false
 | []=>List.Pairwise.nil
 | x::r=>H4 L x (Iu L r)
theorem PS {lt:T→T→Bool}(L:Q5 lt){xs ys:List T}(hd:EM lt xs=true)(hp:ys.Perm xs)(hs:ys.Pairwise λx y=>lt y x=false):ys=Kv lt xs:=by
 refine List.Perm.eq_of_pairwise (le:=λx y=>lt y x=false) ?_ hs (Iu L xs) (hp.trans (Gx lt xs).symm);intro a b ha hb h2 h3;have hb':b∈xs:=(Gx lt xs).subset hb;rcases K2 (R:=λx y=>(lt x y||lt y x)=true) (λx y h=>by rw[Bool.or_comm];exact h) (Iv hd) a b (hp.subset ha) hb' with h | h
 ·exact h
 ·rw[h2,h3] at h;cases h
inductive All2 (R:T→S→Prop):List T→List S→Prop
 | nil:All2 R [] []
 | cons {x y xs ys}:R x y→All2 R xs ys→All2 R (x::xs) (y::ys)
theorem All2.length {R:T→S→Prop}{xs:List T}{ys:List S}(h:All2 R xs ys):xs.length=ys.length:=by
 induction h with
 | nil=>rfl
 | cons _ _ ih=>simp[ih]
theorem All2.perm {R:T→S→Prop}{ys zs:List S}(hp:ys.Perm zs):∀{xs:List T},All2 R xs ys→∃xs',xs'.Perm xs∧All2 R xs' zs:=by
 induction hp with
 | nil=>intro xs h;exact⟨xs,R7 _,h⟩
 | cons a _ ih=>
  intro xs h
  cases h with
  | cons h1 h2=>obtain⟨x',p,h3⟩:=ih h2;exact⟨_,p.cons _,.cons h1 h3⟩
 | swap a b l=>
  intro xs h
  cases h with
  | cons h1 h2=>cases h2 with
   | cons h3 h4=>exact⟨_,List.Perm.swap _ _ _,.cons h3 (.cons h1 h4)⟩
 | trans _ _ ih1 ih2=>
  intro xs h;obtain⟨x1,p1,h1⟩:=ih1 h;obtain⟨x2,p2,h2⟩:=ih2 h1;exact⟨x2,p2.trans p1,h2⟩
end
def Cs (n1 n2 p1 p2:Int):Bool:=decide (n1<n2)||(decide (n1=n2)&&decide (p1<p2))
theorem Jo {n1 n2 p1 p2:Int}:Cs n1 n2 p1 p2=true↔n1<n2∨(n1=n2∧p1<p2):=by
 unfold Cs;simp
theorem GA {n1 n2 p1 p2:Int}:Cs n1 n2 p1 p2=false↔¬ n1<n2∧(n1=n2→¬ p1<p2):=by
 unfold Cs;simp
theorem OW {T:Type}(n p:T→Int):Q5 λx y=>Cs (n x) (n y) (p x) (p y):=⟨λx=>GA.2 ⟨by omega,λ_=>by omega⟩,λx y z h1 h2=>by
 rw[GA] at *;exact⟨by omega,λe=>by omega⟩,λx y h=>by
 rw[Jo] at h;rw[GA];exact⟨by omega,λe=>by omega⟩⟩
structure A4 where
 fID:AI
 fTenant:AI
 fSource:AI
 fKey:AI
 fAt:Int
 fCause:AI
 fBody:(List Ap)
 deriving DecidableEq,Inhabited
structure Ac where
 fEvent:A4
 fAt:Int
 fReceives:Int
 fHeld:Bool
 fPlace:Int
 deriving DecidableEq,Inhabited
def L2 (ys:(List Ap)):Option ((List Ap)):=
 Bo (KL 40 (([]:List Ap).length+ys.length))<|some (([]:List Ap)++ys)
def L0 (F:Nat)(e:A4):Option (Int):=
 BF (((!(En e.fID))||((!(En e.fTenant))||((!(En e.fSource))||(bif !decide (e.fKey=([]:AI)) then((!(En e.fKey))||((!decide (e.fCause=([]:AI)))&&(!(En e.fCause)))) else((!decide (e.fCause=([]:AI)))&&(!(En e.fCause)))))))) (some 4) (BF (((decide (e.fAt<0))||(decide (1073741824<e.fAt)))) (some 2) (BN (Ld F e.fBody) λha=>some ha))
def Dh (F:Nat)(a:A4)(b:A4):Option (Bool):=
 Bo (imp (decide (a.fID=b.fID)) (imp (decide (a.fTenant=b.fTenant)) (imp (decide (a.fSource=b.fSource)) (imp (decide (a.fKey=b.fKey)) (imp (decide (a.fAt=b.fAt)) (imp (decide (a.fCause=b.fCause)) ((H5 F a.fBody b.fBody).isSome)))))))<|some ((decide (a.fID=b.fID))&&((decide (a.fTenant=b.fTenant))&&((decide (a.fSource=b.fSource))&&((decide (a.fKey=b.fKey))&&((decide (a.fAt=b.fAt))&&((decide (a.fCause=b.fCause))&&(ov (H5 F a.fBody b.fBody))))))))
end Go.Proofs.YthbbedliepkakaaGreatDoor
namespace Go.Proofs.YthbbedliepkakaaGreatDoor.Q
open Go Go.RowKit
set_option linter.unusedVariables false
set_option linter.unusedSimpArgs false
def JW (ops:List Oper)(N:Nat):Bool:=
 let cl:=IA ops []
 (List.range ops.length).all (λi=>(CE (ops.getD i default)).all (·<i))&&
 (List.range ops.length).all (λi=>i<N||(List.range i).all (λj=>(cl.getD i 0).testBit j))
section
variable {P : Program} {Q : Exit → Act → World → Prop}
theorem KS {listed:Array Bool}{len m:Nat}(hs:listed.size=len)(hm:m≤len)(h:∀j,j<len→(listed.getD j true=true↔j<m)):listed.toList.count false=len-m:=by
 have:listed.toList=List.replicate m true++List.replicate (len-m) false:=by
  apply List.ext_getElem
  ·simp[hs];omega
  ·intro j h1 h2;have hj:j<len:=by simpa[hs] using h1
   have:=h j hj;rw[Array.getD_eq_getD_getElem?,Array.getElem?_eq_getElem (by omega)] at this;simp only[RL] at this;rw[Array.getElem_toList,List.getElem_append]
   split
   ·rename_i h3
    simp at h3;simp[this.2 h3]
   ·rename_i h3
    simp at h3;simp only[List.getElem_replicate]
    cases hb:listed[j] with
    | false=>rfl
    | true=>have:=this.1 hb;omega
 rw[this];simp[List.count_append,List.count_replicate]
theorem LU {listed:Array Bool}{j:Nat}(h:j<listed.size)(d d':Bool):listed.getD j d=listed.getD j d':=by
 simp[Array.getD_eq_getD_getElem?,Array.getElem?_eq_getElem h]
theorem IB {ops:List Oper}{listed:Array Bool}{i:Nat}{o:Oper}(ho:ops[i]? =some o)(hb:∀e∈CE o,listed.getD e true=true)
  (hcl:∀j o,ops[j]? =some o→listed.getD j true=true→∀e∈CE o,listed.getD e true=true) (j:Nat) (h:((IA ops []).getD i 0).testBit j=true):j=i∨listed.getD j true=true:=
 Ef ops (λk=>k=i∨listed.getD k true=true) ops [] (λt o' ht e he hF=>by
  rcases hF with hF | hF
  ·simp at hF;subst hF;rw[ho] at ht;simp at ht;subst ht;exact .inr (hb e he)
  ·exact .inr (hcl t o' ht (by simpa using hF) e he)) (λj i hb=>by simp at hb) i j h (.inl rfl)
theorem Gb {ops:List Oper}{listed:Array Bool}{i:Nat}(hsz:listed.size=ops.length)(hlt:∀i,i<ops.length→∀e∈CE (ops.getD i default),e<i)(h:i∈Region.ready .any ops.toArray listed) :
  listed.getD i true=false∧i<ops.length∧∃o,ops[i]? =some o∧∀e∈CE o,listed.getD e true=true:=by
 obtain⟨h1,o,ho,h2⟩:=mem_ready.1 h;have ho':ops[i]? =some o:=by simpa using ho
 have hil:=(List.getElem?_eq_some_iff.1 ho').1;refine⟨h1,hil,o,ho',λe he=>?_⟩;have hei:=hlt i hil e (by rw[RA,ho'];exact he);simp only[CE,List.mem_map,List.mem_filter] at he;obtain⟨x,⟨hx1,hx2⟩,rfl⟩:=he;have h3:=h2 x (by simpa using hx1) hx2;rw[LU (by omega) true false];exact h3
theorem ER {ops:List Oper}{listed:Array Bool}(hsz:listed.size=ops.length)(hlt:∀i,i<ops.length→∀e∈CE (ops.getD i default),e<i)(h:Region.ready .any ops.toArray listed=[]) :
  ∀j,j<ops.length→listed.getD j true=true:=by
 intro j
 induction j using Nat.strongRecOn with
 | ind j ih=>
  intro hj
  cases hb:listed.getD j true with
  | true=>rfl
  | false=>
   have:j∈Region.ready .any ops.toArray listed:=mem_ready.2 ⟨hb,ops[j],by simp[hj],λe he hbn=>by
    have hel:e.on<j:=hlt j hj e.on (by
     rw[RA,R9 hj];simp only[CE,RL,List.mem_map,List.mem_filter];exact⟨e,⟨by simpa using he,hbn⟩,rfl⟩)
    rw[LU (by omega) false true];exact ih e.on hel (by omega)⟩
   rw[h] at this;cases this
theorem HP {listed:Array Bool}{i j:Nat}(hi:i<listed.size):(listed.setIfInBounds i true).getD j true=true↔(j=i∨listed.getD j true=true):=by
 by_cases hj:i=j
 ·subst hj;simp[hi]
 ·rw[getD_set_ne true hj];exact⟨.inr,λh=>h.elim (λh=>absurd h.symm hj) id⟩
theorem Mv {listed:Array Bool}{i fuel:Nat}(hi:i<listed.size)(hun:listed.getD i true=false)(hc:listed.toList.count false=fuel+1):(listed.setIfInBounds i true).toList.count false=fuel:=by
 have hfi:listed.toList[i]? =some false:=by
  rw[Array.getD_eq_getD_getElem?,Array.getElem?_eq_getElem hi] at hun;simp at hun;simp[hi,hun]
 rw[Array.toList_setIfInBounds];have h1:=List.count_set (a:=true) (b:=false) (l:=listed.toList) (i:=i) (by simpa using hi);have h2:listed.toList[i]'(by simpa using hi)=false:=by
  have:=List.getElem?_eq_some_iff.1 hfi;exact this.2
 rw[h1,h2,hc];rfl
theorem Hq {ops:List Oper}{N:Nat}(hlt:∀i,i<ops.length→∀e∈CE (ops.getD i default),e<i)
  (hch:∀i,N≤i→i<ops.length→∀j,j<i→((IA ops []).getD i 0).testBit j=true):∀(k m:Nat) (listed:Array Bool) (a:Act) (w:World),m+k=ops.length→N≤m→listed.size=ops.length→
   (∀j,j<ops.length→(listed.getD j true=true↔j<m))→(∀j o,ops[j]? =some o→listed.getD j true=true→∀e∈CE o,listed.getD e true=true)→wpList P ops.toArray Q (ops.drop m) a w→wpAny P .any ops.toArray Q k listed a w
 | 0,m,listed,a,w,hk,hN,hsz,hl,hcl,h=>by
  refine⟨?_,?_⟩
  ·cases hr:Region.ready .any ops.toArray listed with
   | nil=>rfl
   | cons i r=>
    obtain⟨h1,h2,_⟩:=Gb hsz hlt (i:=i) (by rw[hr];simp);rw[(hl i h2).2 (by omega)] at h1;cases h1
  ·rw[List.drop_of_length_le (by omega)] at h;exact h
 | k+1,m,listed,a,w,hk,hN,hsz,hl,hcl,h=>by
  refine⟨λhr=>?_,λi hi=>?_⟩
  ·have:=(hl m (by omega)).1 (ER hsz hlt hr m (by omega));omega
  ·obtain⟨h1,h2,o,ho,hb⟩:=Gb hsz hlt hi;have him:i=m:=by
    have hmi : ¬ i<m:=λh'=>by rw[(hl i h2).2 h'] at h1;cases h1
    by_cases e:i=m
    ·exact e
    ·rcases IB ho hb hcl m (hch i (by omega) h2 m (by omega)) with h3 | h3
     ·exact h3.symm
     ·have:=(hl m (by omega)).1 h3;omega
   subst him;have hd:ops.drop i=o::ops.drop (i+1):=by
    rw[List.drop_eq_getElem_cons h2]
    congr 1
    exact(List.getElem?_eq_some_iff.1 ho).2
   rw[hd] at h;have ih:∀a' w',wpList P ops.toArray Q (ops.drop (i+1)) a' w'→wpAny P .any ops.toArray Q k (listed.setIfInBounds i true) a' w':=λa' w' h'=>by
    refine Hq hlt hch k (i+1) _ a' w' (by omega) (by omega) (by simpa using hsz) (λj hj=>?_) (λj o' hj hlj e he=>?_) h'
    ·rw[HP (by omega),hl j hj];omega
    ·rw[HP (by omega)] at hlj ⊢;rcases hlj with rfl | hlj
     ·rw[ho] at hj;simp at hj;subst hj;exact .inr (hb e he)
     ·exact .inr (hcl j o' hj hlj e he)
   unfold wpOp;have hoA:ops.toArray[i]? =some o:=by simpa using ho
   simp only[hoA];simp only[wpList] at h
   split
   ·rename_i hw'
    rw[if_pos hw'] at h;exact h.imp (λh=>Oper.wp_mono ih h) (λh=>h)
   ·rename_i hw'
    rw[Sd hw'] at h;exact ih _ _ h
theorem Nh {id:Nat}{ops:List Oper}{N:Nat}(hm:P.follows .mixedOrders=true)(hB:JW ops N=true)(hN:N≤ops.length)(I:(Nat→Bool)→Act→World→Prop)
  (hext:∀S S' a w,(∀j,j<N→S j=S' j)→I S a w→I S' a w) {a:Act} {w:World} (h0:I (λ_=>false) a { w with drawn:=w.drawn+1 })
  (step:∀S i o a w,i<N→S i=false→ops[i]? =some o→(∀e∈CE o,e<i∧S e=true)→I S a w→∀K:Act→World→Prop,(∀a' w',I (λj=>j ==i||S j) a' w'→K a' w')→
   (Region.wanted o (yielded ops.toArray a.tmps)=true→o.wp P a w K Q)∧(Region.wanted o (yielded ops.toArray a.tmps)=false→K (a.put o.dst undef) w))
  (fin:∀a w,I (λ_=>true) a w→wpList P ops.toArray Q (ops.drop N) a w):(Code.region id ops.toArray true).wp P Q a w:=by
 simp only[JW,RC,RS,List.mem_range,R8,Sf] at hB;obtain⟨hlt,hch0⟩:=hB;have hch:∀i,N≤i→i<ops.length→∀j,j<i→((IA ops []).getD i 0).testBit j=true:=λi h1 h2 j hj=>by
  rcases hch0 i h2 with h3 | h3
  ·omega
  ·exact h3 j hj
 refine wp_region_any hm ?_;have main:∀(fuel:Nat) (listed:Array Bool) (a:Act) (w:World),listed.size=ops.length→listed.toList.count false=fuel→I (λj=>listed.getD j true) a w→
   (∀j o,ops[j]? =some o→listed.getD j true=true→∀e∈CE o,listed.getD e true=true)→(∀j,N≤j→j<ops.length→listed.getD j true=false)→wpAny P .any ops.toArray Q fuel listed a w:=by
  intro fuel;have allin:∀(fuel:Nat) (listed:Array Bool) (a:Act) (w:World),listed.size=ops.length→listed.toList.count false=fuel→I (λj=>listed.getD j true) a w→
   (∀j o,ops[j]? =some o→listed.getD j true=true→∀e∈CE o,listed.getD e true=true)→(∀j,N≤j→j<ops.length→listed.getD j true=false)→(∀j,j<N→listed.getD j true=true)→wpAny P .any ops.toArray Q fuel listed a w:=by
   intro fuel listed a w hsz hc hI hcl hlast hall;have hl:∀j,j<ops.length→(listed.getD j true=true↔j<N):=λj hj=>by
    constructor
    ·intro h
     by_cases hjN:j<N
     ·exact hjN
     ·rw[hlast j (by omega) hj] at h;cases h
    ·exact hall j
   have:=KS hsz hN hl;refine Hq hlt hch fuel N listed a w (by omega) (RE _) hsz hl hcl (fin a w (hext _ _ a w (λj hj=>hall j hj) hI))
  induction fuel with
  | zero=>
   intro listed a w hsz hc hI hcl hlast;refine allin 0 listed a w hsz hc hI hcl hlast (λj hj=>?_)
   cases hb:listed.getD j true with
   | true=>rfl
   | false=>
    have:false∈listed.toList:=by
     rw[Array.getD_eq_getD_getElem?,Array.getElem?_eq_getElem (by omega)] at hb;simp at hb;rw[← hb];simp
    have:=List.count_pos_iff.2 this;omega
  | succ fuel ih=>
   intro listed a w hsz hc hI hcl hlast
   by_cases hall:∀j,j<N→listed.getD j true=true
   ·exact allin (fuel+1) listed a w hsz hc hI hcl hlast hall
   ·refine⟨λhr=>absurd (λj hj=>ER hsz hlt hr j (by omega)) hall,λi hi=>?_⟩;obtain⟨h1,h2,o,ho,hb⟩:=Gb hsz hlt hi;have hiN:i<N:=by
     by_cases h:i<N
     ·exact h
     ·refine absurd (λj hj=>?_) hall;rcases IB ho hb hcl j (hch i (by omega) h2 j (by omega)) with h3 | h3
      ·omega
      ·exact h3
    have K':∀a' w',I (λj=>j ==i||listed.getD j true) a' w'→wpAny P .any ops.toArray Q fuel (listed.setIfInBounds i true) a' w':=λa' w' hI'=>by
     refine ih _ a' w' (by simpa using hsz) (Mv (by omega) h1 hc) (hext _ _ a' w' (λj hj=>?_) hI') (λj o' hj hlj e he=>?_) (λj h3 h4=>?_)
     ·have:=HP (listed:=listed) (i:=i) (j:=j) (by omega)
      cases hq:(listed.setIfInBounds i true).getD j true with
      | true=>
       rw[hq] at this;rcases this.1 rfl with h | h
       ·simp[h]
       ·simp[h]
      | false=>
       rw[hq] at this;have h5 : ¬ (j=i∨listed.getD j true=true):=λh=>by have:=this.2 h;cases this
       cases hz:listed.getD j true with
       | true=>exact absurd (.inr hz) h5
       | false=>
        have:j≠i:=λh=>h5 (.inl h);simp[this]
     ·rw[HP (by omega)] at hlj ⊢;rcases hlj with rfl | hlj
      ·rw[ho] at hj;simp at hj;subst hj;exact .inr (hb e he)
      ·exact .inr (hcl j o' hj hlj e he)
     ·rw[getD_set_ne true (by omega)];exact hlast j h3 h4
    obtain⟨k1,k2⟩:=step _ i o a w hiN h1 ho (λe he=>⟨hlt i h2 e (by rw[RA,ho];exact he),hb e he⟩) hI _ K';unfold wpOp;have hoA:ops.toArray[i]? =some o:=by simpa using ho
    simp only[hoA]
    split
    ·rename_i hw';exact .inl (k1 hw')
    ·rename_i hw';exact k2 (by simpa using hw')
 have e0:∀j,j<ops.length→(Array.replicate ops.length false).getD j true=false:=λj hj=>by simp[hj]
 have hsz0:ops.toArray.size=ops.length:=by simp
 rw[hsz0];refine main ops.length (Array.replicate ops.length false) a _ (by simp) (by simp) (hext _ _ _ _ (λj hj=>(e0 j (by omega)).symm) h0) (λj o hj hl=>?_) (λj _ h2=>e0 j h2);rw[e0 j (List.getElem?_eq_some_iff.1 hj).1] at hl;cases hl
end
structure Sa where
 deps:List Nat
 r:Rp
 al:Option (List Rp×TypeId):=none
 late:Option (Nat×List Rp):=none
 sto:Option Nat:=none
def Ds (sp:List Sa)(i:Nat):Sa:=sp.getD i { deps:=[],r:=rv undef }
def Nx (sp:List Sa):List Sp:=sp.map λs=>⟨s.deps,s.r,0⟩
def GZ (β:Nat→Nat)(s:Sa)(i:Nat):Rp:=match s.al with
 | none=>s.r
 | some _=>rv (.pointer (some ⟨β i,0,none⟩))
def Hk (S:Nat→Bool)(late:Option (Nat×List Rp))(cs:List Rp):List Rp:=match late with
 | none=>cs
 | some q=>if S q.1 then q.2 else cs
def Dz (S:Nat→Bool)(β:Nat→Nat):List Sa→Nat→List Ent
 | [],_=>[]
 | s::r,t=>match s.al with
  | some p=>if S t then .blk (β t) (Hk S s.late p.1) p.2::Dz S β r (t+1) else Dz S β r (t+1)
  | none=>Dz S β r (t+1)
def MI (β:Nat→Nat):List Sa→Nat→List Ent
 | [],_=>[]
 | s::r,t=>match s.al with
  | some p=>.blk (β t) (match s.late with | none=>p.1 | some q=>q.2) p.2::MI β r (t+1)
  | none=>MI β r (t+1)
def HA (β:Nat→Nat):List Oper→List Sa→Nat→Fr→Fr
 | o::os,s::sp,i,l=>match o.dst with
  | some d=>(d,GZ β s i)::HA β os sp (i+1) l
  | none=>HA β os sp (i+1) l
 | _,_,_,l=>l
theorem Ge {S S':Nat→Bool}{late:Option (Nat×List Rp)}{cs:List Rp}(h:∀q,late=some q→S q.1=S' q.1):Hk S late cs=Hk S' late cs:=by
 unfold Hk
 cases late with
 | none=>rfl
 | some q=>simp only[];rw[h q rfl]
theorem CD (S:Nat→Bool)(β:Nat→Nat)(s:Sa)(r:List Sa)(t:Nat):Dz S β (s::r) t=match s.al with
  | some p=>if S t then .blk (β t) (Hk S s.late p.1) p.2::Dz S β r (t+1) else Dz S β r (t+1)
  | none=>Dz S β r (t+1):=rfl
theorem D9 {S S':Nat→Bool}{β β':Nat→Nat}:∀(r:List Sa) (t0:Nat),(∀(t:Nat) (s:Sa),r[t]? =some s→s.al≠none→S (t0+t)=S' (t0+t)∧(S (t0+t)=true→β (t0+t)=β' (t0+t)∧∀q,s.late=some q→S q.1=S' q.1))→Dz S β r t0=Dz S' β' r t0
 | [],_,_=>rfl
 | s::r,t0,h=>by
  have ih:=D9 r (t0+1) (λt s hs hn=>by
   have:=h (t+1) s (by simpa using hs) hn;rw[show t0+1+t=t0+(t+1) from by omega];exact this)
  unfold Dz;rw[ih]
  cases ha:s.al with
  | none=>rfl
  | some p=>
   obtain⟨h1,h2⟩:=h 0 s rfl (by rw[ha];exact nofun);simp only[Nat.add_zero] at h1 h2;simp only[];rw[← h1]
   split
   ·rename_i hS;rw[(h2 hS).1,Ge (h2 hS).2]
   ·rfl
theorem KQ (β:Nat→Nat):∀(r:List Sa) (t0:Nat),Dz (λ_=>true) β r t0=MI β r t0
 | [],_=>rfl
 | s::r,t0=>by
  unfold Dz MI;rw[KQ β r (t0+1)]
  cases s.al with
  | none=>rfl
  | some p=>cases hl:s.late<;>simp[Hk,hl]
theorem Jr (β:Nat→Nat):∀(r:List Sa) (t0:Nat),Dz (λ_=>false) β r t0=[]
 | [],_=>rfl
 | s::r,t0=>by
  unfold Dz;rw[Jr β r (t0+1)]
  cases s.al<;>simp
theorem KP {S:Nat→Bool}{β:Nat→Nat}{i b:Nat}{p:List Rp×TypeId}:∀(r:List Sa) (t0 k:Nat) (s:Sa),i=t0+k→r[k]? =some s→s.al=some p→S i=false→(∀(t:Nat) (s:Sa) (q:Nat×List Rp),r[t]? =some s→s.al≠none→s.late=some q→q.1≠i)→(∀q,s.late=some q→S q.1=false∧q.1≠i)→
  (Dz (λj=>j ==i||S j) (λj=>if j=i then b else β j) r t0).Perm (.blk b p.1 p.2::Dz S β r t0)
 | [],_,_,_,_,h,_,_,_,_=>by simp at h
 | s'::r,t0,0,s,hi,h,ha,hS,hne,hl=>by
  simp at h hi;subst h;subst hi;have e:=D9 (S:=λj=>j ==i||S j) (S':=S) (β:=λj=>if j=i then b else β j) (β':=β) r (i+1) (λt s hs hn=>by
   have:i+1+t≠i:=by omega
   refine⟨by simp[this],λ_=>⟨by simp[this],λq hq=>?_⟩⟩;have:=hne (t+1) s q (by simpa using hs) hn hq;simp[this])
  have ec:Hk (λj=>j ==i||S j) s'.late p.1=p.1:=by
   unfold Hk
   cases hq:s'.late with
   | none=>rfl
   | some q=>
    obtain⟨h1,h2⟩:=hl q hq;simp[h1,h2]
  unfold Dz;rw[e,ha];simp only[hS,BEq.rfl,RX,Sr,ec];simp
 | s'::r,t0,k+1,s,hi,h,ha,hS,hne,hl=>by
  have ih:=KP (S:=S) (β:=β) (i:=i) (b:=b) (p:=p) r (t0+1) k s (by omega) (by simpa using h) ha hS (λt s q hs=>hne (t+1) s q (by simpa using hs)) hl;have hne0:t0≠i:=by omega
  have hne':(t0 ==i)=false:=by simpa using hne0
  unfold Dz
  cases ha':s'.al with
  | none=>exact ih
  | some q=>
   simp only[hne',RG,Sd hne0];rw[Ge (S:=λj=>j ==i||S j) (S':=S) (λq hq=>by
    have:=hne 0 s' q rfl (by rw[ha'];exact nofun) hq;simp[this])]
   cases hS':S t0 with
   | true=>simpa using(R5 _ ih).trans (List.Perm.swap _ _ _)
   | false=>simpa using ih
theorem KO {S:Nat→Bool}{β:Nat→Nat}{i j:Nat}{p:List Rp×TypeId}{ncs:List Rp}:∀(r:List Sa) (t0 k:Nat) (s:Sa),j=t0+k→r[k]? =some s→s.al=some p→s.late=some (i,ncs)→S j=true→S i=false→(∀(t:Nat) (s:Sa) (q:Nat×List Rp),r[t]? =some s→s.al≠none→s.late=some q→t0+t≠j→q.1≠i)→(∀(t:Nat) (s:Sa),r[t]? =some s→s.al≠none→t0+t≠i)→
  ∃H',(Dz S β r t0).Perm (.blk (β j) p.1 p.2::H')∧(Dz (λj=>j ==i||S j) β r t0).Perm (.blk (β j) ncs p.2::H')
 | [],_,_,_,_,h,_,_,_,_,_,_=>by simp at h
 | s'::r,t0,0,s,hj,h,ha,hl,hSj,hSi,hne,hni=>by
  simp at h hj;subst h;subst hj;have e:=D9 (S:=λx=>x ==i||S x) (S':=S) (β:=β) (β':=β) r (j+1) (λt s hs hn=>by
   have h1:=hni (t+1) s (by simpa using hs) hn;have h1':j+1+t≠i:=by omega
   refine⟨by simp[h1'],λ_=>⟨rfl,λq hq=>?_⟩⟩;have:=hne (t+1) s q (by simpa using hs) hn hq (by omega);simp[this])
  refine⟨Dz S β r (j+1),?_,?_⟩
  ·rw[CD];rw[ha];simp[hSj,Hk,hl,hSi]
  ·rw[CD];rw[ha,e];simp[hSj,Hk,hl]
 | s'::r,t0,k+1,s,hj,h,ha,hl,hSj,hSi,hne,hni=>by
  obtain⟨H',h1,h2⟩:=KO (S:=S) (β:=β) (i:=i) (j:=j) (p:=p) (ncs:=ncs) r (t0+1) k s (by omega) (by simpa using h) ha hl hSj hSi (λt s q hs hn hq hx=>hne (t+1) s q (by simpa using hs) hn hq (by omega)) (λt s hs hn=>by
   have:=hni (t+1) s (by simpa using hs) hn;omega)
  cases ha':s'.al with
  | none=>exact⟨H',by rw[CD,ha'];exact h1,by rw[CD,ha'];exact h2⟩
  | some q=>
   have hi0:=hni 0 s' rfl (by rw[ha'];exact nofun);have hi0':(t0 ==i)=false:=by simpa using hi0
   have ec:Hk (λx=>x ==i||S x) s'.late q.1=Hk S s'.late q.1:=Ge (λq hq=>by
    have:=hne 0 s' q rfl (by rw[ha'];exact nofun) hq (by omega);simp[this])
   cases hS':S t0 with
   | true=>
    refine⟨.blk (β t0) (Hk S s'.late q.1) q.2::H',?_,?_⟩
    ·rw[CD];rw[ha'];simpa[hS'] using(R5 _ h1).trans (List.Perm.swap _ _ _)
    ·rw[CD];rw[ha'];simp only[hi0',RG,hS',Sr,ec];exact(R5 _ h2).trans (List.Perm.swap _ _ _)
   | false=>
    refine⟨H',?_,?_⟩
    ·rw[CD];rw[ha'];simpa[hS'] using h1
    ·rw[CD];rw[ha'];simp only[hi0',RG,hS'];simpa using h2
def Rg (n:Nat)(ops:List Oper)(N:Nat)(keys:List Nat)(deps:List (List Nat))(als:List Bool)(lates stos:List (Option Nat)):Bool:=
 JW ops N&&decide (N≤ops.length)&&
 (List.range N).all (λi=>match B7 ops i with
  | some d=>decide (d<n)&&!keys.contains d&&(List.range N).all (λj=>j ==i||B7 ops j !=some d)
  | none=>true)&&
 (List.range N).all (λi=>(deps.getD i []).all (λj=>decide (j<N)&&(CE (ops.getD i default)).contains j&&!als.getD j true))&&
 (List.range N).all (λi=>match stos.getD i none with
  | some j=>decide (j<N)&&(CE (ops.getD i default)).contains j&&als.getD j false&&!als.getD i true
  | none=>true)&&
 (List.range N).all (λj=>match lates.getD j none with
  | some k=>decide (k<N)&&als.getD j false&&stos.getD k none ==some j
  | none=>true)
def Q2 (P:Program)(n:Nat)(c:Cx)(opsA:Array Oper)(Q:Exit→Act→World→Prop)(l:Fr)(o:Oper)(p:List Rp×TypeId):Prop:=
 ∀H a w Z (K:Act→World→Prop),BG n l a Z→St c H Z w→(∀b w',St c (.blk b p.1 p.2::H) Z w'→K (a.put o.dst (.pointer (some ⟨b,0,none⟩))) w')→
  Region.wanted o (yielded opsA a.tmps)=true∧o.wp P a w K Q
def Qz (P:Program)(n:Nat)(c:Cx)(opsA:Array Oper)(Q:Exit→Act→World→Prop)(ops:List Oper)(sp:List Sa)(l0:Fr)(H:List Ent)(i:Nat)(o:Oper):Prop:=
 match (Ds sp i).sto with
 | some j=>o.dst=none∧∃d p ncs,B7 ops j=some d∧(Ds sp j).al=some p∧(Ds sp j).late=some (i,ncs)∧
   ∀b H,Co P n c opsA Q ((d,rv (.pointer (some ⟨b,0,none⟩)))::Bj ops (Nx sp) (Ds sp i).deps l0) (.blk b p.1 p.2::H) o (rv undef) (.blk b ncs p.2::H)
 | none=>match (Ds sp i).al with
  | none=>∀E,Co P n c opsA Q (Bj ops (Nx sp) (Ds sp i).deps l0) (H++E) o (Ds sp i).r (H++E)
  | some p=>Q2 P n c opsA Q (Bj ops (Nx sp) (Ds sp i).deps l0) o p
def Gh (P:Program)(n:Nat)(c:Cx)(opsA:Array Oper)(Q:Exit→Act→World→Prop)(ops:List Oper)(sp:List Sa)(l0:Fr)(H:List Ent):Nat→List Oper→Prop
 | i,o::rest=>Qz P n c opsA Q ops sp l0 H i o∧Gh P n c opsA Q ops sp l0 H (i+1) rest
 | _,[]=>True
section
variable {P : Program} {n : Nat} {c : Cx} {opsA : Array Oper} {Q : Exit → Act → World → Prop} {l l0 : Fr} {H : List Ent} {sp : List Sa}
theorem Gh.at {ops:List Oper}:∀{k:Nat} {rest:List Oper},Gh P n c opsA Q ops sp l0 H k rest→∀(t:Nat) o,rest[t]? =some o→Qz P n c opsA Q ops sp l0 H (k+t) o
 | k,o::rest,⟨h1,h2⟩,t,o',ht=>by
  cases t with
  | zero=>simp at ht;subst ht;exact h1
  | succ t=>
   have:=Gh.at h2 t o' (by simpa using ht);rw[show k+(t+1)=k+1+t from by omega];exact this
 | _,[],_,t,o,h=>by simp at h
theorem JZ {β:Nat→Nat}{a:Act}{Z:Fz}(h0:BG n l0 a Z):∀(os:List Oper) (ss:List Sa) (k:Nat),(∀(t:Nat) o s d,os[t]? =some o→ss[t]? =some s→o.dst=some d→∃v,a.tmps[d]? =some v∧(GZ β s (k+t)).p Z v)→BG n (HA β os ss k l0) a Z
 | [],_,_,_=>by unfold HA;exact h0
 | _::_,[],_,_=>by unfold HA;exact h0
 | o::os,s::ss,k,h=>by
  have ih:=JZ h0 os ss (k+1) (λt o' s' d h1 h2 h3=>by
   have:=h (t+1) o' s' d (by simpa using h1) (by simpa using h2) h3;rw[show k+1+t=k+(t+1) from by omega];exact this)
  unfold HA
  cases hd:o.dst with
  | none=>exact ih
  | some d=>
   refine⟨ih.size,ih.defers,λi r hi=>?_⟩;rw[Bz] at hi
   split at hi
   ·rename_i e;subst e;simp at hi;subst hi;exact h 0 o s d rfl rfl hd
   ·exact ih.tm i r hi
theorem PB {id:Nat}{ops:List Oper}(N:Nat)(sp:List Sa)(hm:P.follows .mixedOrders=true)(hB:Rg n ops N (CS l0) (sp.map (·.deps)) (sp.map (·.al.isSome)) (sp.map (·.late.map (·.1))) (sp.map (·.sto))=true)(hl0:MO l0 l)(hsp:sp.length=N)
  (hob:Gh P n c ops.toArray Q ops sp l0 H 0 (ops.take N)) (h:∀β,WL P n c ops.toArray Q (ops.drop N) (HA β (ops.take N) sp 0 l0) (H++MI β sp 0)):WC P n c (.region id ops.toArray true) Q l H:=by
 intro a w Z ha hw;simp only[Rg,RC,RS,List.mem_range,R8] at hB;obtain⟨⟨⟨⟨⟨b1,bN⟩,b2⟩,b3⟩,b4⟩,b5⟩:=hB;have hget:∀i,i<N→(ops.take N)[i]? =ops[i]?:=λi hi=>by rw[Sc,if_pos hi]
 have hsa:∀i,i<N→sp[i]? =some (Ds sp i):=λi hi=>by
  simp[Ds,RA,R9 (show i<sp.length by omega)]
 have hspq:∀i,i<N→(Cd (Nx sp) i)=⟨(Ds sp i).deps,(Ds sp i).r,0⟩:=λi hi=>by
  simp[Cd,Nx,RA,Sb,hsa i hi]
 have hals:∀j b,j<N→(sp.map (·.al.isSome)).getD j b=(Ds sp j).al.isSome:=λj b hj=>by simp[RA,Sb,hsa j hj]
 have hstos:∀j,j<N→(sp.map (·.sto)).getD j none=(Ds sp j).sto:=λj hj=>by simp[RA,Sb,hsa j hj]
 have hlates:∀j,j<N→(sp.map (·.late.map (·.1))).getD j none=(Ds sp j).late.map (·.1):=λj hj=>by simp[RA,Sb,hsa j hj]
 have S1:∀i o j,i<N→ops[i]? =some o→(Ds sp i).sto=some j→j<N∧j∈CE o∧(Ds sp j).al≠none∧(Ds sp i).al=none:=λi o j hi ho hs=>by
  have h1:=b4 i hi;rw[hstos i hi,hs] at h1;simp only[RC,Se,R8] at h1;obtain⟨⟨⟨h2,h3⟩,h4⟩,h5⟩:=h1;rw[hals j _ h2] at h4;rw[hals i _ hi] at h5;rw[RA,ho,RL,List.contains_iff_mem] at h3;exact⟨h2,h3,λe=>(by rw[e] at h4;cases h4),(by simpa using h5)⟩
 have L1:∀t q,t<N→(Ds sp t).late=some q→q.1<N∧(Ds sp q.1).sto=some t:=λt q ht hq=>by
  have h1:=b5 t ht;rw[hlates t ht,hq] at h1;simp only[Option.map_some,RC,R8,beq_iff_eq] at h1;obtain⟨⟨h2,h3⟩,h4⟩:=h1;rw[hstos _ h2] at h4;exact⟨h2,h4⟩
 have hops:∀j,j<N→∃o,ops[j]? =some o:=λj hj=>⟨ops[j]'(by omega),R9 (by omega)⟩
 have lt_of:∀(t:Nat) (s:Sa),sp[t]? =some s→t<N∧s=Ds sp t:=λt s hs=>by
  have h1:t<N:=by have:=(List.getElem?_eq_some_iff.1 hs).1;omega
  refine⟨h1,?_⟩;rw[hsa t h1] at hs;simpa using hs.symm
 have hdst:∀i o d,i<N→ops[i]? =some o→o.dst=some d→(d<n∧d ∉ CS l0)∧∀j,j<N→j≠i→B7 ops j≠some d:=λi o d hi ho hd=>by
  have h3:=b2 i hi;have:B7 ops i=some d:=by simp[B7,ho,hd]
  rw[this] at h3;simp only[RC,Se,RS,List.mem_range,R8] at h3;refine⟨⟨h3.1.1,λhmem=>by rw[← List.contains_iff_mem] at hmem;rw[hmem] at h3;cases h3.1.2⟩,λj hj hne he=>?_⟩;have:=h3.2 j hj;simp[hne,he] at this
 refine Nh (N:=N) hm b1 bN (λS a w=>∃ (β:Nat→Nat) (Z:Fz),St c (H++Dz S β sp 0) Z w∧BG n l0 a Z∧(∀j o d,j<N→S j=true→ops[j]? =some o→o.dst=some d→∃v,a.tmps[d]? =some v∧(GZ β (Ds sp j) j).p Z v)∧
   ∀k j,k<N→(Ds sp k).sto=some j→S k=true→S j=true)
  (λS S' a w hS hI=>?_) ⟨λ_=>0,Z,?_,ha.subL hl0,λj o d _ hS=>(by cases hS),λk j _ _ hS=>(by cases hS)⟩ (λS i o a w hi hun ho hb hI K hK=>?_) (λa w hI=>?_)
 ·obtain⟨β,Z,h1,h2,h3,h4⟩:=hI;refine⟨β,Z,?_,h2,λj o d hj hS'=>h3 j o d hj (by rw[hS j hj];exact hS'),λk j hk hs hSk=>?_⟩
  ·rw[← D9 (S:=S) (β:=β) (β':=β) sp 0 (λt s hs _=>by
    obtain⟨ht,rfl⟩:=lt_of t s hs;exact⟨hS _ (by omega),λ_=>⟨rfl,λq hq=>hS _ (L1 t q ht hq).1⟩⟩)]
   exact h1
  ·obtain⟨o,ho⟩:=hops k hk;rw[← hS j (S1 k o j hk ho hs).1];exact h4 k j hk hs (by rw[hS k hk];exact hSk)
 ·rw[Jr,List.append_nil];exact hw.drawn _
 ·obtain⟨β,Z,h1,h2,h3,hx⟩:=hI;have hput:∀k u v,a.tmps[k]? =some u→o.dst≠some k→(a.put o.dst v).tmps[k]? =some u:=λk u v hk hne=>by
   cases hd:o.dst with
   | none=>simpa[Act.put] using hk
   | some d=>
    simp only[Act.put,Array.getElem?_setIfInBounds];rw[Sd (λe=>hne (by rw[hd,e]))];exact hk
  have hagr:∀v Z',Fz.le Z Z'→BG n l0 (a.put o.dst v) Z':=λv Z' hz=>by
   refine⟨?_,?_,λk r hk=>?_⟩
   ·cases o.dst<;>simp[Act.put,h2.size]
   ·cases o.dst<;>simp[Act.put,h2.defers]
   ·obtain⟨u,hu,hpu⟩:=h2.tm k r hk;exact⟨u,hput k u v hu (λe=>((hdst i o k hi ho e).1).2 (G9 hk)),r.mono hz hpu⟩
  have hvals:∀(v:Value) (Z':Fz) (β':Nat→Nat),Fz.le Z Z'→(∀j,j≠i→β' j=β j)→(o.dst≠none→(GZ β' (Ds sp i) i).p Z' v)→∀j o' d,j<N→(j ==i||S j)=true→ops[j]? =some o'→o'.dst=some d→∃u,(a.put o.dst v).tmps[d]? =some u∧(GZ β' (Ds sp j) j).p Z' u:=by
   intro v Z' β' hz hβ hp j o' d hj hS' ho' hd
   by_cases hji:j=i
   ·subst hji;rw[ho] at ho';simp at ho';subst ho';refine⟨v,?_,hp (by simp[hd])⟩;have hdn:d<a.tmps.size:=by rw[h2.size];exact(hdst j o d hi ho hd).1.1
    simp[Act.put,hd,hdn]
   ·have hSj:S j=true:=by simpa[hji] using hS'
    obtain⟨u,hu,hpu⟩:=h3 j o' d hj hSj ho' hd;refine⟨u,hput d u v hu (λe=>(hdst i o d hi ho e).2 j hj hji (by simp[B7,ho',hd])),?_⟩;have:GZ β' (Ds sp j) j=GZ β (Ds sp j) j:=by unfold GZ;rw[hβ j hji]
    rw[this];exact(GZ β (Ds sp j) j).mono hz hpu
  have hx':∀k j,k<N→(Ds sp k).sto=some j→(k ==i||S k)=true→(j ==i||S j)=true:=λk j hk hs hSk=>by
   by_cases hki:k=i
   ·subst hki;have:=(hb j (S1 k o j hk ho hs).2.1).2;simp[this]
   ·have:S j=true:=hx k j hk hs (by simpa[hki] using hSk);simp[this]
  have hat:=hob.at i o (by rw[hget i hi];exact ho);rw[RR] at hat;unfold Qz at hat;have hag':BG n (Bj ops (Nx sp) (Ds sp i).deps l0) a Z:=GM h2 (λj hj d hd=>by
    have h4:=b3 i hi j (by simpa[RA,Sb,hsa i hi] using hj);simp only[RC,Se,R8] at h4;obtain⟨⟨h5,h6⟩,h7⟩:=h4;rw[RA,ho,RL,List.contains_iff_mem] at h6;have hjal:(Ds sp j).al=none:=by
     rw[hals j _ h5] at h7;simpa using h7
    obtain⟨o2,ho2⟩:=hops j h5;obtain⟨v,hv1,hv2⟩:=h3 j o2 d h5 (hb j h6).2 ho2 (by simpa[B7,ho2] using hd);refine⟨v,hv1,?_⟩;rw[hspq j h5];simpa[GZ,hjal] using hv2)
  cases hst:(Ds sp i).sto with
  | some j=>
   rw[hst] at hat;obtain⟨hod,d,p,ncs,hd,hal,hlate,hok⟩:=hat;obtain⟨hjN,hjb,_,hial⟩:=S1 i o j hi ho hst;have hSj:=(hb j hjb).2;obtain⟨H',p1,p2⟩:=KO (S:=S) (β:=β) (i:=i) (j:=j) (p:=p) (ncs:=ncs) sp 0 j (Ds sp j) (by omega) (hsa j hjN) hal hlate hSj hun (λt s q hs _ hq hne he=>by
     obtain⟨ht,rfl⟩:=lt_of t s hs;have:=(L1 t q ht hq).2;rw[he,hst] at this;simp at this;omega) (λt s hs hn he=>by
     obtain⟨ht,rfl⟩:=lt_of t s hs;rw[RR] at he;subst he;exact hn hial)
   obtain⟨o2,ho2⟩:=hops j hjN;obtain⟨v,hv1,hv2⟩:=h3 j o2 d hjN hSj ho2 (by simpa[B7,ho2] using hd);have hag2:BG n ((d,rv (.pointer (some ⟨β j,0,none⟩)))::Bj ops (Nx sp) (Ds sp i).deps l0) a Z:=⟨hag'.size,hag'.defers,λk r hk=>by
    rw[Bz] at hk
    split at hk
    ·rename_i e;subst e;simp at hk;subst hk
     exact⟨v,hv1,by simpa[GZ,hal] using hv2⟩
    ·exact hag'.tm k r hk⟩
   refine hok (β j) (H++H') a w Z K hag2 (h1.perm ((List.Perm.append_left H p1).trans List.perm_middle)) (λv w' Z' hz _ hs'=>hK _ _ ⟨β,Z',?_,hagr v Z' hz,hvals v Z' β hz (λ_ _=>rfl) (λhne=>absurd hod hne),hx'⟩);exact hs'.perm (List.perm_middle.symm.trans (List.Perm.append_left H p2.symm))
  | none=>
   rw[hst] at hat;have latene:∀t q,t<N→(Ds sp t).late=some q→q.1≠i:=λt q ht hq he=>by
    have:=(L1 t q ht hq).2;rw[he,hst] at this;cases this
   cases hal:(Ds sp i).al with
   | none=>
    rw[hal] at hat;refine hat _ a w Z K hag' h1 (λv w' Z' hz hp hst'=>hK _ _ ⟨β,Z',?_,hagr v Z' hz,hvals v Z' β hz (λ_ _=>rfl) (λ_=>by unfold GZ;rw[hal];exact hp),hx'⟩);rw[D9 (S':=S) (β':=β) sp 0 (λt s hs hn=>by
     obtain⟨ht,rfl⟩:=lt_of t s hs;have:t≠i:=λe=>by subst e;exact hn hal
     refine⟨by simp[this],λ_=>⟨rfl,λq hq=>?_⟩⟩;have:=latene t q ht hq;simp[this])]
    exact hst'
   | some p=>
    rw[hal] at hat;have key:=λK' hK'=>hat (H++Dz S β sp 0) a w Z K' hag' h1 hK';have h5:∀b w',St c (.blk b p.1 p.2::(H++Dz S β sp 0)) Z w'→K (a.put o.dst (.pointer (some ⟨b,0,none⟩))) w':=λb w' hst'=>by
     refine hK _ _ ⟨λj=>if j=i then b else β j,Z,?_,hagr _ Z (Fz.le.refl _),hvals _ Z _ (Fz.le.refl _) (λj hj=>by simp[hj]) (λ_=>by simp[GZ,hal,rv]),hx'⟩;have hp:=KP (S:=S) (β:=β) (i:=i) (b:=b) (p:=p) sp 0 i (Ds sp i) (by omega) (hsa i hi) hal hun (λt s q hs _ hq=>by
      obtain⟨ht,rfl⟩:=lt_of t s hs;exact latene t q ht hq) (λq hq=>by
       refine⟨?_,latene i q hi hq⟩
       cases hS:S q.1 with
       | false=>rfl
       | true=>
        obtain⟨h6,h7⟩:=L1 i q hi hq;have:=hx q.1 i h6 h7 hS;rw[this] at hun;cases hun)
     exact hst'.perm ((List.perm_middle.symm).trans (List.Perm.append_left H hp.symm))
    refine⟨λ_=>(key K h5).2,λhw'=>?_⟩;rw[(key K h5).1] at hw';cases hw'
 ·obtain⟨β,Z,h1,h2,h3,_⟩:=hI;refine h β a w Z (JZ h2 _ _ 0 (λt o s d ht hs hd=>?_)) (by rw[← KQ];exact h1);obtain⟨htN,rfl⟩:=lt_of t s hs;rw[RR];exact h3 t o d htN rfl (by rw[← hget t htN];exact ht) hd
end
theorem Qw {l:Fr}{P:Program}{n:Nat}{c:Cx}{opsA:Array Oper}{Q:Exit→Act→World→Prop}{d:Nat}{e:TypeId}{x:Operand}{ty:TypeId}{pos:String}{af:Array Edge}{cs:List Rp}(hx:ev l x=some (Bh cs)) :
  Q2 P n c opsA Q l { dst:=some d,op:=.box e x,type:=ty,pos:=pos,after:=af,guard:=none } (cs,e):=λH a w Z K ha hw hK=>by
 refine⟨by simp[Region.wanted],?_⟩;obtain⟨us,e1,hu⟩:=ha.ev hx;unfold Oper.wp;rw[show(execOp a.eval { dst:=some d,op:=.box e x,type:=ty,pos:=pos,after:=af,guard:=none }).run P w = .ok (.value (.pointer (some ⟨w.heap.size,0,none⟩))) (w.alloc (.cells us.toArray e)) from by simp[execOp,e1,Instr.box,newVar,newRow,newObj,Sem.run,Value.cells]];exact hK _ _ (hw.alloc _ (e:=.blk w.heap.size cs e) ⟨us,by simpa using heap_alloc_new w _,hu⟩ rfl)
section
variable {P : Program} {n : Nat} {c : Cx} {opsA : Array Oper} {Q : Exit → Act → World → Prop} {l l0 : Fr} {H : List Ent} {sp : List Sa}
theorem L9 {id:Nat}{ops:List Oper}(N:Nat)(ks0:List Nat)(sp:List Sa)(hob:Gh P n c ops.toArray Q ops sp l0 H 0 (ops.take N))(h:∀β,WL P n c ops.toArray Q (ops.drop N) (HA β (ops.take N) sp 0 l0) (H++MI β sp 0))
  (h0:Kp ks0 l l0:=by repeat (first | exact IU | (apply Hi;rfl) | (apply HF;rfl))) (hm:P.follows .mixedOrders=true:=by kernel_rfl) (hB:Rg n ops N (CS l0) (sp.map (·.deps)) (sp.map (·.al.isSome)) (sp.map (·.late.map (·.1))) (sp.map (·.sto))=true:=by kernel_rfl)
  (hsp:sp.length=N:=by rfl):WC P n c (.region id ops.toArray true) Q l H:=PB N sp hm hB h0.one hsp hob h
theorem Kc {all rest:List Oper}{d:Nat}{op:Op}{ty:TypeId}{pos:String}{af:Array Edge}{i:Nat}
  (hr:∀{H},AU P n c (Bj all (Nx sp) (Ds sp i).deps l0) H { dst:=some d,op:=op,type:=ty,pos:=pos,after:=af,guard:=none } (Ds sp i).r) (h:Gh P n c opsA Q all sp l0 H (i+1) rest) (ha:(Ds sp i).al=none:=by rfl) (hs:(Ds sp i).sto=none:=by rfl) :
  Gh P n c opsA Q all sp l0 H i ({ dst:=some d,op:=op,type:=ty,pos:=pos,after:=af,guard:=none }::rest):=by
 refine⟨?_,h⟩;unfold Qz;rw[hs,ha];exact λ_=>EG hr
theorem Q3 {all rest:List Oper}{d:Nat}{op:Op}{ty:TypeId}{pos:String}{af:Array Edge}{i:Nat}
  (hr:∀{E},AU P n c (Bj all (Nx sp) (Ds sp i).deps l0) (H++E) { dst:=some d,op:=op,type:=ty,pos:=pos,after:=af,guard:=none } (Ds sp i).r) (h:Gh P n c opsA Q all sp l0 H (i+1) rest) (ha:(Ds sp i).al=none:=by rfl) (hs:(Ds sp i).sto=none:=by rfl) :
  Gh P n c opsA Q all sp l0 H i ({ dst:=some d,op:=op,type:=ty,pos:=pos,after:=af,guard:=none }::rest):=by
 refine⟨?_,h⟩;unfold Qz;rw[hs,ha];exact λ_=>EG hr
theorem Rz {all rest:List Oper}{o:Oper}{p:List Rp×TypeId}{i:Nat}(hr:Q2 P n c opsA Q (Bj all (Nx sp) (Ds sp i).deps l0) o p)(h:Gh P n c opsA Q all sp l0 H (i+1) rest)(ha:(Ds sp i).al=some p:=by rfl)(hs:(Ds sp i).sto=none:=by rfl):Gh P n c opsA Q all sp l0 H i (o::rest):=by
 refine⟨?_,h⟩;unfold Qz;rw[hs,ha];exact hr
theorem Rs {all:List Oper}{i:Nat}:Gh P n c opsA Q all sp l0 H i []:=trivial
end
structure Ow (ks:List Nat) (β:Nat→Nat) (os:List Oper) (sp:List Sa) (i:Nat) (l0 l1:Fr):Prop where
 go:Kp ks (HA β os sp i l0) l1
section
variable {ks : List Nat} {β : Nat → Nat} {os : List Oper} {sp : List Sa} {i d : Nat} {l0 l1 : Fr} {ds : List Nat} {r : Rp} {p : List Rp × TypeId} {lt : Option (Nat × List Rp)} {so : Option Nat} {op : Op} {ty : TypeId} {pos : String} {af : Array Edge} {g : Option (Nat × Bool)}
theorem QG (h:ks.contains d=true)(t:Ow ks β os sp (i+1) l0 l1):Ow ks β ({ dst:=some d,op:=op,type:=ty,pos:=pos,after:=af,guard:=g }::os) ({ deps:=ds,r:=r,sto:=so }::sp) i l0 ((d,r)::l1):=⟨Hi h t.go⟩
theorem QJ (h:ks.contains d=true)(t:Ow ks β os sp (i+1) l0 l1):Ow ks β ({ dst:=some d,op:=op,type:=ty,pos:=pos,after:=af,guard:=g }::os) ({ deps:=ds,r:=r,al:=some p,late:=lt,sto:=so }::sp) i l0 ((d,rv (.pointer (some ⟨β i,0,none⟩)))::l1):=⟨Hi h t.go⟩
theorem QI {s:Sa}(h:ks.contains d=false)(t:Ow ks β os sp (i+1) l0 l1):Ow ks β ({ dst:=some d,op:=op,type:=ty,pos:=pos,after:=af,guard:=g }::os) (s::sp) i l0 l1:=⟨HF h t.go⟩
theorem QH {s:Sa}(t:Ow ks β os sp (i+1) l0 l1):Ow ks β ({ dst:=none,op:=op,type:=ty,pos:=pos,after:=af,guard:=g }::os) (s::sp) i l0 l1:=⟨t.go⟩
theorem QK (t:Kp ks l0 l1):Ow ks β [] [] i l0 l1:=⟨t⟩
theorem Lc {P:Program}{n:Nat}{c:Cx}{opsA:Array Oper}{Q:Exit→Act→World→Prop}{rest:List Oper}{H H1:List Ent}(ks:List Nat)(h:WL P n c opsA Q rest l1 H1)
  (hz:Ow ks β os sp i l0 l1:=by repeat (first | (apply QG;rfl) | (apply QJ;rfl) | (apply QI;rfl) | apply QH | apply QK | exact IU | (apply Hi;rfl) | (apply HF;rfl))) (hH:H=H1:=by rfl) :
  WL P n c opsA Q rest (HA β os sp i l0) H:=λa w Z ha hw=>h a w Z (ha.subL hz.go.one) (hH▸hw)
end
section
variable {P : Program} {n : Nat} {c : Cx} {opsA : Array Oper} {Q : Exit → Act → World → Prop} {l l0 : Fr} {H : List Ent} {sp : List Sa}
theorem Rh {all rest:List Oper}{o:Oper}{i:Nat}(hr:∀{E},Co P n c opsA Q (Bj all (Nx sp) (Ds sp i).deps l0) (H++E) o (Ds sp i).r (H++E))(h:Gh P n c opsA Q all sp l0 H (i+1) rest)(ha:(Ds sp i).al=none:=by rfl)(hs:(Ds sp i).sto=none:=by rfl):Gh P n c opsA Q all sp l0 H i (o::rest):=by
 refine⟨?_,h⟩;unfold Qz;rw[hs,ha];exact λ_=>hr
end
def Rr (p:Bool→Prop):Rp:=⟨λ_ v=>∃b,v = .bool b∧p b,λ_ h=>h,true,λ_ Z v ⟨b,e,_⟩=>by rw[e];rfl⟩
section
variable {P : Program} {n : Nat} {c : Cx} {ops : Array Oper} {Q : Exit → Act → World → Prop} {rest : List Oper} {l : Fr} {H : List Ent} {d : Option Nat} {ty rty t e : TypeId} {pos : String} {af : Array Edge} {g : Option (Nat × Bool)} {r : Rp} {x : Operand} {cx cy : Code} {sz : Nat} {xs : List (List Rp)}
theorem Nl {o:Operand}{p:Bool→Prop}(ho:ev l o=some (Rr p))(h1:p true→WC P n c cx Q l H)(h2:p false→WC P n c cy Q l H):WC P n c (.cond o cx cy) Q l H:=λa w Z ha hw=>by
 obtain⟨b,e,hp⟩:=ha.ev ho;exact wp_cond_split e (λe=>h1 (e▸hp) a w Z ha hw) (λe=>h2 (e▸hp) a w Z ha hw)
theorem M5 (ht:P.underlying t=some (.slice e))(h:ev l x=some (Cb sz xs)):AU P n c l H { dst:=d,op:=.binOp .eql t x (.const (.slice none 0 0)) rty,type:=ty,pos:=pos,after:=af,guard:=g } (Rr (λb=>b=true→xs=[])):=λa w Z ha hw=>by
 obtain⟨A,cap,e1,h1,h2,h3,h4⟩:=ha.ev h;refine⟨.bool A.isNone,⟨_,rfl,λhb=>?_⟩,?_⟩
 ·cases A with
  | some a=>cases hb
  | none=>
   have:=h3 rfl;exact List.length_eq_zero_iff.1 (by omega)
 ·have:=run_equal_slice_nil (P:=P) w t e A xs.length cap ht;have e2:a.eval (.const (.slice none 0 0)) = .slice none 0 0:=rfl;simp[execOp,e1,e2,binOp,this,eqGuard]
end
section
variable {P : Program} {n : Nat} {c : Cx} {l : Fr} {H : List Ent} {d : Option Nat} {ty rty t e : TypeId} {pos : String} {af : Array Edge} {g : Option (Nat × Bool)} {x : Operand} {sz : Nat}
end
theorem CC (s:ByteArray):MapKept.IsKey .string (.string s):=by simp[MapKept.IsKey]
theorem EU.keys {Z:Fz}:∀{f:List (List UInt8×Rp)} {es:List MapEntry},EU Z f es→∀x∈es,MapKept.IsKey .string x.key
 | [],[],_,x,hx=>by cases hx
 | p::f,e::es,⟨⟨h1,h2⟩,h3⟩,x,hx=>by
  rcases List.mem_cons.1 hx with rfl | hx
  ·rw[h1];exact CC _
  ·exact EU.keys h3 x hx
theorem EU.at {Z:Fz}:∀{f:List (List UInt8×Rp)} {es:List MapEntry},EU Z f es→f.length=es.length∧∀(j:Nat) (e:MapEntry),es[j]? =some e→∃k r,f[j]? =some (k,r)∧e.key = .string (B k)∧r.p Z e.val
 | [],[],_=>⟨rfl,λj e h=>by simp at h⟩
 | p::f,e::es,⟨⟨h1,h2⟩,h3⟩=>by
  obtain⟨hl,ha⟩:=EU.at h3;refine⟨by simp[hl],λj e' hj=>?_⟩
  cases j with
  | zero=>simp at hj;subst hj;exact⟨p.1,p.2,rfl,h1,h2⟩
  | succ j=>simp at hj;simpa using ha j e' hj
theorem EU.of {Z:Fz}:∀{f:List (List UInt8×Rp)} {es:List MapEntry},f.length=es.length→(∀(j:Nat) (e:MapEntry),es[j]? =some e→∃k r,f[j]? =some (k,r)∧e.key = .string (B k)∧r.p Z e.val)→EU Z f es
 | [],[],_,_=>trivial
 | p::f,e::es,hl,h=>by
  obtain⟨k,r,h1,h2,h3⟩:=h 0 e rfl;simp at h1;subst h1;exact⟨⟨h2,h3⟩,EU.of (by simpa using hl) λj e' hj=>by simpa using h (j+1) e' (by simpa using hj)⟩
 | [],_::_,hl,_=>by simp at hl
 | _::_,[],hl,_=>by simp at hl
theorem EU.snoc {Z:Fz}{k:List UInt8}{r:Rp}{e:MapEntry}(h1:e.key = .string (B k))(h2:r.p Z e.val):∀{f:List (List UInt8×Rp)} {es:List MapEntry},EU Z f es→EU Z (f++[(k,r)]) (es++[e])
 | [],[],_=>⟨⟨h1,h2⟩,trivial⟩
 | p::f,e'::es,⟨h,h3⟩=>⟨h,EU.snoc h1 h2 h3⟩
theorem EU.filter {Z:Fz}(q:MapEntry→Bool):∀{f:List (List UInt8×Rp)} {es:List MapEntry},EU Z f es→∃g,EU Z g (es.filter q)∧g.Sublist f
 | [],[],_=>⟨[],trivial,List.Sublist.refl _⟩
 | p::f,e::es,⟨h,h3⟩=>by
  obtain⟨g,hg,hs⟩:=EU.filter q h3
  cases hq:q e with
  | true=>exact⟨p::g,by rw[List.filter_cons_of_pos hq];exact⟨h,hg⟩,hs.cons_cons p⟩
  | false=>exact⟨g,by rw[List.filter_cons_of_neg (by simp[hq])];exact hg,hs.cons p⟩
theorem KE {T:Type}:∀{m:List (AI×T)} {k:AI} {r:T},(m.map (·.1)).Nodup→(k,r)∈m→Dy m k=some r
 | p::m,k,r,hn,h=>by
  rw[Sn,List.nodup_cons] at hn;rw[Dy];rcases List.mem_cons.1 h with h | h
  ·subst h;rw[Sh rfl];rfl
  ·have hne : ¬ p.1=k:=λe=>hn.1 (by rw[e];exact List.mem_map.2 ⟨(k,r),h,rfl⟩);rw[RY hne];exact KE hn.2 h
theorem Jl {T:Type}:∀{m:List (AI×T)} {k:AI},(∀p∈m,p.1≠k)→Dy m k=none
 | [],_,_=>rfl
 | p::m,k,h=>by
  rw[Dy,RY (h p (by simp))];exact Jl λq hq=>h q (by simp[hq])
theorem QP {a b:List UInt8}(h:B a=B b):a=b:=by
 have:=congrArg ByteArray.toList h
 rwa [CW,CW] at this
theorem It {a b:List UInt8}(h:Value.string (B a) = .string (B b)):a=b:=QP (by cases h;rfl)
theorem JS {Z:Fz}{m:List (List UInt8×Rp)}{es:List MapEntry}{ck:Nat}(h:CY Z m es ck)(k:List UInt8) :
  (Instr.findNow .string (.string (B k)) es 0=some none∧Dy m k=none∧∀p∈m,p.1≠k)∨∃j e r,Instr.findNow .string (.string (B k)) es 0=some (some (j,e.val))∧es[j]? =some e∧e.key = .string (B k)∧Dy m k=some r∧r.p Z e.val:=by
 obtain⟨h1,h2,h3,f,h4,h5⟩:=h;obtain⟨hl,ha⟩:=h5.at;rcases MapKept.findNow_spec (CC (B k)) es 0 h5.keys with⟨q1,q2⟩ | ⟨j,e,q1,q2,q3⟩
 ·have hne:∀p∈m,p.1≠k:=λp hp e=>by
   obtain⟨j,hj⟩:=List.mem_iff_getElem?.1 (h4.symm.subset hp);have hjl:j<es.length:=by rw[← hl];exact(List.getElem?_eq_some_iff.1 hj).1
   obtain⟨k',r',e1,e2,_⟩:=ha j es[j] (R9 hjl);rw[hj] at e1;cases e1;exact q2 es[j] (List.getElem_mem hjl) (by rw[e2,← e])
  exact .inl ⟨q1,Jl hne,hne⟩
 ·obtain⟨k',r,e1,e2,e3⟩:=ha j e q2;rw[q3] at e2;obtain rfl:=It e2;exact .inr ⟨j,e,r,by simpa using q1,q2,q3,KE h1 (h4.subset (RB e1)),e3⟩
section
variable {P : Program} {n : Nat} {c : Cx} {ops : Array Oper} {Q : Exit → Act → World → Prop} {rest : List Oper} {l : Fr} {H : List Ent} {d : Nat} {d' : Option Nat} {ty t kt et rty : TypeId} {pos : String} {af : Array Edge} {g : Option (Nat × Bool)} {x y u : Operand} {K : Act → World → Prop} {cx : Code}
variable {T : Type} {enc : T → Rp} {xs : List (AI × T)} {z : T} {k : AI} {zv : Value} {i b : Nat}
theorem IP {Z:Fz}{w:World}{m:List (List UInt8×Rp)}{rz:Rp}(ht:P.underlying t=some (.map kt et))(hk:P.underlying kt=some .string)(hz:∀w,(zeroValue et).run P w = .ok zv w)(hzr:rz.p Z zv)(hm:(Ent.map b m).holds Z w)(ok:Bool) :
  ∃v,((Dy m k).getD rz).p Z v∧(Instr.lookup t (.map (some b)) (.string (B k)) ok).run P w = .ok (if ok then .tuple #[v,.bool (Dy m k).isSome] else v) w:=by
 obtain⟨es,ck,h1,h2⟩:=hm;rcases JS h2 k with⟨q1,q2,_⟩ | ⟨j,e,r,q1,_,_,q2,q3⟩
 ·exact⟨zv,by rw[q2];exact hzr,by simp[Instr.lookup,run_underlying ht,MapKept.run_getObj_map h1,MapKept.run_checkKey hk (CC _),MapKept.run_findKey hk q1,hz,q2]⟩
 ·exact⟨e.val,by rw[q2];exact q3,by simp[Instr.lookup,run_underlying ht,MapKept.run_getObj_map h1,MapKept.run_checkKey hk (CC _),MapKept.run_findKey hk q1,q2]⟩
theorem NV (enc:T→Rp)(xs:List (AI×T))(k:AI)(z:T):(Dy (A9 enc xs) k).getD (enc z)=enc (BR xs k z):=by
 rw[G7];unfold BR;cases Dy xs k<;>rfl
theorem Ly (enc:T→Rp)(xs:List (AI×T))(k:AI):(Dy (A9 enc xs) k).isSome=CQ xs k:=by
 rw[G7];unfold CQ;cases Dy xs k<;>rfl
theorem LM (ht:P.underlying t=some (.map kt et))(hk:P.underlying kt=some .string)(hz:∀w,(zeroValue et).run P w = .ok zv w)(hzr:∀Z,(enc z).p Z zv)(hx:ev l x=some (rv (.map (some b))))(hi:H[i]? =some (.map b (A9 enc xs)))(hy:ev l y=some (rS k)) :
  AU P n c l H { dst:=d',op:=.lookup t x y true,type:=ty,pos:=pos,after:=af,guard:=g } (C0 [enc (BR xs k z),rB (CQ xs k)]):=λa w Z ha hw=>by
 obtain⟨v,h1,h2⟩:=IP (k:=k) ht hk hz (hzr Z) (hw.ent hi) true;rw[NV] at h1;refine⟨.tuple #[v,.bool (CQ xs k)],⟨[v,.bool (CQ xs k)],rfl,h1,rfl,trivial⟩,?_⟩;rw[Ly] at h2;simp[execOp,ha.eval hx,ha.eval hy,h2]
theorem CY.length {Z:Fz}{m:List (List UInt8×Rp)}{es:List MapEntry}{ck:Nat}(h:CY Z m es ck):es.length=m.length:=by
 obtain⟨_,_,_,f,h4,h5⟩:=h;rw[← h5.at.1,h4.length_eq]
theorem NJ {m:List (List UInt8×Rp)}{N:Nat}(ht:P.underlying t=some (.map kt et))(hx:ev l x=some (rv (.map (some b))))(hi:H[i]? =some (.map b m))(hN:m.length=N) :
  AU P n c l H { dst:=d',op:=.call { callee:=.builtin .len,args:=#[x],argTypes:=#[t] },type:=ty,pos:=pos,after:=af,guard:=g } (rI .i64 N):=λa w Z ha hw=>Cr<|by
 obtain⟨es,ck,h1,h2⟩:=hw.ent hi;have hl:es.size=N:=by rw[← hN,← h2.length];simp
 simp[execOp,resolve,invoke,builtin,ha.eval hx,Builtin.len_,run_underlying ht,goInt,MapKept.run_getObj_map h1,hl]
theorem Ji {v:Option Nat}(ht:P.underlying t=some (.map kt et))(hx:ev l x=some (rv (.map v))):AU P n c l H { dst:=d',op:=.binOp .neq t x (.const (.map none)) rty,type:=ty,pos:=pos,after:=af,guard:=g } (rB (!v.isNone)):=λa w Z ha hw=>Cr<|by
 have e2:a.eval (.const (.map none)) = .map none:=rfl;have h:=run_equal_map_nil (P:=P) w t kt et v ht;simp[execOp,ha.eval hx,e2,eqGuard,binOp,h]
theorem N9 {m f:List (AI×Rp)}(h:f.Perm m)(k:AI)(r:Rp):(Hh f k r).Perm (Hh m k r):=h.map _
theorem LO {T:Type}:∀{f:List (AI×T)} {j:Nat} {k:AI} {r0:T} (r:T),(f.map (·.1)).Nodup→f[j]? =some (k,r0)→Hh f k r=f.set j (k,r)
 | p::f,0,k,r0,r,hn,h=>by
  simp at h;subst h;rw[Sn,List.nodup_cons] at hn;have:Hh f k r=f:=by
   unfold Hh;rw[List.map_congr_left (g:=id) (λq hq=>?_),List.map_id];have hne : ¬ q.1=k:=λe=>hn.1 (by rw[← e];exact List.mem_map.2 ⟨q,hq,rfl⟩);rw[RY hne];rfl
  show(bif decide (k=k) then(k,r) else(k,r0))::Hh f k r=_;rw[Sh rfl,this];rfl
 | p::f,j+1,k,r0,r,hn,h=>by
  rw[Sn,List.nodup_cons] at hn;simp at h;have hne : ¬ p.1=k:=λe=>hn.1 (by rw[e];exact List.mem_map.2 ⟨(k,r0),RB h,rfl⟩);show(bif decide (p.1=k) then(k,r) else p)::Hh f k r=_;rw[RY hne,LO r hn.2 h];rfl
theorem LP {T:Type}:∀{f:List (AI×T)} {j:Nat} {k:AI} {r0:T},(f.map (·.1)).Nodup→f[j]? =some (k,r0)→Ec f k=f.eraseIdx j
 | p::f,0,k,r0,hn,h=>by
  simp at h;subst h;rw[Sn,List.nodup_cons] at hn;have:f.filter (λq=>!decide (q.1=k))=f:=List.filter_eq_self.2 λq hq=>by
   have hne : ¬ q.1=k:=λe=>hn.1 (by rw[← e];exact List.mem_map.2 ⟨q,hq,rfl⟩);simp[hne]
  unfold Ec;rw[List.filter_cons_of_neg (by simp),this];rfl
 | p::f,j+1,k,r0,hn,h=>by
  rw[Sn,List.nodup_cons] at hn;simp at h;have hne : ¬ p.1=k:=λe=>hn.1 (by rw[e];exact List.mem_map.2 ⟨(k,r0),RB h,rfl⟩);unfold Ec;rw[List.filter_cons_of_pos (by simp[hne])];show p::Ec f k=_;rw[LP hn.2 h];rfl
theorem MA {T:Type}(m:List (AI×T))(k:AI)(r:T):(Hh m k r).map (·.1)=m.map (·.1):=by
 unfold Hh;rw[List.map_map];refine List.map_congr_left λp _=>?_;simp only[Function.comp]
 by_cases h:p.1=k
 ·rw[Sh h];exact h.symm
 ·rw[RY h];rfl
theorem MC {T:Type}{m:List (AI×T)}{k:AI}{r:T}(h:Dy m k=some r):CQ m k=true:=by unfold CQ;rw[h];rfl
theorem MD {T:Type}{m:List (AI×T)}{k:AI}(h:Dy m k=none):CQ m k=false:=by unfold CQ;rw[h];rfl
theorem CY.put {Z:Fz}{m:List (AI×Rp)}{es:List MapEntry}{ck j:Nat}{e:MapEntry}{k:AI}{r0 r:Rp}{v:Value}(h:CY Z m es ck)(he:es[j]? =some e)(hk:e.key = .string (B k))(hm:Dy m k=some r0)(hr:r.p Z v) :
  CY Z (Hg m k r) (es.set j { e with key:=.string (B k),val:=v }) ck:=by
 obtain⟨h1,h2,h3,f,h4,h5⟩:=h;obtain⟨hl,ha⟩:=h5.at;have hjl:=(List.getElem?_eq_some_iff.1 he).1;unfold Hg;rw[MC hm,RQ];obtain⟨k',r',e1,e2,_⟩:=ha j e he;rw[hk] at e2;obtain rfl:=It e2;have hfn:(f.map (·.1)).Nodup:=(h4.map (·.1)).nodup_iff.2 h1;refine⟨by rw[MA];exact h1,?_,?_,f.set j (k,r),?_,EU.of (by simp[hl]) λi x hx=>?_⟩
 ·rw[List.map_set];have:(es.map (·.born)).set j e.born=es.map (·.born):=by
   apply List.ext_getElem?;intro i;rw[List.getElem?_set]
   split
   ·rename_i hij;subst hij
    simp[hjl,List.getElem?_eq_some_iff.1 he |>.2]
   ·rfl
  show((es.map (·.born)).set j e.born).Nodup;rw[this];exact h2
 ·intro x hx;rcases List.mem_or_eq_of_mem_set hx with hx | rfl
  ·exact h3 x hx
  ·exact h3 e (RB he)
 ·have:=N9 h4 k r
  rwa [LO r hfn e1] at this
 ·rw[List.getElem?_set] at hx ⊢
  split at hx
  ·rename_i hij;subst hij
   cases hx
   exact⟨k,r,by rw[if_pos rfl,if_pos (by rw[hl];exact hjl)],rfl,hr⟩
  ·rename_i hij
   rw[Sd hij];exact ha i x hx
theorem CY.ins {Z:Fz}{m:List (AI×Rp)}{es:List MapEntry}{ck:Nat}{k:AI}{r:Rp}{v:Value}(h:CY Z m es ck)(hm:Dy m k=none)(hk:∀p∈m,p.1≠k)(hr:r.p Z v) :
  CY Z (Hg m k r) (es++[{ key:=.string (B k),val:=v,born:=ck }]) (ck+1):=by
 obtain⟨h1,h2,h3,f,h4,h5⟩:=h;unfold Hg;rw[MD hm,RH];have hp:=Jk k r m;refine⟨?_,?_,?_,f++[(k,r)],?_,EU.snoc rfl hr h5⟩
 ·rw[(hp.map (·.1)).nodup_iff,Sn,List.nodup_cons];exact⟨λhx=>by obtain⟨p,hp,e⟩:=List.mem_map.1 hx;exact hk p hp e,h1⟩
 ·rw[List.map_append,List.nodup_append];refine⟨h2,by simp,λa ha b hb e=>?_⟩;simp at hb;subst hb;obtain⟨x,hx,e'⟩:=List.mem_map.1 ha;have:=h3 x hx;omega
 ·intro x hx;rcases List.mem_append.1 hx with hx | hx
  ·have:=h3 x hx;omega
  ·simp at hx;subst hx;exact Sg _
 ·exact(List.perm_append_comm (l₁:=f) (l₂:=[(k,r)])).trans ((h4.cons (k,r)).trans hp.symm)
theorem CY.del {Z:Fz}{m:List (AI×Rp)}{es:List MapEntry}{ck j:Nat}{e:MapEntry}{k:AI}(h:CY Z m es ck)(he:es[j]? =some e)(hk:e.key = .string (B k)):CY Z (Ec m k) (es.eraseIdx j) ck:=by
 obtain⟨h1,h2,h3,f,h4,h5⟩:=h;obtain⟨hl,ha⟩:=h5.at;obtain⟨k',r',e1,e2,_⟩:=ha j e he;rw[hk] at e2;obtain rfl:=It e2;have hfn:(f.map (·.1)).Nodup:=(h4.map (·.1)).nodup_iff.2 h1;have hs:=List.eraseIdx_sublist es j;refine⟨h1.sublist ((List.filter_sublist ..).map _),h2.sublist (hs.map _),λx hx=>h3 x (hs.subset hx),f.eraseIdx j,?_,EU.of (by rw[List.length_eraseIdx,List.length_eraseIdx,hl]) λi x hx=>?_⟩
 ·rw[← LP hfn e1];exact h4.filter _
 ·rw[List.getElem?_eraseIdx] at hx ⊢
  split at hx
  ·rename_i hij;rw[if_pos hij];exact ha i x hx
  ·rename_i hij;rw[Sd hij];exact ha (i+1) x hx
theorem ME {m:List (AI×Rp)}{k:AI}(hk:∀p∈m,p.1≠k):Ec m k=m:=List.filter_eq_self.2 λp hp=>by simp[hk p hp]
theorem St.mapset {Z:Fz}{w:World}(h:St c H Z w){m m':List (AI×Rp)}(hi:H[i]? =some (.map b m)){es es':Array MapEntry}{ck ck':Nat}(h1:w.heap[b]? =some (.map es ck))(h2:CY Z m' es'.toList ck') :
  St c (H.set i (.map b m')) Z { w with heap:=w.heap.setIfInBounds b (.map es' ck') }:=by
 obtain⟨q1,q2⟩:=MapKept.heap_set (o':=.map es' ck') h1;exact h.set hi rfl rfl rfl (by simp) (λk _ hk=>q2 k (by simpa[Ent.foot] using hk)) ⟨es',ck',q1,h2⟩ (by simp[Ent.foot])
theorem JG (s:ByteArray):Instr.sameBits 10000 (.string s) (.string s)=true:=by
 show(s ==s)=true;exact(MapKept.bytes_beq s s).2 rfl |> λh=>by simpa using h
theorem PC {r:Rp}{m:List (AI×Rp)}(ht:P.underlying t=some (.map kt et))(hk:P.underlying kt=some .string)(hx:ev l x=some (rv (.map (some b))))(hi:H[i]? =some (.map b m))(hy:ev l y=some (rS k))(hu:ev l u=some r){H':List Ent}(hH:H.set i (.map b (Hg m k r))=H')(h:WL P n c ops Q rest l H') :
  WL P n c ops Q ({ dst:=none,op:=.mapUpdate t x y u,type:=ty,pos:=pos,after:=af,guard:=none }::rest) l H:=
 J4 λa w Z ha hw=>by
  obtain⟨es,ck,h1,h2⟩:=hw.ent hi;have hv:=ha.ev hu;subst hH;rcases JS h2 k with⟨q1,q2,q3⟩ | ⟨j,e,r0,q1,q2,q3,q4,_⟩
  ·refine⟨_,_,?_,hw.mapset hi h1 (es':=es.push { key:=.string (B k),val:=a.eval u,born:=ck }) (by simpa using h2.ins q2 q3 hv),h⟩;simp[execOp,ha.eval hx,ha.eval hy,Instr.mapUpdate,run_underlying ht,MapKept.run_getObj_map h1,MapKept.run_checkKey hk (CC _),MapKept.run_findKey hk q1,MapKept.run_setObj_map _ h1]
  ·have hje:es[j]? =some e:=by simpa using q2
   refine⟨_,_,?_,hw.mapset hi h1 (es':=es.modify j λe=>{ e with key:=.string (B k),val:=a.eval u }) (ck':=ck) (by
    have:=h2.put q2 q3 q4 hv;have e1:(es.modify j λe=>{ e with key:=.string (B k),val:=a.eval u }).toList=es.toList.set j { e with key:=.string (B k),val:=a.eval u }:=by
     rw[Array.toList_modify];rw[List.modify_eq_set,q2];rfl
    rw[e1];exact this),h⟩
   have hkey:((es[j]?).map (·.key)).getD (.string (B k)) = .string (B k):=by rw[hje];exact q3
   simp[execOp,ha.eval hx,ha.eval hy,Instr.mapUpdate,run_underlying ht,MapKept.run_getObj_map h1,MapKept.run_checkKey hk (CC _),MapKept.run_findKey hk q1,MapKept.run_setObj_map _ h1,hkey,Instr.keyThatStays,JG]
theorem Q6 {op:Op}{ty:TypeId}{pos:String}{af:Array Edge}
  (hr:∀a w Z,BG n l a Z→St c H Z w→∃v w' H',(execOp a.eval { dst:=none,op:=op,type:=ty,pos:=pos,after:=af,guard:=none }).run P w = .ok (.value v) w'∧St c H' Z w'∧WL P n c ops Q rest l H') :
  WL P n c ops Q ({ dst:=none,op:=op,type:=ty,pos:=pos,after:=af,guard:=none }::rest) l H:=λa w Z ha hw=>
 wpList_plain rfl λK hK=>by
  obtain⟨v,w',H',h1,h2,h3⟩:=hr a w Z ha hw;unfold Oper.wp;rw[h1];exact hK _ _ (h3 _ w' Z (ha.put_none _) h2)
theorem PD {m:List (AI×Rp)}(ht:P.underlying t=some (.map kt et))(hk:P.underlying kt=some .string){kt':TypeId}(hx:ev l x=some (rv (.map (some b))))(hi:H[i]? =some (.map b m))(hy:ev l y=some (rS k)){H':List Ent}(hH:H.set i (.map b (Ec m k))=H')(h:WL P n c ops Q rest l H') :
  WL P n c ops Q ({ dst:=none,op:=.call { callee:=.builtin .delete,args:=#[x,y],argTypes:=#[t,kt'] },type:=ty,pos:=pos,after:=af,guard:=none }::rest) l H:=
 Q6 (λa w Z ha hw=>by
  obtain⟨es,ck,h1,h2⟩:=hw.ent hi;subst hH;rcases JS h2 k with⟨q1,q2,q3⟩ | ⟨j,e,r0,q1,q2,q3,q4,_⟩
  ·refine⟨.tuple #[],_,_,?_,hw.mapset hi h1 (es':=es) (ck':=ck) (by rw[ME q3];exact h2),h⟩;simp[execOp,resolve,invoke,builtin,ha.eval hx,ha.eval hy,Builtin.delete_,run_underlying ht,MapKept.run_getObj_map h1,MapKept.run_checkKey hk (CC _),MapKept.run_findKey hk q1,MapKept.run_setObj_map _ h1]
  ·refine⟨.tuple #[],_,_,?_,hw.mapset hi h1 (es':=es.eraseIdxIfInBounds j) (ck':=ck) (by
    have e1:(es.eraseIdxIfInBounds j).toList=es.toList.eraseIdx j:=by simp
    rw[e1];exact h2.del q2 q3),h⟩
   simp[execOp,resolve,invoke,builtin,ha.eval hx,ha.eval hy,Builtin.delete_,run_underlying ht,MapKept.run_getObj_map h1,MapKept.run_checkKey hk (CC _),MapKept.run_findKey hk q1,MapKept.run_setObj_map _ h1])
theorem OB {v:T}(ht:P.underlying t=some (.map kt et))(hk:P.underlying kt=some .string)(hx:ev l x=some (rv (.map (some b))))(hi:H[i]? =some (.map b (A9 enc xs)))(hy:ev l y=some (rS k))(hu:ev l u=some (enc v)){H':List Ent}(hH:H.set i (.map b (A9 enc (Hg xs k v)))=H')(h:WL P n c ops Q rest l H') :
  WL P n c ops Q ({ dst:=none,op:=.mapUpdate t x y u,type:=ty,pos:=pos,after:=af,guard:=none }::rest) l H:=PC ht hk hx hi hy hu (by rw[← NN];exact hH) h
theorem LA (ht:P.underlying t=some (.map kt et))(hk:P.underlying kt=some .string){kt':TypeId}(hx:ev l x=some (rv (.map (some b))))(hi:H[i]? =some (.map b (A9 enc xs)))(hy:ev l y=some (rS k)){H':List Ent}(hH:H.set i (.map b (A9 enc (Ec xs k)))=H')(h:WL P n c ops Q rest l H') :
  WL P n c ops Q ({ dst:=none,op:=.call { callee:=.builtin .delete,args:=#[x,y],argTypes:=#[t,kt'] },type:=ty,pos:=pos,after:=af,guard:=none }::rest) l H:=PD ht hk hx hi hy (by rw[← NP];exact hH) h
end
theorem GH {q:MapEntry→Bool}:∀{l:List MapEntry} {j:Nat} {e:MapEntry},(l.map (·.born)).Nodup→l[j]? =some e→l.filter (λx=>!(x.born ==e.born))=l.eraseIdx j
 | x::l,0,e,hn,h=>by
  simp at h;subst h;rw[Sn,List.nodup_cons] at hn;rw[List.filter_cons_of_neg (by simp),List.filter_eq_self.2 λy hy=>?_];rfl;have:y.born≠x.born:=λe=>hn.1 (by rw[← e];exact List.mem_map.2 ⟨y,hy,rfl⟩);simp[this]
 | x::l,j+1,e,hn,h=>by
  rw[Sn,List.nodup_cons] at hn;simp at h;have hne:x.born≠e.born:=λe'=>hn.1 (by rw[e'];exact List.mem_map.2 ⟨e,RB h,rfl⟩);rw[List.filter_cons_of_pos (by simp[hne]),GH (q:=q) hn.2 h];rfl
theorem EU.erase {Z:Fz}:∀{f:List (List UInt8×Rp)} {es:List MapEntry} (j:Nat),EU Z f es→EU Z (f.eraseIdx j) (es.eraseIdx j)
 | [],[],j,_=>by simp[EU]
 | p::f,e::es,0,⟨_,h⟩=>h
 | p::f,e::es,j+1,⟨h,h3⟩=>⟨h,EU.erase j h3⟩
theorem LJ {α:Type}:∀{l:List α} {j:Nat} {a:α},l[j]? =some a→l.Perm (a::l.eraseIdx j)
 | x::l,0,a,h=>by simp at h;subst h;exact R7 _
 | x::l,j+1,a,h=>by
  simp at h;exact((LJ h).cons x).trans (List.Perm.swap a x _)
theorem NA {T:Type}{enc:T→Rp}{ys:List (AI×T)}{f:List (AI×Rp)}{j:Nat}{k:AI}{r:Rp}(h:f.Perm (A9 enc ys))(hj:f[j]? =some (k,r)):∃ (p:AI×T) (ys':List (AI×T)),ys.Perm (p::ys')∧p.1=k∧enc p.2=r∧(f.eraseIdx j).Perm (A9 enc ys'):=by
 have hm:(k,r)∈A9 enc ys:=h.subset (RB hj);obtain⟨p,hp,e⟩:=List.mem_map.1 hm;simp only[Prod.mk.injEq] at e;obtain⟨a,b,rfl⟩:=List.append_of_mem hp;refine⟨p,a++b,List.perm_middle,e.1,e.2,?_⟩;have h1:f.Perm ((k,r)::f.eraseIdx j):=by
  exact LJ hj
 have h2:(A9 enc (a++p::b)).Perm ((k,r)::A9 enc (a++b)):=by
  have:(A9 enc (a++p::b)).Perm (A9 enc (p::(a++b))):=List.perm_middle.map _;refine this.trans ?_;show((p.1,enc p.2)::A9 enc (a++b)).Perm _;rw[e.1,e.2]
 exact((h1.symm.trans h).trans h2).cons_inv
section
variable {P : Program} {n : Nat} {c : Cx} {ops : Array Oper} {Q : Exit → Act → World → Prop} {rest : List Oper} {l : Fr} {H : List Ent} {d : Nat} {ty t kt et rty : TypeId} {pos : String} {af : Array Edge} {x y u : Operand} {K : Act → World → Prop} {cx : Code}
variable {T : Type} {enc : T → Rp} {xs ys : List (AI × T)} {i b it : Nat} {m lf : List (List UInt8 × Rp)} {cur : Option (List UInt8 × Rp)} {k : AI} {r : Rp}
theorem HM (ht:P.underlying t=some (.map kt et))(hx:ev l x=some (rv (.map (some b))))(hi:H[i]? =some (.map b m))(hn:Nat.blt d n=true)(h:∀it,WL P n c ops Q rest ((d,rv (.pointer (some ⟨it,0,none⟩)))::l) (H.set i (.mit b it m m none))) :
  WL P n c ops Q ({ dst:=some d,op:=.range t x,type:=ty,pos:=pos,after:=af,guard:=none }::rest) l H:=
 EW (λa w Z ha hw=>by
  obtain⟨es,ck,h1,h2⟩:=hw.ent hi;have hb:b<w.heap.size:=(Array.getElem?_eq_some_iff.1 h1).1;have hf:es.toList.filter (λe=>!(#[]:Array Nat).contains e.born)=es.toList:=List.filter_eq_self.2 λ_ _=>by simp
  obtain⟨f,h4,h5⟩:=h2.2.2.2;refine⟨.pointer (some ⟨w.heap.size,0,none⟩),w.alloc (.mapIter (some b) ck #[] ck),_,_,Z,?_,Fz.le.refl _,rfl,hw.set hi rfl rfl rfl (by simp) (λk hk _=>Below.heap_alloc w _ k hk) ?_ ?_,h w.heap.size⟩
  ·simp[execOp,ha.eval hx,run_range_map w t kt et b es ck ht h1]
  ·exact⟨es,ck,#[],ck,ck,(Below.heap_alloc w _ b hb).trans h1,by simpa using heap_alloc_new w _,h2,h2.2.2.1,RE _,RE _,Nat.ne_of_lt hb,⟨f,h4,by rw[hf];exact h5⟩,trivial⟩
  ·intro k hk;simp only[Ent.foot,Sq,List.not_mem_nil,or_false] at hk;rcases hk with rfl | rfl
   ·exact .inl (by simp[Ent.foot])
   ·exact .inr (RE _)) hn
theorem J6 (hx:ev l x=some (rv (.pointer (some ⟨it,0,none⟩))))(hi:H[i]? =some (.mit b it m (A9 enc ys) cur))(hn:Nat.blt d n=true)
  (h0:ys=[]→WL P n c ops Q rest ((d,C0 [rB false])::l) H)
  (h1:∀p ys',ys.Perm (p::ys')→WL P n c ops Q rest ((d,C0 [rB true,rS p.1,enc p.2])::l) (H.set i (.mit b it m (A9 enc ys') (some (p.1,enc p.2))))) :
  WL P n c ops Q ({ dst:=some d,op:=.next x false,type:=ty,pos:=pos,after:=af,guard:=none }::rest) l H:=
 EW (λa w Z ha hw=>by
  obtain⟨es,ck,seen,since,c0,q1,q2,q3,q4,q5,q6,q7,⟨f,q8,q9⟩,_⟩:=hw.ent hi;have hlf:(leftOf es seen).toList=es.toList.filter λe=>!seen.contains e.born:=by simp[leftOf]
  rcases run_next_at (P:=P) w ty it b since c0 seen es ck q2 q1 q4 q5 with⟨r1,r2⟩ | ⟨e,r1,w1,r2,r3⟩
  ·have he:es.toList.filter (λe=>!seen.contains e.born)=[]:=by rw[← hlf];exact RI (by simpa using r1)
   rw[he] at q9;have hf:f=[]:=by cases f with
    | nil=>rfl
    | cons _ _=>exact absurd q9 id
   subst hf;have hy:ys=[]:=by
    have:=q8.length_eq;rw[E2] at this;exact RI this.symm
   exact⟨.tuple #[.bool false],w,C0 [rB false],H,Z,by simp[execOp,ha.eval hx,r2],Fz.le.refl _,⟨[.bool false],rfl,rfl,trivial⟩,hw,h0 hy⟩
  ·rw[hlf] at r1;obtain⟨j,hj⟩:=List.mem_iff_getElem?.1 r1;obtain⟨k,r,e1,e2,e3⟩:=q9.at.2 j e hj;obtain⟨p,ys',s1,s2,s3,s4⟩:=NA q8 e1;have hnl:((es.toList.filter λe=>!seen.contains e.born).map (·.born)).Nodup:=q3.2.1.sublist ((List.filter_sublist ..).map _);have hleft:es.toList.filter (λx=>!(seen.push e.born).contains x.born)=(es.toList.filter λe=>!seen.contains e.born).eraseIdx j:=by
    rw[← GH (q:=λ_=>true) hnl hj,List.filter_filter];refine List.filter_congr λx _=>?_;simp only[Array.contains_push,Bool.not_or];rw[Bool.and_comm]
   have hd:St c H Z w1:=by
    rcases r2 with rfl | rfl
    ·exact hw
    ·exact hw.drawn _
   have q2':w1.heap[it]? =some (.mapIter (some b) since seen c0):=by rcases r2 with rfl | rfl<;>exact q2
   have q1':w1.heap[b]? =some (.map es ck):=by rcases r2 with rfl | rfl<;>exact q1
   obtain⟨t1,t2⟩:=MapKept.heap_set (o':=.mapIter (some b) since (seen.push e.born) ck) q2';refine⟨.tuple #[.bool true,e.key,e.val],ChangeMaps.setBlock w1 it (.mapIter (some b) since (seen.push e.born) ck),C0 [rB true,rS p.1,enc p.2],H.set i (.mit b it m (A9 enc ys') (some (p.1,enc p.2))),Z,by simp[execOp,ha.eval hx,r3],Fz.le.refl _,⟨[.bool true,e.key,e.val],rfl,rfl,?_,?_,trivial⟩,hd.set hi rfl rfl rfl (by simp[ChangeMaps.setBlock]) (λk' _ hk'=>t2 k' (λe'=>hk' (by simp[Ent.foot,e']))) ?_ (λk' hk'=>.inl (by simpa[Ent.foot] using hk')),h1 p ys' s1⟩
   ·show e.key = .string (B p.1);rw[s2];exact e2
   ·rw[s3];exact e3
   ·exact⟨es,ck,seen.push e.born,since,ck,(t2 b q7).trans q1',t1,q3,q4,Nat.le_trans q5 q6,RE _,q7,⟨f.eraseIdx j,s4,by rw[hleft];exact q9.erase j⟩,rfl,seen,e,rfl,(List.mem_filter.1 r1).1,by rw[s2];exact e2,by rw[s3];exact e3⟩) hn
theorem St.unmit {Z:Fz}{w:World}(h:St c H Z w)(hi:H[i]? =some (.mit b it m lf cur)):St c (H.set i (.map b m)) Z w:=by
 obtain⟨es,ck,seen,since,c0,q1,q2,q3,_⟩:=h.ent hi;exact h.set hi rfl rfl rfl (RE _) (λ_ _ _=>rfl) ⟨es,ck,q1,q3⟩ (by simp[Ent.foot])
theorem WK.unmit (hi:H[i]? =some (.mit b it m lf cur))(h:WK n c K l (H.set i (.map b m))):WK n c K l H:=λa w Z ha hw=>h a w Z ha (hw.unmit hi)
theorem WC.unmit (hi:H[i]? =some (.mit b it m lf cur))(h:WC P n c cx Q l (H.set i (.map b m))):WC P n c cx Q l H:=λa w Z ha hw=>h a w Z ha (hw.unmit hi)
theorem WL.unmit (hi:H[i]? =some (.mit b it m lf cur))(h:WL P n c ops Q rest l (H.set i (.map b m))):WL P n c ops Q rest l H:=λa w Z ha hw=>h a w Z ha (hw.unmit hi)
theorem St.uncur {Z:Fz}{w:World}(h:St c H Z w)(hi:H[i]? =some (.mit b it m lf cur)):St c (H.set i (.mit b it m lf none)) Z w:=by
 obtain⟨es,ck,seen,since,c0,q1,q2,q3,q4,q5,q6,q7,q8,_⟩:=h.ent hi;exact h.set hi rfl rfl rfl (RE _) (λ_ _ _=>rfl) ⟨es,ck,seen,since,c0,q1,q2,q3,q4,q5,q6,q7,q8,trivial⟩ (λk hk=>.inl (by simpa[Ent.foot] using hk))
theorem WK.uncur (hi:H[i]? =some (.mit b it m lf cur))(h:WK n c K l (H.set i (.mit b it m lf none))):WK n c K l H:=λa w Z ha hw=>h a w Z ha (hw.uncur hi)
theorem HR {dd:Option Nat}{g:Option (Nat×Bool)}(hx:ev l x=some (rv (.pointer (some ⟨it,0,none⟩))))(hi:H[i]? =some (.mit b it m lf (some (k,r)))) :
  AU P n c l H { dst:=dd,op:=.entry x,type:=ty,pos:=pos,after:=af,guard:=g } (C0 [rS k,r]):=λa w Z ha hw=>by
 obtain⟨es,ck,seen,since,c0,q1,q2,q3,q4,q5,q6,q7,q8,rfl,s0,e,rfl,h1,h2,h3⟩:=hw.ent hi;exact⟨.tuple #[e.key,e.val],⟨[e.key,e.val],rfl,h2,h3,trivial⟩,by simp[execOp,ha.eval hx,run_entry_at w it b since s0 es c0 e q2 q1 h1 q3.2.1]⟩
end
section
variable {P : Program} {n : Nat} {c : Cx} {opsA : Array Oper} {Q : Exit → Act → World → Prop} {l : Fr} {H : List Ent} {d : Nat} {ty : TypeId} {pos : String} {af : Array Edge}
theorem NE {f:FuncId}{args:List Operand}{ats:Array TypeId}{rs:List Rp}{r:Rp}{Hin Hout Hr:List Ent}(hcall:∀(as1:Array Value) (w:World),(callFunc f as1).run P w = .ok (.enter f as1) w)(hv:HH l args=some rs)
  (hp:H.Perm (Hin++Hr)) (hc:Fn P c.E f rs Hin (λr' H'=>r'=r∧H'=Hout)) {H':List Ent} (hH:Hout++Hr=H'):Co P n c opsA Q l H { dst:=some d,op:=.call { callee:=.value (.func f),args:=args.toArray,argTypes:=ats },type:=ty,pos:=pos,after:=af,guard:=none } r H':=λa w Z K ha hw hK=>
 ⟨λ_=>by
  subst hH;unfold Oper.wp;rw[Dc rfl hcall w];refine(hc w Z _ (DM ha hv) (hw.perm hp).enter).mono ?_;rintro e w' ⟨r2,v,Ho,Z',rfl,⟨rfl,rfl⟩,hr2,hs⟩;exact hK v w' Z' hs.le hr2 ((hw.perm hp).call hs),λh=>by simp[Region.wanted] at h⟩
theorem ND {f:FuncId}{args:List Operand}{ats:Array TypeId}{rs:List Rp}{r:Rp}{Hin Hr:List Ent}(hcall:∀(as1:Array Value) (w:World),(callFunc f as1).run P w = .ok (.enter f as1) w)(hv:HH l args=some rs)
  (hp:H.Perm (Hin++Hr)) (hc:Fn P c.E f rs Hin (λr' H'=>r'=r∧H'=Hin)):Co P n c opsA Q l H { dst:=some d,op:=.call { callee:=.value (.func f),args:=args.toArray,argTypes:=ats },type:=ty,pos:=pos,after:=af,guard:=none } r H:=λa w Z K ha hw hK=>
 NE (Hout:=Hin) hcall hv hp hc rfl a w Z K ha hw (λv w' Z' hz hr hs=>hK v w' Z' hz hr (hs.perm hp.symm))
theorem M4 {f:FuncId}{args:List Operand}{ats:Array TypeId}{rs:List Rp}{r:Rp}{Hin Hr E:List Ent}(hcall:∀(as1:Array Value) (w:World),(callFunc f as1).run P w = .ok (.enter f as1) w)(hv:HH l args=some rs)
  (hp:H.Perm (Hin++Hr)) (hc:Fn P c.E f rs Hin (λr' H'=>r'=r∧H'=Hin)):Co P n c opsA Q l (H++E) { dst:=some d,op:=.call { callee:=.value (.func f),args:=args.toArray,argTypes:=ats },type:=ty,pos:=pos,after:=af,guard:=none } r (H++E):=
 ND (Hin:=Hin) (Hr:=Hr++E) hcall hv (by rw[← List.append_assoc];exact hp.append_right E) hc
end
section
variable {P : Program} {n : Nat} {c : Cx} {ops : Array Oper} {Q : Exit → Act → World → Prop} {rest : List Oper} {l : Fr} {H H' : List Ent} {d : Nat} {d' : Option Nat} {x y z3 : Operand} {ty t t' e : TypeId} {pos : String} {af : Array Edge} {g : Option (Nat × Bool)} {v u : Value} {r : Rp} {sz : Nat}
end
theorem AL.d2 {Z:Fz}{r0 r1:Rp}{us:List Value}(h:AL Z [r0,r1] us):∃y0 y1,us=[y0,y1]∧AL Z [r0,r1] [y0,y1]:=by
 match us,h.length with
 | [y0,y1],_=>exact⟨_,_,rfl,h⟩
theorem AL.d7 {Z:Fz}{r0 r1 r2 r3 r4 r5 r6:Rp}{us:List Value}(h:AL Z [r0,r1,r2,r3,r4,r5,r6] us):∃y0 y1 y2 y3 y4 y5 y6,us=[y0,y1,y2,y3,y4,y5,y6]∧AL Z [r0,r1,r2,r3,r4,r5,r6] [y0,y1,y2,y3,y4,y5,y6]:=by
 match us,h.length with
 | [y0,y1,y2,y3,y4,y5,y6],_=>exact⟨_,_,_,_,_,_,_,rfl,h⟩
theorem KN {α:Type}{sz:Nat}:∀{xs:List (List α)} (hs:∀c∈xs,c.length=sz) {k:Nat} {cl:List α},xs[k]? =some cl→∀(off m:Nat),off+m≤sz→((xs.flatten).drop (k*sz+off)).take m=(cl.drop off).take m
 | [],_,k,cl,h,_,_,_=>by simp at h
 | x::r,hs,0,cl,h,off,m,hm=>by
  simp at h;subst h;have hx:=hs x (by simp);simp only[List.flatten_cons,Nat.zero_mul,RR];rw[List.drop_append_of_le_length (by omega),List.take_append_of_le_length (by simp;omega)]
 | x::r,hs,k+1,cl,h,off,m,hm=>by
  have hx:=hs x (by simp);simp only[List.flatten_cons];have e:(k+1)*sz+off=x.length+(k*sz+off):=by rw[hx,Nat.succ_mul];omega
  rw[e,List.drop_length_add_append];exact KN (λc hc=>hs c (by simp[hc])) (by simpa using h) off m hm
section
variable {P : Program} {n : Nat} {c : Cx} {ops : Array Oper} {Q : Exit → Act → World → Prop} {rest : List Oper} {l : Fr} {H H' : List Ent} {d : Nat} {d' : Option Nat} {ty t e rty : TypeId} {pos : String} {af : Array Edge} {g : Option (Nat × Bool)} {x y u : Operand} {v : Value} {sz m : Nat}
theorem OU {α:Type}[Inhabited α]{ys:List α}{enc:α→List Rp}{i off:Nat}{j:Int}{rs:List Rp}(hag:∀w,(isAgg t).run P w = .ok true w)(hsz:∀w,(sizeOf t).run P w = .ok m w)(hx:ev l x=some (rv (CT sz v j.toNat off)))(hi:H[i]? =some (.row v e sz (ys.map enc)))(hg:CF j (ys.length:Int)=true)
  (hle:Nat.ble (off+m) sz=true) (hr:((enc (Ab ys j)).drop off).take m=rs) :
  AU P n c l H { dst:=d',op:=.load t x,type:=ty,pos:=pos,after:=af,guard:=g } (Bh rs):=λa w Z ha hw=>by
 obtain⟨hs,us,⟨h1,h2⟩,h3⟩:=hw.ent hi;have h0:=(Bt hg).1;have hlt:j.toNat<ys.length:=by have:=(Bt hg).2;omega
 have eat:Ab ys j=ys[j.toNat]:=by simp[Ab,hlt]
 have hle':off+m≤sz:=by simpa using hle
 have hcl:(ys.map enc)[j.toNat]? =some (enc ys[j.toNat]):=by simp[hlt]
 have hcz:(enc ys[j.toNat]).length=sz:=hs _ (RB hcl);have hseg:=KN hs hcl off m hle';rw[← eat,hr] at hseg;have h4:=(h3.drop (j.toNat*sz+off)).take m;rw[hseg] at h4;have hrl:rs.length=m:=by rw[← hr,eat];simp;omega
 rcases h2 with⟨rfl,hz⟩ | ⟨b,cap,cur,rfl,_,hg',hcap,hm,hcs,htk⟩
 ·simp at hz;subst hz;simp at hlt
 ·have h5:=run_loadCells_list (P:=P) w ⟨b,j.toNat*sz+off,none⟩ ((us.drop (j.toNat*sz+off)).take m) (λq w' hq=>by
   rw[EI,cell_of_row w b _ cur e (0,0) hg'];rw[Sc] at hq
   split at hq
   ·rw[List.getElem?_drop,← htk,Sc] at hq
    split at hq
    ·simpa using hq
    ·cases hq
   ·cases hq)
  rw[h4.length,hrl] at h5;exact⟨.agg ((us.drop (j.toNat*sz+off)).take m).toArray,⟨_,rfl,h4⟩,by simp[execOp,ha.eval hx,CT,Instr.loadAt,Instr.sureAddr,loadVar,hag,hsz,h5]⟩
end
end Go.Proofs.YthbbedliepkakaaGreatDoor.Q
namespace Go.Proofs.YthbbedliepkakaaGreatDoor
open Go
end Go.Proofs.YthbbedliepkakaaGreatDoor
namespace Go.Proofs.YthbbedliepkakaaGreatDoor.Q
open Go Go.RowKit
set_option linter.unusedVariables false
set_option linter.unusedSimpArgs false
section
variable {P : Program} {n : Nat} {c : Cx} {Q : Exit → Act → World → Prop} {l : Fr} {H : List Ent} {x rest' : Code} {K : Act → World → Prop}
end
section
variable {P : Program} {n : Nat} {c : Cx} {ops : Array Oper} {Q : Exit → Act → World → Prop} {rest : List Oper} {l : Fr} {H H' : List Ent} {d : Nat} {d' : Option Nat} {x y z3 z4 : Operand} {ty t t' e : TypeId} {pos : String} {af : Array Edge} {g : Option (Nat × Bool)} {v u : Value} {r : Rp} {sz : Nat}
end
structure Sx (U:Type) where
 deps:List Nat
 r:U→Rp
 dyn:Bool:=false
 old:List Nat:=[]
def D2 {U:Type}(sp:List (Sx U))(i:Nat):Sx U:=sp.getD i { deps:=[],r:=λ_=>rv undef }
def MU {U:Type}(sp:List (Sx U))(u:U):List Sp:=sp.map λs=>⟨s.deps,s.r u,0⟩
def Q8 {U:Type}(sp:List (Sx U))(u:U):List Sa:=sp.map λs=>{ deps:=s.deps,r:=s.r u }
def IC {U:Type}:List (Sx U)→Prop
 | []=>True
 | s::r=>(s.dyn=false→∀u u',s.r u=s.r u')∧IC r
theorem IC.at {U:Type}:∀{sp:List (Sx U)},IC sp→∀{i:Nat} {s:Sx U},sp[i]? =some s→s.dyn=false→∀u u',s.r u=s.r u'
 | [],_,i,s,h=>by simp at h
 | x::sp,⟨h1,h2⟩,0,s,h=>by simp at h;subst h;exact h1
 | x::sp,⟨h1,h2⟩,i+1,s,h=>IC.at h2 (by simpa using h)
theorem Rc {U:Type}{ds os:List Nat}{r:Rp}{sp:List (Sx U)}(h:IC sp):IC ({ deps:=ds,r:=λ_=>r,old:=os }::sp):=⟨λ_ _ _=>rfl,h⟩
theorem Rb {U:Type}{ds os:List Nat}{r:U→Rp}{sp:List (Sx U)}(h:IC sp):IC ({ deps:=ds,r:=r,dyn:=true,old:=os }::sp):=⟨λh'=>(by cases h'),h⟩
def Dp (lw:Fr):List Nat→Fr→Fr
 | [],l=>l
 | d::r,l=>match look lw d with
  | some q=>(d,q)::Dp lw r l
  | none=>Dp lw r l
theorem Mb {n:Nat}{lw l:Fr}{a:Act}{Z:Fz}(h0:BG n l a Z):∀{ds:List Nat},(∀d∈ds,∀q,look lw d=some q→∃v,a.tmps[d]? =some v∧q.p Z v)→BG n (Dp lw ds l) a Z
 | [],_=>h0
 | d::ds,h=>by
  have ih:=Mb h0 (ds:=ds) (λd' hd'=>h d' (by simp[hd']));unfold Dp
  cases hd:look lw d with
  | none=>exact ih
  | some q=>
   refine⟨ih.size,ih.defers,λi r hi=>?_⟩;rw[Bz] at hi
   split at hi
   ·rename_i e;subst e;simp at hi;subst hi;exact h d (by simp) q hd
   ·exact ih.tm i r hi
theorem Ra {U:Type}:IC ([]:List (Sx U)):=trivial
def Rf (n:Nat)(ops:List Oper)(N i0:Nat)(keys:List Nat)(deps:List (List Nat))(dyns:List Bool)(olds:List (List Nat)):Bool:=
 JW ops N&&decide (N≤ops.length)&&decide (i0<N)&&
 (List.range N).all (λi=>match B7 ops i with
  | some d=>decide (d<n)&&!keys.contains d&&(List.range N).all (λj=>j ==i||B7 ops j !=some d)
  | none=>true)&&
 (List.range N).all (λi=>(deps.getD i []).all (λj=>decide (j<N)&&(CE (ops.getD i default)).contains j))&&
 (List.range N).all (λi=>!dyns.getD i false||i ==i0||(CE (ops.getD i default)).any (λe=>decide (e<N)&&(e ==i0||dyns.getD e false)))&&
 (List.range N).all (λi=>(olds.getD i []).all (λd=>(List.range N).all (λw=>B7 ops w !=some d||(CE (ops.getD w default)).contains i)))
section
variable (P : Program) (n : Nat) (c : Cx) (opsA : Array Oper) (Q : Exit → Act → World → Prop)
def QT {U:Type}(l:Fr)(H:List Ent)(o:Oper)(r:U→Rp)(H1:U→List Ent):Prop:=
 ∀a w Z (K:Act→World→Prop),BG n l a Z→St c H Z w→(∀u v w' Z',Fz.le Z Z'→(r u).p Z' v→St c (H1 u) Z' w'→K (a.put o.dst v) w')→
  Region.wanted o (yielded opsA a.tmps)=true∧o.wp P a w K Q
def Gg {U:Type}(ops:List Oper)(sp:List (Sx U))(l0 lw:Fr)(i0:Nat)(H:List Ent)(H1:U→List Ent):Nat→List Oper→Prop
 | i,o::rest=>(if i=i0 then(∀u,QT P n c opsA Q (Dp lw (D2 sp i).old (Bj ops (MU sp u) (D2 sp i).deps l0)) H o (D2 sp i).r H1) else ∀u H',(H'=H∨H'=H1 u)→Co P n c opsA Q (Dp lw (D2 sp i).old (Bj ops (MU sp u) (D2 sp i).deps l0)) H' o ((D2 sp i).r u) H')∧Gg ops sp l0 lw i0 H H1 (i+1) rest
 | _,[]=>True
end
section
variable {P : Program} {n : Nat} {c : Cx} {opsA : Array Oper} {Q : Exit → Act → World → Prop} {l l0 lw : Fr} {U : Type} {H : List Ent} {H1 : U → List Ent} {sp : List (Sx U)} {i0 : Nat}
theorem Gg.at {ops:List Oper}:∀{k:Nat} {rest:List Oper},Gg P n c opsA Q ops sp l0 lw i0 H H1 k rest→∀(t:Nat) o,rest[t]? =some o→
  (if k+t=i0 then(∀u,QT P n c opsA Q (Dp lw (D2 sp (k+t)).old (Bj ops (MU sp u) (D2 sp (k+t)).deps l0)) H o (D2 sp (k+t)).r H1) else ∀u H',(H'=H∨H'=H1 u)→Co P n c opsA Q (Dp lw (D2 sp (k+t)).old (Bj ops (MU sp u) (D2 sp (k+t)).deps l0)) H' o ((D2 sp (k+t)).r u) H')
 | k,o::rest,⟨h1,h2⟩,t,o',ht=>by
  cases t with
  | zero=>simp at ht;subst ht;exact h1
  | succ t=>
   have:=Gg.at h2 t o' (by simpa using ht);rw[show k+(t+1)=k+1+t from by omega];exact this
 | _,[],_,t,o,h=>by simp at h
theorem O5 {id:Nat}{ops:List Oper}[Inhabited U](N i0:Nat)(sp:List (Sx U))(hm:P.follows .mixedOrders=true)(hB:Rf n ops N i0 (CS l0) (sp.map (·.deps)) (sp.map (·.dyn)) (sp.map (·.old))=true)(hl0:MO l0 l)(hlw:MO lw l)(hsp:sp.length=N)(hst:IC sp)
  (hob:Gg P n c ops.toArray Q ops sp l0 lw i0 H H1 0 (ops.take N)) (h:∀u,WL P n c ops.toArray Q (ops.drop N) (HA (λ_=>0) (ops.take N) (Q8 sp u) 0 l0) (H1 u)):WC P n c (.region id ops.toArray true) Q l H:=by
 intro a w Z ha hw;simp only[Rf,RC,RS,List.mem_range,R8] at hB;obtain⟨⟨⟨⟨⟨⟨b1,bN⟩,b0⟩,b2⟩,b3⟩,b4⟩,b5⟩:=hB;have hget:∀i,i<N→(ops.take N)[i]? =ops[i]?:=λi hi=>by rw[Sc,if_pos hi]
 have hsa:∀i,i<N→sp[i]? =some (D2 sp i):=λi hi=>by
  simp[D2,RA,R9 (show i<sp.length by omega)]
 have hspq:∀u i,i<N→(Cd (MU sp u) i)=⟨(D2 sp i).deps,(D2 sp i).r u,0⟩:=λu i hi=>by
  simp[Cd,MU,RA,Sb,hsa i hi]
 have hdyn:∀j,j<N→(sp.map (·.dyn)).getD j false=(D2 sp j).dyn:=λj hj=>by simp[RA,Sb,hsa j hj]
 have hdep:∀j,j<N→(sp.map (·.deps)).getD j []=(D2 sp j).deps:=λj hj=>by simp[RA,Sb,hsa j hj]
 have hops:∀j,j<N→∃o,ops[j]? =some o:=λj hj=>⟨ops[j]'(by omega),R9 (by omega)⟩
 have hdst:∀i o d,i<N→ops[i]? =some o→o.dst=some d→(d<n∧d ∉ CS l0)∧∀j,j<N→j≠i→B7 ops j≠some d:=λi o d hi ho hd=>by
  have h3:=b2 i hi;have:B7 ops i=some d:=by simp[B7,ho,hd]
  rw[this] at h3;simp only[RC,Se,RS,List.mem_range,R8] at h3;refine⟨⟨h3.1.1,λhmem=>by rw[← List.contains_iff_mem] at hmem;rw[hmem] at h3;cases h3.1.2⟩,λj hj hne he=>?_⟩;have:=h3.2 j hj;simp[hne,he] at this
 refine Nh (N:=N) hm b1 bN (λS a w=>∃ (u:U) (Z:Fz),St c (if S i0=true then H1 u else H) Z w∧BG n l0 a Z∧(∀j o d,j<N→S j=true→ops[j]? =some o→o.dst=some d→∃v,a.tmps[d]? =some v∧((D2 sp j).r u).p Z v)∧
   (∀j,j<N→(D2 sp j).dyn=true→S j=true→S i0=true)∧
   (∀d q,look lw d=some q→(∀wr,wr<N→B7 ops wr=some d→S wr=false)→∃v,a.tmps[d]? =some v∧q.p Z v)∧
   ∀wr i d,wr<N→i<N→B7 ops wr=some d→d∈(D2 sp i).old→S wr=true→S i=true)
  (λS S' a w hS hI=>?_) ⟨default,Z,?_,ha.subL hl0,λj o d _ hS=>(by cases hS),λj _ _ hS=>(by cases hS),λd q hd _=>(ha.subL hlw).tm d q hd,λwr i d _ _ _ _ hS=>(by cases hS)⟩ (λS i o a w hi hun ho hb hI K hK=>?_) (λa w hI=>?_)
 ·obtain⟨u,Z,h1,h2,h3,h4,h5,h6⟩:=hI;refine⟨u,Z,?_,h2,λj o d hj hS'=>h3 j o d hj (by rw[hS j hj];exact hS'),λj hj hd hSj=>?_,λd q hd hw'=>h5 d q hd (λwr hwr hdw=>by rw[hS wr hwr];exact hw' wr hwr hdw),λwr i d hwr hi hdw hold hSw=>by rw[← hS i hi];exact h6 wr i d hwr hi hdw hold (by rw[hS wr hwr];exact hSw)⟩
  ·rw[← hS i0 b0];exact h1
  ·rw[← hS i0 b0];exact h4 j hj hd (by rw[hS j hj];exact hSj)
 ·exact hw.drawn _
 ·obtain⟨u,Z,h1,h2,h3,hx,ho5,ho6⟩:=hI;have hput:∀k u v,a.tmps[k]? =some u→o.dst≠some k→(a.put o.dst v).tmps[k]? =some u:=λk u v hk hne=>by
   cases hd:o.dst with
   | none=>simpa[Act.put] using hk
   | some d=>
    simp only[Act.put,Array.getElem?_setIfInBounds];rw[Sd (λe=>hne (by rw[hd,e]))];exact hk
  have hagr:∀v Z',Fz.le Z Z'→BG n l0 (a.put o.dst v) Z':=λv Z' hz=>by
   refine⟨?_,?_,λk r hk=>?_⟩
   ·cases o.dst<;>simp[Act.put,h2.size]
   ·cases o.dst<;>simp[Act.put,h2.defers]
   ·obtain⟨u,hu,hpu⟩:=h2.tm k r hk;exact⟨u,hput k u v hu (λe=>((hdst i o k hi ho e).1).2 (G9 hk)),r.mono hz hpu⟩
  have hvals:∀(v:Value) (Z':Fz) (u':U),Fz.le Z Z'→(∀j,j<N→j≠i→S j=true→(D2 sp j).r u'=(D2 sp j).r u)→(o.dst≠none→((D2 sp i).r u').p Z' v)→∀j o' d,j<N→(j ==i||S j)=true→ops[j]? =some o'→o'.dst=some d→∃q,(a.put o.dst v).tmps[d]? =some q∧((D2 sp j).r u').p Z' q:=by
   intro v Z' u' hz hβ hp j o' d hj hS' ho' hd
   by_cases hji:j=i
   ·subst hji;rw[ho] at ho';simp at ho';subst ho';refine⟨v,?_,hp (by simp[hd])⟩;have hdn:d<a.tmps.size:=by rw[h2.size];exact(hdst j o d hi ho hd).1.1
    simp[Act.put,hd,hdn]
   ·have hSj:S j=true:=by simpa[hji] using hS'
    obtain⟨q,hu,hpu⟩:=h3 j o' d hj hSj ho' hd;refine⟨q,hput d q v hu (λe=>(hdst i o d hi ho e).2 j hj hji (by simp[B7,ho',hd])),?_⟩;rw[hβ j hj hji hSj];exact((D2 sp j).r u).mono hz hpu
  have hat:=hob.at i o (by rw[hget i hi];exact ho);rw[RR] at hat;have hold':∀Z',Fz.le Z Z'→∀v d q,look lw d=some q→(∀wr,wr<N→B7 ops wr=some d→(wr ==i||S wr)=false)→∃v',(a.put o.dst v).tmps[d]? =some v'∧q.p Z' v':=λZ' hz v d q hd hw'=>by
   obtain⟨v',e1,e2⟩:=ho5 d q hd (λwr hwr hdw=>by have:=hw' wr hwr hdw;simp only[Si] at this;exact this.2);refine⟨v',hput d v' v e1 (λe=>?_),q.mono hz e2⟩;have:=hw' i hi (by simp[B7,ho,e]);simp at this
  have hord:∀wr k d,wr<N→k<N→B7 ops wr=some d→d∈(D2 sp k).old→(wr ==i||S wr)=true→(k ==i||S k)=true:=λwr k d hwr hk hdw hmem hSw=>by
   by_cases hwi:wr=i
   ·subst hwi;have h7:=b5 k hk d (by simpa[RA,Sb,hsa k hk] using hmem) wr hwr;simp only[Sf,bne_iff_ne,ne_eq,hdw,not_true_eq_false,false_or] at h7;rw[RA,ho,RL,List.contains_iff_mem] at h7;simp[(hb k h7).2]
   ·have:S k=true:=ho6 wr k d hwr hk hdw hmem (by simpa[hwi] using hSw);simp[this]
  have hag':BG n (Dp lw (D2 sp i).old (Bj ops (MU sp u) (D2 sp i).deps l0)) a Z:=Mb (GM h2 (λj hj d hd=>by
    obtain⟨h5,h6⟩:=b3 i hi j (by rw[hdep i hi];exact hj);rw[RA,ho,RL,List.contains_iff_mem] at h6;obtain⟨o2,ho2⟩:=hops j h5;obtain⟨v,hv1,hv2⟩:=h3 j o2 d h5 (hb j h6).2 ho2 (by simpa[B7,ho2] using hd);refine⟨v,hv1,?_⟩;rw[hspq u j h5];exact hv2)) (λd hd q hq=>ho5 d q hq (λwr hwr hdw=>by
     cases hS:S wr with
     | false=>rfl
     | true=>have:=ho6 wr i d hwr hi hdw hd hS;rw[this] at hun;cases hun))
  by_cases hi0:i=i0
  ·subst hi0;rw[if_pos rfl] at hat;rw[hun] at h1;have h1':St c H Z w:=by simpa using h1
   have key:=λK' hK'=>hat u a w Z K' hag' h1' hK';have h5:∀u' v w' Z',Fz.le Z Z'→((D2 sp i).r u').p Z' v→St c (H1 u') Z' w'→K (a.put o.dst v) w':=λu' v w' Z' hz hpv hs'=>by
    refine hK _ _ ⟨u',Z',by simpa using hs',hagr v Z' hz,hvals v Z' u' hz (λj hj hji hSj=>?_) (λ_=>hpv),λj _ _ _=>by simp,hold' Z' hz v,hord⟩;refine hst.at (hsa j hj) ?_ u' u
    cases hd:(D2 sp j).dyn with
    | false=>rfl
    | true=>have:=hx j hj hd hSj;rw[this] at hun;cases hun
   refine⟨λ_=>(key K h5).2,λhw'=>?_⟩;rw[(key K h5).1] at hw';cases hw'
  ·rw[Sd hi0] at hat;refine hat u _ (by split;exact .inr rfl;exact .inl rfl) a w Z K hag' h1 (λv w' Z' hz hp hst'=>hK _ _ ⟨u,Z',?_,hagr v Z' hz,hvals v Z' u hz (λ_ _ _ _=>rfl) (λ_=>hp),λj hj hd hSj=>?_,hold' Z' hz v,hord⟩)
   ·have hiS:(i0 ==i||S i0)=S i0:=by
     have:(i0 ==i)=false:=by simpa using λe=>hi0 e.symm
     rw[this];rfl
    show St c (if (i0 ==i||S i0)=true then H1 u else H) Z' w';rw[hiS];exact hst'
   ·have hii:(i0 ==i)=false:=by simpa using λe=>hi0 e.symm
    show(i0 ==i||S i0)=true;rw[hii,RG]
    by_cases hji:j=i
    ·subst hji;have h7:=b4 j hj;rw[hdyn j hj,hd] at h7;simp only[RF,RG,Sf,beq_iff_eq,hi0,false_or,List.any_eq_true,RC,R8] at h7;obtain⟨e,he,heN,h8⟩:=h7;rw[RA,ho,RL] at he;have hSe:=(hb e he).2;rcases h8 with h8 | h8
     ·subst h8;exact hSe
     ·rw[hdyn e heN] at h8;exact hx e heN h8 hSe
    ·exact hx j hj hd (by simpa[hji] using hSj)
 ·obtain⟨u,Z,h1,h2,h3,_,_,_⟩:=hI;have hsl:(Q8 sp u).length=N:=by simp[Q8,hsp]
  refine h u a w Z (JZ h2 _ _ 0 (λt o s d ht hs hd=>?_)) (by simpa using h1);have htN:t<N:=by have:=(List.getElem?_eq_some_iff.1 hs).1;omega
  have hs':s = { deps:=(D2 sp t).deps,r:=(D2 sp t).r u }:=by
   simp only[Q8,Sb,hsa t htN,Option.map_some,Option.some.injEq] at hs;exact hs.symm
  subst hs';rw[RR];exact h3 t o d htN rfl (by rw[← hget t htN];exact ht) hd
theorem PA [Inhabited U]{id:Nat}{ops:List Oper}(N i0:Nat)(ks0 ksw:List Nat)(sp:List (Sx U))(H1:U→List Ent)(hob:Gg P n c ops.toArray Q ops sp l0 lw i0 H H1 0 (ops.take N))(h:∀u,WL P n c ops.toArray Q (ops.drop N) (HA (λ_=>0) (ops.take N) (Q8 sp u) 0 l0) (H1 u))
  (h0:Kp ks0 l l0:=by repeat (first | exact IU | (apply Hi;rfl) | (apply HF;rfl))) (hw:Kp ksw l lw:=by repeat (first | exact IU | (apply Hi;rfl) | (apply HF;rfl))) (hm:P.follows .mixedOrders=true:=by kernel_rfl) (hB:Rf n ops N i0 (CS l0) (sp.map (·.deps)) (sp.map (·.dyn)) (sp.map (·.old))=true:=by kernel_rfl)
  (hsp:sp.length=N:=by rfl) (hst:IC sp:=by repeat (first | exact Ra | apply Rc | apply Rb)):WC P n c (.region id ops.toArray true) Q l H:=O5 N i0 sp hm hB h0.one hw.one hsp hst hob h
theorem Q9 {all rest:List Oper}{d:Nat}{op:Op}{ty:TypeId}{pos:String}{af:Array Edge}{i:Nat}(hr:∀{u H},AU P n c (Dp lw (D2 sp i).old (Bj all (MU sp u) (D2 sp i).deps l0)) H { dst:=some d,op:=op,type:=ty,pos:=pos,after:=af,guard:=none } ((D2 sp i).r u))(h:Gg P n c opsA Q all sp l0 lw i0 H H1 (i+1) rest)(hne:Nat.beq i i0=false:=by rfl) :
  Gg P n c opsA Q all sp l0 lw i0 H H1 i ({ dst:=some d,op:=op,type:=ty,pos:=pos,after:=af,guard:=none }::rest):=by
 refine⟨?_,h⟩;rw[Sd (λe=>by subst e;simp at hne)];exact λu H _=>EG hr
theorem Ry {all rest:List Oper}{o:Oper}{i:Nat}(hr:∀{u H},Co P n c opsA Q (Dp lw (D2 sp i).old (Bj all (MU sp u) (D2 sp i).deps l0)) H o ((D2 sp i).r u) H)(h:Gg P n c opsA Q all sp l0 lw i0 H H1 (i+1) rest)(hne:Nat.beq i i0=false:=by rfl):Gg P n c opsA Q all sp l0 lw i0 H H1 i (o::rest):=by
 refine⟨?_,h⟩;rw[Sd (λe=>by subst e;simp at hne)];exact λu H _=>hr
theorem QQ {all rest:List Oper}{o:Oper}{i:Nat}(hr:∀{u},Co P n c opsA Q (Dp lw (D2 sp i).old (Bj all (MU sp u) (D2 sp i).deps l0)) H o ((D2 sp i).r u) H)(hr1:∀{u},Co P n c opsA Q (Dp lw (D2 sp i).old (Bj all (MU sp u) (D2 sp i).deps l0)) (H1 u) o ((D2 sp i).r u) (H1 u))(h:Gg P n c opsA Q all sp l0 lw i0 H H1 (i+1) rest)(hne:Nat.beq i i0=false:=by rfl):Gg P n c opsA Q all sp l0 lw i0 H H1 i (o::rest):=by
 refine⟨?_,h⟩;rw[Sd (λe=>by subst e;simp at hne)];intro u H' hH';rcases hH' with e | e
 ·subst e;exact hr
 ·subst e;exact hr1
theorem Rw {all rest:List Oper}{o:Oper}(hr:∀{u},QT P n c opsA Q (Dp lw (D2 sp i0).old (Bj all (MU sp u) (D2 sp i0).deps l0)) H o (D2 sp i0).r H1)(h:Gg P n c opsA Q all sp l0 lw i0 H H1 (i0+1) rest):Gg P n c opsA Q all sp l0 lw i0 H H1 i0 (o::rest):=by
 refine⟨?_,h⟩;rw[if_pos rfl];exact λu=>hr
theorem Rx {all:List Oper}{i:Nat}:Gg P n c opsA Q all sp l0 lw i0 H H1 i []:=trivial
end
section
variable {P : Program} {n : Nat} {c : Cx} {opsA : Array Oper} {Q : Exit → Act → World → Prop} {l : Fr} {H : List Ent} {d : Nat} {x y : Operand} {ty t e : TypeId} {pos : String} {af : Array Edge} {v : Value} {sz : Nat}
theorem Ng {α:Type}{xs ys:List α}{enc:α→List Rp}{i:Nat}{inf:TypeInfo}{z:Value}{bytes:Nat}(ht:P.underlying t=some (.slice e))(hinf:P.info? e=some inf)(hz:inf.zero=some z)(hsize:inf.size=sz)(hby:inf.bytes=bytes)(hzs:z.cells.size=sz)(hsz:Nat.blt 0 sz=true)(hbp:Nat.blt 0 bytes=true)
  (hx:ev l x=some (rv v)) (hi:H[i]? =some (.row v e sz (xs.map enc))) (hy:KZ P n c l H y sz ys.length (ys.map enc).flatten) (henc:∀z,(enc z).length=sz) (hone:∀z,(enc z).all (·.one)=true) (hg:KL bytes (xs.length+ys.length)=true) :
  QT P n c opsA Q l H { dst:=some d,op:=.call { callee:=.builtin .append,args:=#[x,y],argTypes:=#[t,t] },type:=ty,pos:=pos,after:=af,guard:=none } (λv'=>rv v') (λv'=>.row v' e sz ((xs++ys).map enc)::H.eraseIdx i):=λa w Z K ha hw hK=>by
  obtain⟨h0,us,h1,h2⟩:=hw.ent hi;obtain⟨ws,h3,h4⟩:=hy a w Z ha hw;have hsz':0<sz:=by simpa using hsz
  have hbp':0<bytes:=by simpa using hbp
  have hb:(xs.length+ys.length)*bytes≤140737488355328:=by simpa[KL] using hg
  have hle:xs.length+ys.length≤(xs.length+ys.length)*bytes:=Nat.le_mul_of_pos_right _ hbp';have hws:∀y∈ws,y.oneCell'=true:=AL.one (rs:=(ys.map enc).flatten) (by
   rw[RS];intro r hr;obtain⟨cl,hcl,hrc⟩:=List.mem_flatten.1 hr;obtain⟨z',_,rfl⟩:=List.mem_map.1 hcl;exact List.all_eq_true.1 (hone z') r hrc) h3
  have hxl:(xs.map enc).length=xs.length:=RD ..;rw[hxl] at h1;obtain⟨v',w',e1,e2,e3,e4⟩:=DP (P:=P) ty ht hinf hz hsize hby hzs hsz' h1 h4 hws hb (by simp only[maxLen];omega);have hent:(Ent.row v' e sz ((xs++ys).map enc)).holds Z w':=⟨λcl hcl=>by obtain⟨z',_,rfl⟩:=List.mem_map.1 hcl;exact henc z',us++ws,by simpa using e2,by rw[List.map_append,List.flatten_append];exact h2.append h3⟩
  have hst:=hw.callF hi (St.one (e':=.row v' e sz ((xs++ys).map enc)) (M:=(Ent.row v e sz (xs.map enc)).foot) hw.frz hw.env hw.emono e3.os e3.tape e3.output e3.size (λk hk hne=>e3.block k hk (λe1=>hne (by simp[Ent.foot,← e1])))
   (hw.zdis _ (RB hi)) hent (λk hk=>by
    simp only[Ent.foot,Option.mem_toList] at hk ⊢;rcases e4 with e4 | e4
    ·exact .inl (e4▸hk)
    ·exact .inr (e4 k hk)))
  refine⟨by simp[Region.wanted],?_⟩;unfold Oper.wp;rw[show(execOp a.eval { dst:=some d,op:=.call { callee:=.builtin .append,args:=#[x,y],argTypes:=#[t,t] },type:=ty,pos:=pos,after:=af,guard:=none }).run P w = .ok (.value v') w' from by simp[execOp,resolve,invoke,builtin,ha.eval hx,e1]];exact hK v' v' w' Z (Fz.le.refl _) rfl hst
end
abbrev Ux:=Nat→Nat→Value×Nat
def Ag (k:Nat)(u u':Ux):Prop:=∀j,j<k→u j=u' j
def ux (u:Ux)(k:Nat)(f:List (Value×Nat)):Ux:=λj=>bif Nat.beq j k then λq=>f.getD q (undef,0) else u j
structure Sy where
 deps:List Nat
 r:Ux→Rp
 lv:Nat:=0
 fx:Bool:=false
 old:List Nat:=[]
def MT (sp:List Sy)(i:Nat):Sy:=sp.getD i { deps:=[],r:=λ_=>rv undef }
def QY (sp:List Sy)(u:Ux):List Sp:=sp.map λs=>⟨s.deps,s.r u,0⟩
def Md:List Sy→Prop
 | []=>True
 | s::r=>(∀u u',Ag s.lv u u'→s.r u=s.r u')∧Md r
theorem Md.at:∀{sp:List Sy},Md sp→∀{i:Nat} {s:Sy},sp[i]? =some s→∀u u',Ag s.lv u u'→s.r u=s.r u'
 | [],_,i,s,h=>by simp at h
 | x::sp,⟨h1,h2⟩,0,s,h=>by simp at h;subst h;exact h1
 | x::sp,⟨h1,h2⟩,i+1,s,h=>Md.at h2 (by simpa using h)
def cnt (S:Nat→Bool)(is:List Nat):Nat:=(is.filter S).length
section
variable (P : Program) (n : Nat) (c : Cx) (opsA : Array Oper) (Q : Exit → Act → World → Prop)
def R1 (l:Fr)(H:List Ent)(o:Oper)(k:Nat)(u:Ux)(r:Ux→Rp)(H1:Ux→List Ent):Prop:=
 ∀a w Z (K:Act→World→Prop),BG n l a Z→St c H Z w→(∀u' v w' Z',Ag k u u'→Fz.le Z Z'→(r u').p Z' v→St c (H1 u') Z' w'→K (a.put o.dst v) w')→
  Region.wanted o (yielded opsA a.tmps)=true∧o.wp P a w K Q
def Ru (ops:List Oper)(sp:List Sy)(l0 lw:Fr)(is:List Nat)(hs:List (Ux→List Ent))(i:Nat)(o:Oper):Prop:=
 match is.findIdx? (λx=>Nat.beq x i) with
 | some k=>∀u,R1 P n c opsA Q (Dp lw (MT sp i).old (Bj ops (QY sp u) (MT sp i).deps l0)) (hs.getD k (λ_=>[]) u) o k u (MT sp i).r (hs.getD (k+1) (λ_=>[]))
 | none=>if (MT sp i).fx=true then ∀u,Co P n c opsA Q (Dp lw (MT sp i).old (Bj ops (QY sp u) (MT sp i).deps l0)) (hs.getD (MT sp i).lv (λ_=>[]) u) o ((MT sp i).r u) (hs.getD (MT sp i).lv (λ_=>[]) u)
  else ∀u H,Co P n c opsA Q (Dp lw (MT sp i).old (Bj ops (QY sp u) (MT sp i).deps l0)) H o ((MT sp i).r u) H
def Px (ops:List Oper)(sp:List Sy)(l0 lw:Fr)(is:List Nat)(hs:List (Ux→List Ent)):Nat→List Oper→Prop
 | i,o::rest=>Ru P n c opsA Q ops sp l0 lw is hs i o∧Px ops sp l0 lw is hs (i+1) rest
 | _,[]=>True
end
section
variable {P : Program} {n : Nat} {c : Cx} {opsA : Array Oper} {Q : Exit → Act → World → Prop} {l l0 lw : Fr} {H : List Ent} {hs : List (Ux → List Ent)} {sp : List Sy} {is : List Nat}
theorem Px.at {ops:List Oper}:∀{k:Nat} {rest:List Oper},Px P n c opsA Q ops sp l0 lw is hs k rest→∀(t:Nat) o,rest[t]? =some o→Ru P n c opsA Q ops sp l0 lw is hs (k+t) o
 | k,o::rest,⟨h1,h2⟩,t,o',ht=>by
  cases t with
  | zero=>simp at ht;subst ht;exact h1
  | succ t=>
   have:=Px.at h2 t o' (by simpa using ht);rw[show k+(t+1)=k+1+t from by omega];exact this
 | _,[],_,t,o,h=>by simp at h
end
section
variable {P : Program} {n : Nat} {c : Cx} {opsA : Array Oper} {Q : Exit → Act → World → Prop} {l : Fr} {H : List Ent} {d : Nat} {x y : Operand} {ty t e : TypeId} {pos : String} {af : Array Edge} {v : Value} {sz : Nat}
end
def J0 (k:Nat)(i:Int)(off:Nat)(Z:Fz)(v:Value):Prop:=if i<0 then v = .pointer none else ∃b,Z.nm k i.toNat=some b∧v = .pointer (some ⟨b,off,none⟩)
def B3 (k:Nat)(i:Int)(off:Nat):Rp:=⟨J0 k i off,fun {Z Z' v} h hp=>by
 unfold J0 at *
 split
 ·rename_i h0;rwa [if_pos h0] at hp
 ·rename_i h0;rw[Sd h0] at hp;obtain⟨b,h1,h2⟩:=hp;exact⟨b,h.nm k _ b h1,h2⟩,true,λ_ Z v hp=>by
 change J0 k i off Z v at hp
 unfold J0 at hp
 split at hp
 ·rw[hp];rfl
 ·obtain⟨b,_,h2⟩:=hp;rw[h2];rfl⟩
@[reducible] def eP (k:Nat) (i:Int):List Rp:=[B3 k i 0]
theorem E6 (k:Nat)(i:Int):(eP k i).length=1:=rfl
theorem JT (k:Nat)(i:Int):(eP k i).all (·.one)=true:=rfl
@[reducible] def mP (k:Nat) (i:Int):Rp:=B3 k i 0
theorem QE (k:Nat)(Z:Fz):(mP k (-1)).p Z (.pointer none):=rfl
theorem HJ.pnil (k:Nat):HJ (rv (.pointer none)) (B3 k (-1) 0):=λZ v h=>h
section
variable {P : Program} {n : Nat} {c : Cx} {ops : Array Oper} {Q : Exit → Act → World → Prop} {rest : List Oper} {l : Fr} {H H' : List Ent} {d : Nat} {d' : Option Nat} {x y : Operand} {ty t t' e : TypeId} {pos : String} {af : Array Edge} {g : Option (Nat × Bool)} {v u : Value} {r : Rp} {sz k : Nat} {pv : Value} {α : Type} [Inhabited α] {xs : List α} {enc : α → List Rp}
theorem HQ {Z:Fz}{w:World}{j off:Nat}{i:Int}(hw:St c H Z w)(hi:H[j]? =some (.pool k pv e (xs.map enc)))(hg:CF i (xs.length:Int)=true)(hp:(B3 k i off).p Z v) :
  ∃b us,v = .pointer (some ⟨b,off,none⟩)∧(BS pv)[i.toNat]? =some b∧w.heap[b]? =some (.cells us.toArray e (0,0))∧AL Z (enc (Ab xs i)) us:=by
 obtain⟨h0,hl,h⟩:=hw.ent hi;have hi0:=(Bt hg).1;have hi1:i.toNat<xs.length:=by have:=(Bt hg).2;omega
 have hb:i.toNat<(BS pv).length:=by rw[hl,RD];exact hi1
 obtain⟨h1,us,h2,h3⟩:=h i.toNat (BS pv)[i.toNat] (enc xs[i.toNat]) (R9 hb) (by simp[hi1])
 change J0 k i off Z v at hp
 unfold J0 at hp;rw[Sd (by omega)] at hp;obtain⟨b,h4,h5⟩:=hp;rw[h1] at h4;obtain rfl:=Option.some.inj h4;exact⟨_,us,h5,R9 hb,h2,by rw[show Ab xs i=xs[i.toNat] from by simp[Ab,hi1]];exact h3⟩
theorem BK {j off:Nat}{i:Int}(hag:∀w,(isAgg t).run P w = .ok false w)(hx:ev l x=some (B3 k i off))(hi:H[j]? =some (.pool k pv e (xs.map enc)))(hg:CF i (xs.length:Int)=true)(hc:(enc (Ab xs i))[off]? =some r) :
  AU P n c l H { dst:=d',op:=.load t x,type:=ty,pos:=pos,after:=af,guard:=g } r:=λa w Z ha hw=>by
 obtain⟨b,us,e1,_,h1,h2⟩:=HQ hw hi hg (ha.ev hx);obtain⟨u,hu,hp⟩:=h2.at hc;have hcell:w.cell? ⟨b,off,none⟩=some u:=by rw[cell_of_row w b off _ e (0,0) h1];simpa using hu
 exact⟨u,hp,by simp[execOp,e1,Instr.loadAt,Instr.sureAddr,loadVar,hag,hcell]⟩
theorem Hd {j off:Nat}{i:Int}{rs:List Rp}(hag:∀w,(isAgg t).run P w = .ok true w)(hsz:∀w,(sizeOf t).run P w = .ok sz w)(hx:ev l x=some (B3 k i off))(hi:H[j]? =some (.pool k pv e (xs.map enc)))(hg:CF i (xs.length:Int)=true)
  (hr:((enc (Ab xs i)).drop off).take sz=rs) (hl:rs.length=sz):AU P n c l H { dst:=d',op:=.load t x,type:=ty,pos:=pos,after:=af,guard:=g } (Bh rs):=λa w Z ha hw=>by
 obtain⟨b,us,e1,_,h1,h2⟩:=HQ hw hi hg (ha.ev hx);have h3:=(h2.drop off).take sz;rw[hr] at h3;have hlen:=h3.length;have h4:=run_loadCells_list (P:=P) w ⟨b,off,none⟩ ((us.drop off).take sz) (λj u hj=>by
  rw[EI,cell_of_row w b _ _ e (0,0) h1];rw[Sc] at hj
  split at hj
  ·simpa using hj
  ·cases hj)
 rw[hlen,hl] at h4;exact⟨.agg ((us.drop off).take sz).toArray,⟨_,rfl,h3⟩,by simp[execOp,e1,Instr.loadAt,Instr.sureAddr,loadVar,hag,hsz,h4]⟩
theorem AY {off:Nat}{i:Int}(hx:ev l x=some (B3 k i off))(hg:decide (0≤i)=true):AU P n c l H { dst:=d',op:=.nilCheck x,type:=ty,pos:=pos,after:=af,guard:=g } (B3 k i off):=λa w Z ha hw=>by
 have h:=ha.ev hx;have h':=h
 change J0 k i off Z _ at h
 unfold J0 at h;rw[Sd (by have:=of_decide_eq_true hg;omega)] at h;obtain⟨b,_,e1⟩:=h;exact⟨a.eval x,h',by simp[execOp,e1]⟩
theorem BL {off off' i:Nat}{q:Int}{fs:Array Field}{f:Field}(hu:P.underlying t=some (.struct fs))(hf:fs[i]? =some f)(hsz:∀w,(sizeOf f.type).run P w = .ok (sz+1) w)
  (hx:ev l x=some (B3 k q off)) (hg:decide (0≤q)=true) (ho:off+f.offset=off'):AU P n c l H { dst:=d',op:=.fieldAddr t x i,type:=ty,pos:=pos,after:=af,guard:=g } (B3 k q off'):=λa w Z ha hw=>by
 have h:=ha.ev hx
 change J0 k q off Z _ at h
 unfold J0 at h;have h0:=of_decide_eq_true hg;rw[Sd (by omega)] at h;obtain⟨b,h1,e1⟩:=h;subst ho;refine⟨.pointer (some ⟨b,off+f.offset,none⟩),?_,by simp[execOp,e1,Instr.fieldAt,run_underlying hu,hf,Instr.sureAddr,fieldPlace,hsz,EI]⟩;show J0 k q (off+f.offset) Z _;unfold J0;rw[Sd (by omega)];exact⟨b,h1,rfl⟩
theorem St.poolset {β:Type}{xs:List β}{enc:β→List Rp}{Z:Fz}{w:World}{j b:Nat}{i:Int}{us us':List Value}{y':β}(hw:St c H Z w)(hi:H[j]? =some (.pool k pv e (xs.map enc)))(hb:(BS pv)[i.toNat]? =some b)(h1:w.heap[b]? =some (.cells us.toArray e (0,0)))(h2:AL Z (enc y') us') :
  St c (H.set j (.pool k pv e ((xs.set i.toNat y').map enc))) Z (w.setRow b us'.toArray):=by
 obtain⟨h0,hl,h⟩:=hw.ent hi;have hbl:=(List.getElem?_eq_some_iff.1 hb).1;refine hw.setp hi rfl rfl rfl (by simp[World.setRow]) (λq _ hq=>?_) ⟨h0,by simpa using hl,λi' b' cs h3 h4=>?_⟩ (λq hq=>.inl hq) rfl rfl
 ·have:q≠b:=λe=>hq (by subst e;exact RB hb);simp only[World.setRow,Array.getElem?_modify];rw[Sd (λe=>this e.symm)]
 ·rw[List.map_set,List.getElem?_set] at h4
  split at h4
  ·rename_i hii
   subst hii
   split at h4
   ·rw[hb] at h3;obtain rfl:=Option.some.inj h3;obtain rfl:=Option.some.inj h4;obtain⟨g1,_⟩:=h i.toNat b _ hb (R9 (by omega));exact⟨g1,us',setRow_heap w b _ _ e (0,0) h1,h2⟩
   ·cases h4
  ·rename_i hii
   obtain⟨g1,vs,g2,g3⟩:=h i' b' cs h3 h4;have hne:b'≠b:=λe=>hii (by
    subst e;have e1:=(List.getElem?_eq_some_iff.1 h3)
    have e2:=(List.getElem?_eq_some_iff.1 hb)
    exact(List.getElem_inj h0).1 (e2.2.trans e1.2.symm))
   refine⟨g1,vs,?_,g3⟩;simp only[World.setRow,Array.getElem?_modify];rw[Sd (λe=>hne e.symm)];exact g2
theorem H9 {j off:Nat}{i:Int}{y':α}(hag:∀w,(sizeOf t).run P w = .ok 1 w)(hx:ev l x=some (B3 k i off))(hy:ev l y=some r)(hv:Kb H r)(hi:H[j]? =some (.pool k pv e (xs.map enc)))(hg:CF i (xs.length:Int)=true)
  (hy':(enc (Ab xs i)).set off r=enc y') (hlt:Nat.blt off (enc (Ab xs i)).length=true) (hH:H.set j (.pool k pv e ((xs.set i.toNat y').map enc))=H') :
  Pv P n c l H { dst:=none,op:=.store t x y,type:=ty,pos:=pos,after:=af,guard:=none } H':=λa w Z ha hw=>by
  obtain⟨b,us,e1,hb,h1,h2⟩:=HQ hw hi hg (ha.ev hx);have hr:=ha.ev hy;have hone:=hv c Z w _ hw hr;have hlen:=h2.length;have hlt':off<us.length:=by rw[hlen];simpa using hlt
  have h4:=run_storeCells_at P b off e [a.eval y] 0 us.toArray w h1 (by simp;omega) (by simpa using hone);have hcv:=Bk hone;have h3:us.take off++[a.eval y]++us.drop (off+1)=us.set off (a.eval y):=by
   simp[List.set_eq_take_append_cons_drop,hlt']
  simp only[Nat.add_zero,RZ,So,RR] at h4;rw[h3] at h4;refine⟨w.setRow b (us.set off (a.eval y)).toArray,?_,?_⟩
  ·simp[execOp,e1,Instr.storeAt,Instr.sureAddr,storeVar,hag,hcv,h4]
  ·subst hH;exact hw.poolset hi hb h1 (by rw[← hy'];exact h2.set off hr)
theorem Mp {j off:Nat}{i:Int}{y':α}(hag:∀w,(sizeOf t).run P w = .ok 1 w)(hx:ev l x=some (B3 k i off))(hy:ev l y=some r)(hv:Kb H r)(hi:H[j]? =some (.pool k pv e (xs.map enc)))(hg:CF i (xs.length:Int)=true)
  (hy':(enc (Ab xs i)).set off r=enc y') (hlt:Nat.blt off (enc (Ab xs i)).length=true) (hH:H.set j (.pool k pv e ((xs.set i.toNat y').map enc))=H') (h:WL P n c ops Q rest l H') :
  WL P n c ops Q ({ dst:=none,op:=.store t x y,type:=ty,pos:=pos,after:=af,guard:=none }::rest) l H:=
 J4 λa w Z ha hw=>by
  obtain⟨b,us,e1,hb,h1,h2⟩:=HQ hw hi hg (ha.ev hx);have hr:=ha.ev hy;have hone:=hv c Z w _ hw hr;have hlen:=h2.length;have hlt':off<us.length:=by rw[hlen];simpa using hlt
  have h4:=run_storeCells_at P b off e [a.eval y] 0 us.toArray w h1 (by simp;omega) (by simpa using hone);have hcv:=Bk hone;have h3:us.take off++[a.eval y]++us.drop (off+1)=us.set off (a.eval y):=by
   simp[List.set_eq_take_append_cons_drop,hlt']
  simp only[Nat.add_zero,RZ,So,RR] at h4;rw[h3] at h4;refine⟨w.setRow b (us.set off (a.eval y)).toArray,H',?_,?_,h⟩
  ·simp[execOp,e1,Instr.storeAt,Instr.sureAddr,storeVar,hag,hcv,h4]
  ·subst hH;exact hw.poolset hi hb h1 (by rw[← hy'];exact h2.set off hr)
theorem St.adopt0 {Z:Fz}{w:World}{b:Nat}{cs:List Rp}{ys:List (List Rp)}{Hr:List Ent}{pv':Value}(h:St c (.blk b cs e::.pool k pv e ys::Hr) Z w)(hpv:BS pv'=BS pv++[b]):∃Z',Fz.le Z Z'∧Z'.nm k ys.length=some b∧St c (.pool k pv' e (ys++[cs])::Hr) Z' w:=by
 obtain⟨us,hb1,hb2⟩:=h.has (.blk b cs e) (by simp);obtain⟨h0,hl,hp⟩:=h.has (.pool k pv e ys) (by simp);have hd:=List.pairwise_cons.1 h.dis;have hd2:=List.pairwise_cons.1 hd.2;have gd:=List.pairwise_cons.1 h.gst.dis;have gd2:=List.pairwise_cons.1 gd.2;have hcap:=h.gst.cap (.pool k pv e ys) (by simp) k (by simp[Ent.gk]);have hksz:=h.gst.sz (.pool k pv e ys) (by simp) k (by simp[Ent.gk]);have hkown:=h.gst.own (.pool k pv e ys) (by simp) k (by simp[Ent.gk])
 let Z':Fz:=⟨Z.f,λq i=>if q=k∧i=ys.length then some b else Z.nm q i⟩
 have hnew:Z'.nm k ys.length=some b:=by simp[Z']
 have hle:Fz.le Z Z':=⟨λ_ _ h=>h,λq i b' hq=>by
  by_cases hqi:q=k∧i=ys.length
  ·obtain⟨rfl,rfl⟩:=hqi;rw[hcap _ (by simp[Ent.gn,hl])] at hq;cases hq
  ·simpa[Z',hqi] using hq⟩
 have hbn:b ∉ BS pv:=λhbs=>hd.1 (.pool k pv e ys) (by simp) b (by simp[Ent.foot]) hbs;refine⟨Z',hle,hnew,h.os,h.tape,h.output,h.size,h.old,λen he=>?_,λen he q hq=>?_,?_,⟨λb o hb=>h.frz.f b o hb,λq i b' hq=>?_⟩,h.le.trans hle,λb o hb=>h.new b o hb,λen he q hq=>?_,h.emono hle h.env,h.emono,⟨λen he q hq=>?_,λen he q hq=>?_,?_,λq i b' hq=>?_,λen he q hq i hi=>?_⟩⟩
 ·rcases List.mem_cons.1 he with rfl | he
  ·refine⟨by rw[hpv];exact List.nodup_append.2 ⟨h0,by simp,λx hx y hy e=>by simp at hy;subst hy;exact hbn (e▸hx)⟩,by rw[hpv];simp[hl],λi b' cs' h1 h2=>?_⟩
   ·rw[hpv] at h1
    by_cases hi:i<(BS pv).length
    ·rw[Sm hi] at h1;rw[Sm (by omega)] at h2;obtain⟨g1,vs,g2,g3⟩:=hp i b' cs' h1 h2;exact⟨hle.nm k i b' g1,vs,g2,g3.mono hle⟩
    ·have hi2:i=(BS pv).length:=by have:=(List.getElem?_eq_some_iff.1 h1).1;simp at this;omega
     subst hi2;simp at h1;subst h1;rw[hl] at h2;simp at h2;subst h2;exact⟨by rw[hl];exact hnew,us,hb1,hb2.mono hle⟩
  ·exact Ent.keep (h.has en (by simp[he])) hle λ_ _=>rfl
 ·rcases List.mem_cons.1 he with rfl | he
  ·rcases List.mem_append.1 (hpv▸(show q∈BS pv' from hq)) with hq | hq
   ·exact h.own (.pool k pv e ys) (by simp) q hq
   ·simp at hq;subst hq;exact h.own (.blk q cs e) (by simp) q (by simp[Ent.foot])
  ·exact h.own en (by simp[he]) q hq
 ·refine List.pairwise_cons.2 ⟨λen he q hq hq'=>?_,hd2.2⟩;rcases List.mem_append.1 (hpv▸(show q∈BS pv' from hq)) with hq | hq
  ·exact hd2.1 en he q hq hq'
  ·simp at hq;subst hq;exact hd.1 en (by simp[he]) q (by simp[Ent.foot]) hq'
 ·by_cases hqi:q=k∧i=ys.length
  ·rw[hqi.1];exact hksz
  ·exact h.frz.nm q i b' (by simpa[Z',hqi] using hq)
 ·rcases List.mem_cons.1 he with rfl | he
  ·rcases List.mem_append.1 (hpv▸(show q∈BS pv' from hq)) with hq | hq
   ·exact h.zdis (.pool k pv e ys) (by simp) q hq
   ·simp at hq;subst hq;exact h.zdis (.blk q cs e) (by simp) q (by simp[Ent.foot])
  ·exact h.zdis en (by simp[he]) q hq
 ·rcases List.mem_cons.1 he with rfl | he
  ·simp[Ent.gk] at hq;subst hq;exact hkown
  ·exact h.gst.own en (by simp[he]) q hq
 ·rcases List.mem_cons.1 he with rfl | he
  ·simp[Ent.gk] at hq;subst hq;exact hksz
  ·exact h.gst.sz en (by simp[he]) q hq
 ·exact List.pairwise_cons.2 ⟨λen he q hq hq'=>gd2.1 en he q hq hq',gd2.2⟩
 ·by_cases hqi:q=k∧i=ys.length
  ·rw[hqi.1];exact .inr hkown
  ·exact h.gst.new q i b' (by simpa[Z',hqi] using hq)
 ·rcases List.mem_cons.1 he with rfl | he
  ·simp[Ent.gk] at hq;subst hq;simp[Ent.gn,hpv] at hi;have : ¬ i=ys.length:=by omega
   simp only[Z',this,and_false,Sk];exact hcap i (by simp[Ent.gn];omega)
  ·have hqk:q≠k:=λe1=>gd2.1 en he k (by simp[Ent.gk]) (e1▸hq);simp only[Z',hqk,false_and,Sk];exact h.gst.cap en (by simp[he]) q hq i hi
theorem St.adopt {Z:Fz}{w:World}{b:Nat}{cs:List Rp}{ys:List (List Rp)}{Hr:List Ent}(h:St c (.blk b cs e::.pool k pv e ys::Hr) Z w):∃Z',Fz.le Z Z'∧Z'.nm k ys.length=some b∧St c (.pool k (Qc (BS pv++[b])) e (ys++[cs])::Hr) Z' w:=St.adopt0 h (Pr _)
theorem J0.of {Z:Fz}{b N:Nat}(h:Z.nm k N=some b):∀v,(rv (.pointer (some ⟨b,0,none⟩))).p Z v→(B3 k (N:Int) 0).p Z v:=λv hv=>by
 show J0 k N 0 Z v;unfold J0;rw[Sd (by omega)];exact⟨b,by simpa using h,hv⟩
def Oq (l:Fr)(b:Nat):List Nat→Prop
 | []=>True
 | d::ds=>look l d=some (rv (.pointer (some ⟨b,0,none⟩)))∧Oq l b ds
def Q4 (k N:Nat):List Nat→Fr→Fr
 | [],l=>l
 | d::ds,l=>(d,B3 k (N:Int) 0)::Q4 k N ds l
theorem JX {Z:Fz}{a:Act}{b N:Nat}{l:Fr}(ha:BG n l a Z)(hn:Z.nm k N=some b):∀{ds:List Nat},Oq l b ds→BG n (Q4 k N ds l) a Z
 | [],_=>ha
 | d::ds,⟨h1,h2⟩=>by
  have h3:=JX ha hn h2;refine⟨h3.size,h3.defers,λi u hi=>?_⟩;rw[Q4,Bz] at hi
  split at hi
  ·rename_i e;subst e;simp at hi;subst hi
   obtain⟨v,h4,h5⟩:=ha.tm d _ h1;exact⟨v,h4,J0.of hn v h5⟩
  ·exact h3.tm i u hi
theorem St.adoptE {β:Type}{xs:List β}{enc:β→List Rp}{Z:Fz}{w:World}{b:Nat}{y:β}{Hr:List Ent}{cs:List Rp}(hw:St c H Z w)(hp:H.Perm (.blk b cs e::.pool k pv e (xs.map enc)::Hr))(hcs:cs=enc y) :
  ∃Z' pv',Fz.le Z Z'∧Z'.nm k xs.length=some b∧St c (.pool k pv' e ((xs++[y]).map enc)::Hr) Z' w:=by
 obtain⟨Z',h1,h2,h3⟩:=(hw.perm hp).adopt;subst hcs;rw[RD] at h2;exact⟨Z',_,h1,h2,by rw[List.map_append];exact h3⟩
theorem WL.adopt {β:Type}{xs:List β}{enc:β→List Rp}{b:Nat}{y:β}{Hr:List Ent}{cs:List Rp}(hp:H.Perm (.blk b cs e::.pool k pv e (xs.map enc)::Hr))(ds:List Nat)(hd:Oq l b ds)(hcs:cs=enc y)
  (h:∀pv',WL P n c ops Q rest (Q4 k xs.length ds l) (.pool k pv' e ((xs++[y]).map enc)::Hr)):WL P n c ops Q rest l H:=λa w Z ha hw=>by
 obtain⟨Z',pv',h1,h2,h3⟩:=St.adoptE hw hp hcs;exact h pv' a w Z' (JX (ha.mono h1) h2 hd) h3
theorem WC.adopt {β:Type}{xs:List β}{enc:β→List Rp}{b:Nat}{y:β}{Hr:List Ent}{cs:List Rp}{xx:Code}(hp:H.Perm (.blk b cs e::.pool k pv e (xs.map enc)::Hr))(ds:List Nat)(hd:Oq l b ds)(hcs:cs=enc y)
  (h:∀pv',WC P n c xx Q (Q4 k xs.length ds l) (.pool k pv' e ((xs++[y]).map enc)::Hr)):WC P n c xx Q l H:=λa w Z ha hw=>by
 obtain⟨Z',pv',h1,h2,h3⟩:=St.adoptE hw hp hcs;exact h pv' a w Z' (JX (ha.mono h1) h2 hd) h3
theorem WK.adopt {β:Type}{xs:List β}{enc:β→List Rp}{b:Nat}{y:β}{Hr:List Ent}{cs:List Rp}{K:Act→World→Prop}(hp:H.Perm (.blk b cs e::.pool k pv e (xs.map enc)::Hr))(ds:List Nat)(hd:Oq l b ds)(hcs:cs=enc y)
  (h:∀pv',WK n c K (Q4 k xs.length ds l) (.pool k pv' e ((xs++[y]).map enc)::Hr)):WK n c K l H:=λa w Z ha hw=>by
 obtain⟨Z',pv',h1,h2,h3⟩:=St.adoptE hw hp hcs;exact h pv' a w Z' (JX (ha.mono h1) h2 hd) h3
theorem E8:BS (.tuple #[])=[]:=rfl
theorem E0 (hn:Nat.blt d n=true)(h:∀b,WL P n c ops Q rest ((d,rv (.map (some b)))::l) (.pool b (.tuple #[]) e []::.map b []::H)) :
  WL P n c ops Q ({ dst:=some d,op:=.makeMap t none,type:=ty,pos:=pos,after:=af,guard:=none }::rest) l H:=
 EW (λa w Z ha hw=>by
  have h1:=hw.alloc (.map #[] 0) (e:=.map w.heap.size []) ⟨#[],0,by simpa using heap_alloc_new w _,by simp,by simp,by simp,[],R7 _,trivial⟩ rfl;refine⟨_,w.alloc (.map #[] 0),_,_,Z,by simp[execOp,run_makeMap],Fz.le.refl _,rfl,?_,h w.heap.size⟩;have hz:∀i,Z.nm w.heap.size i=none:=λi=>by
   cases hq:Z.nm w.heap.size i with
   | none=>rfl
   | some b=>have:=hw.frz.nm _ _ _ hq;omega
  have hold:∀en∈(Ent.map w.heap.size []::H),∀q∈en.gk,q<w.heap.size:=λen he q hq=>by
   rcases List.mem_cons.1 he with rfl | he
   ·simp[Ent.gk] at hq
   ·exact hw.gst.sz en he q hq
  refine { h1 with has:=λen he=>?_,own:=λen he q hq=>?_,dis:=List.pairwise_cons.2 ⟨λen he q hq=>by simp[Ent.foot,E8] at hq,h1.dis⟩,zdis:=λen he q hq=>?_,gst:=⟨λen he q hq=>?_,λen he q hq=>?_,List.pairwise_cons.2 ⟨λen he q hq hq'=>?_,h1.gst.dis⟩,h1.gst.new,λen he q hq i hi=>?_⟩ }
  ·rcases List.mem_cons.1 he with rfl | he
   ·exact⟨by simp[E8],by simp[E8],by simp⟩
   ·exact h1.has en he
  ·rcases List.mem_cons.1 he with rfl | he
   ·simp[Ent.foot,E8] at hq
   ·exact h1.own en he q hq
  ·rcases List.mem_cons.1 he with rfl | he
   ·simp[Ent.foot,E8] at hq
   ·exact h1.zdis en he q hq
  ·rcases List.mem_cons.1 he with rfl | he
   ·simp[Ent.gk] at hq;subst hq;exact .inl hw.size
   ·exact h1.gst.own en he q hq
  ·rcases List.mem_cons.1 he with rfl | he
   ·simp[Ent.gk] at hq;subst hq;simp
   ·exact h1.gst.sz en he q hq
  ·simp[Ent.gk] at hq;subst hq;have:=hold en he _ hq';omega
  ·rcases List.mem_cons.1 he with rfl | he
   ·simp[Ent.gk] at hq;subst hq;exact hz i
   ·exact h1.gst.cap en he q hq i hi) hn
end
set_option maxRecDepth 100000
set_option maxHeartbeats 4000000
@[reducible] def Ah (x:A4):List Rp:=[rS x.fID,rS x.fTenant,rS x.fSource,rS x.fKey,rI .i64 x.fAt,rS x.fCause,Cb 4 (List.map Ak x.fBody)]
theorem E5 (x:A4):(Ah x).length=7:=rfl
theorem I6 (x:A4):(Ah x).all (·.one)=true:=rfl
@[reducible] def Af (x:Ac):List Rp:=[rS x.fEvent.fID,rS x.fEvent.fTenant,rS x.fEvent.fSource,rS x.fEvent.fKey,rI .i64 x.fEvent.fAt,rS x.fEvent.fCause,Cb 4 (List.map Ak x.fEvent.fBody),rI .i64 x.fAt,rI .i64 x.fReceives,rB x.fHeld,rI .i64 x.fPlace]
theorem Qj:∃inf,Tryz.prog.info? 95=some inf∧inf.zero=some (.agg #[(.int .i64 0),(.int .i64 0),(.string ⟨#[]⟩),(.int .i64 0)])∧inf.size=4∧inf.bytes=40:=by
  have key:(Tryz.prog.info? 95).map (λi=>(i.zero,i.size,i.bytes))=some (some (.agg #[(.int .i64 0),(.int .i64 0),(.string ⟨#[]⟩),(.int .i64 0)]),4,40):=by kernel_rfl
  obtain⟨inf,h1,h2⟩:=Option.map_eq_some_iff.1 key;simp only[Prod.mk.injEq] at h2;exact⟨inf,h1,h2.1,h2.2.1,h2.2.2⟩
theorem Oe (ys:(List Ap))(r:(List Ap))(h:L2 ys=some r):Fn Tryz.prog GE 66 [Cb 4 (List.map Ak ys)] [] (λR H=>R=Cb 4 (List.map Ak r)∧H=[]):=by
 refine enter (n:=8) Tryz.func66 Aa Tryz.ntmps66 Aa (λw Z=>?_);refine AN (l':=[(0,Cb 4 (List.map Ak ys))]) (H':=[]) Aa Aa ?_;unfold L2 at h;refine An (wv (r:=rv (.slice none 0 0)) (Aj Aa) (A0 (Aw (An (wm Aa (wv (M5 Ew Aa) (A0 (Nl Aa (λc1=>?_) (λc1=>?_)))))))))
 ·have e2:ys=[]:=List.map_eq_nil_iff.1 (c1 rfl);have h3:some ([]:List Ap)=some r:=by rw[e2] at h;exact(AK h).2
  refine An (wv (r:=rv (.slice none 0 0)) (Aj Aa) (A0 (Az (Al (WK.up (d:=2) (r:=Cb 4 (List.map Ak ([]:List Ap))) Aa (Up.le (HJ.nil _)) ?_)))));obtain rfl:=A5 h3;exact A1 (B4 Tryz.results66 (AM Aa)) sN ⟨Aa,Aa⟩
 ·refine AA (Bb (An (BB (ys:=([]:List Ap)) (enc:=Ak) (css:=[]) (xs:=[]) Ew HB P7 Aa Aa Aa trivial Aa Di Aa Aa Aa (λb4=>?_))));refine wm Aa ?_;obtain⟨g6,h7⟩:=AK h;obtain⟨inf,hinf⟩:=Qj;refine Dm (xs:=([]:List Ap)) (ys:=ys) (enc:=Ak) (i:=0) Ew hinf.1 hinf.2.1 hinf.2.2.1 hinf.2.2.2 Aa Aa Aa Aa Aa (KZ.z Aa Aa) Di IW g6 Aa (λv5=>?_);refine wa Aa (A0 (Az (WK.freeze (i:=0) Aa (WK.up (d:=2) (r:=Cb 4 (List.map Ak (([]:List Ap)++ys))) Aa (Up.fact (i:=0) Aa) ?_))));obtain rfl:=A5 h7;exact A1 (B4 Tryz.results66 (AM Aa)) (sS sN) ⟨Aa,Aa⟩
theorem Ob (F:Nat)(e:A4)(r:Int)(h:L0 F e=some r):Fn Tryz.prog GE 58 [Bh (Ah e)] [] (λR H=>R=rI .i64 r∧H=[]):=by
 refine enter (n:=52) Tryz.func58 Aa Tryz.ntmps58 Aa (λw Z=>?_);refine AN (l':=[(0,Bh (Ah e))]) (H':=[]) Aa Aa ?_;unfold L0 at h;refine An (Bm Aa Aa (λb1=>?_));refine wv (r:=rI .i64 0) (Aj Aa) (A0 (Aw (AC [(1,rv (.pointer (some ⟨b1,0,none⟩))),(40,rB ((!(En e.fID))||((!(En e.fTenant))||((!(En e.fSource))||(bif !decide (e.fKey=([]:AI)) then((!(En e.fKey))||((!decide (e.fCause=([]:AI)))&&(!(En e.fCause)))) else((!decide (e.fCause=([]:AI)))&&(!(En e.fCause))))))))] [.blk b1 (Ah e) 33] ?_ ?_)))
 ·refine At (wv (Ai BO Aa CG Aa Aa) (wv (Ao (i:=0) CH Aa Aa Aa) (Cy (rs:=[rS e.fID]) (r:=rB (En e.fID)) Ml Aa (MG e.fID) Aa Aa (wv (B9 Aa) (wm Aa (AH (!(En e.fID)) (λc2=>?_) (λc2=>?_)))))))
  ·refine wf c2 (wf c2 (wf c2 (wf c2 (wv (r:=rB true) (Am (b:=!(En e.fID)) Aa c2 Aa) (wm Aa (Ad (b:=true) Aa Aa Aa Aa (Ad (b:=true) Aa Aa Aa Aa (Ad (b:=true) Aa Aa Aa Aa (Ad (b:=true) Aa Aa Aa Aa (wv (r:=rB true) (Am (b:=true) Aa Aa Aa) (wm Aa (Ad (b:=true) Aa Aa Aa Aa (Ad (b:=true) Aa Aa Aa Aa (Ad (b:=true) Aa Aa Aa Aa (Ad (b:=true) Aa Aa Aa Aa (wu (wu (wu (wu (Ad (b:=true) Aa Aa Aa Aa (wv (r:=rB true) (Am (b:=true) Aa Aa Aa) (wm Aa (Ad (b:=true) Aa Aa Aa Aa ?_)))))))))))))))))))))));refine Ad (b:=true) Aa Aa Aa Aa (Ad (b:=true) Aa Aa Aa Aa (Ad (b:=true) Aa Aa Aa Aa (wu (wu (wu (wu (Ad (b:=true) Aa Aa Aa Aa (wv (r:=rB true) (Am (b:=true) Aa Aa Aa) (Ar ?_)))))))));exact BY c2
  ·refine wo c2 (wv (Ai BO Aa CG Aa Aa) (wo c2 (wv (Ao (i:=0) CH Aa Aa Aa) (wo c2 (Cy (rs:=[rS e.fTenant]) (r:=rB (En e.fTenant)) Ml Aa (MG e.fTenant) Aa Aa (wo c2 (wv (B9 Aa) (Ez Aa c2 Aa (wm Aa (AH (!(En e.fTenant)) (λc3=>?_) (λc3=>?_)))))))))))
   ·refine wf c3 (wf c3 (wf c3 (wf c3 (wv (r:=rB true) (Am (b:=!(En e.fTenant)) Aa c3 Aa) (wm Aa (Ad (b:=true) Aa Aa Aa Aa (Ad (b:=true) Aa Aa Aa Aa (Ad (b:=true) Aa Aa Aa Aa (Ad (b:=true) Aa Aa Aa Aa (wu (wu (wu (wu (Ad (b:=true) Aa Aa Aa Aa (wv (r:=rB true) (Am (b:=true) Aa Aa Aa) (wm Aa (Ad (b:=true) Aa Aa Aa Aa (Ad (b:=true) Aa Aa Aa Aa (Ad (b:=true) Aa Aa Aa Aa (Ad (b:=true) Aa Aa Aa Aa (wu (wu (wu ?_)))))))))))))))))))))));refine wu (Ad (b:=true) Aa Aa Aa Aa (wv (r:=rB true) (Am (b:=true) Aa Aa Aa) (Ar ?_)));exact BY (And.intro c2 c3)
   ·refine wo c3 (wv (Ai BO Aa CG Aa Aa) (wo c3 (wv (Ao (i:=0) CH Aa Aa Aa) (wo c3 (Cy (rs:=[rS e.fSource]) (r:=rB (En e.fSource)) Ml Aa (MG e.fSource) Aa Aa (wo c3 (wv (B9 Aa) (Ez Aa c3 Aa (wm Aa (AH (!(En e.fSource)) (λc4=>?_) (λc4=>?_)))))))))))
    ·refine wf c4 (wf c4 (wf c4 (wf c4 (wu (wu (wu (wu (wf c4 (wv (r:=rB true) (Am (b:=!(En e.fSource)) Aa c4 Aa) (wm Aa (Ad (b:=true) Aa Aa Aa Aa (Ad (b:=true) Aa Aa Aa Aa (Ad (b:=true) Aa Aa Aa Aa (Ad (b:=true) Aa Aa Aa Aa (wu (wu (wu (wu (Ad (b:=true) Aa Aa Aa Aa (wv (r:=rB true) (Am (b:=true) Aa Aa Aa) (Ar ?_)))))))))))))))))))));exact BY (And.intro c2 (And.intro c3 c4))
    ·refine wo c4 (wv (Ai BO Aa CG Aa Aa) (wo c4 (wv (Ao (i:=0) CH Aa Aa Aa) (wo c4 (wv (K4 Aa Aa) (wo c4 (wm Aa (AH (!decide (e.fKey=([]:AI))) (λc5=>?_) (λc5=>?_)))))))))
     ·refine wo c5 (wv (Ai BO Aa CG Aa Aa) (wo c5 (wv (Ao (i:=0) CH Aa Aa Aa) (wo c5 (Cy (rs:=[rS e.fKey]) (r:=rB (En e.fKey)) Ml Aa (MG e.fKey) Aa Aa (wo c5 (wv (B9 Aa) (wo c4 (DU Aa c5 Aa (Ez Aa c4 Aa (wm Aa (AH (!(En e.fKey)) (λc6=>?_) (λc6=>?_)))))))))))))
      ·refine wf c6 (wf c6 (wf c6 (wf c6 (wu (wu (wu (wu (wf c6 (wv (r:=rB true) (Am (b:=!(En e.fKey)) Aa c6 Aa) (Ar ?_))))))))));exact BY (And.intro c2 (And.intro c3 (And.intro c4 (And.intro c5 c6))))
      ·refine wo c6 (wv (Ai BO Aa CG Aa Aa) (wo c6 (wv (Ao (i:=0) CH Aa Aa Aa) (wo c6 (wv (K4 Aa Aa) (wo c6 (wm Aa (AH (!decide (e.fCause=([]:AI))) (λc7=>?_) (λc7=>?_)))))))))
       ·refine wo c7 (wv (Ai BO Aa CG Aa Aa) (wo c7 (wv (Ao (i:=0) CH Aa Aa Aa) (wo c7 (Cy (rs:=[rS e.fCause]) (r:=rB (En e.fCause)) Ml Aa (MG e.fCause) Aa Aa (wo c7 (wv (B9 Aa) (wo c6 (DU Aa c7 Aa (Ez Aa c6 Aa (Ar ?_)))))))))));exact BY (And.intro c2 (And.intro c3 (And.intro c4 (And.intro c5 (And.intro c6 c7)))))
       ·refine wf c7 (wf c7 (wf c7 (wf c7 (wo c6 (wv (r:=rB false) (As (b:=!decide (e.fCause=([]:AI))) Aa c7 Aa) (Ez Aa c6 Aa (Ar ?_)))))));exact BY (And.intro c2 (And.intro c3 (And.intro c4 (And.intro c5 (And.intro c6 c7)))))
     ·refine wf c5 (wf c5 (wf c5 (wf c5 (wo c4 (wv (r:=rB false) (As (b:=!decide (e.fKey=([]:AI))) Aa c5 Aa) (Ez Aa c4 Aa (wm Aa (Ax (b:=false) Aa Aa Aa (wv (Ai BO Aa CG Aa Aa) (Ax (b:=false) Aa Aa Aa (wv (Ao (i:=0) CH Aa Aa Aa) (Ax (b:=false) Aa Aa Aa (wv (K4 Aa Aa) (Ax (b:=false) Aa Aa Aa (wm Aa (AH (!decide (e.fCause=([]:AI))) (λc8=>?_) (λc8=>?_)))))))))))))))))
      ·refine wo c8 (wv (Ai BO Aa CG Aa Aa) (wo c8 (wv (Ao (i:=0) CH Aa Aa Aa) (wo c8 (Cy (rs:=[rS e.fCause]) (r:=rB (En e.fCause)) Ml Aa (MG e.fCause) Aa Aa (wo c8 (wv (B9 Aa) (Ax (b:=false) Aa Aa Aa (DU Aa c8 Aa (wv (r:=rB (!(En e.fCause))) (As (b:=false) Aa Aa Aa) (Ar ?_)))))))))));exact BY (And.intro c2 (And.intro c3 (And.intro c4 (And.intro c5 c8))))
      ·refine wf c8 (wf c8 (wf c8 (wf c8 (Ax (b:=false) Aa Aa Aa (wv (r:=rB false) (As (b:=!decide (e.fCause=([]:AI))) Aa c8 Aa) (wv (r:=rB false) (As (b:=false) Aa Aa Aa) (Ar ?_)))))));exact BY (And.intro c2 (And.intro c3 (And.intro c4 (And.intro c5 c8))))
 refine AG (b:=((!(En e.fID))||((!(En e.fTenant))||((!(En e.fSource))||(bif !decide (e.fKey=([]:AI)) then((!(En e.fKey))||((!decide (e.fCause=([]:AI)))&&(!(En e.fCause)))) else((!decide (e.fCause=([]:AI)))&&(!(En e.fCause)))))))) Aa (λc9=>?_) (λc9=>?_)
 ·have he:=AW c9 h;refine An (wv (r:=rI .i64 4) (Aj Aa) (A0 (Az (Al ?_))));obtain rfl:=A5 he;exact A1 (B4 Tryz.results58 (AM Aa)) (sS sN) ⟨Aa,Aa⟩
 ·have hd:=AX c9 h;refine AA (Bb (Aw (AC [(1,rv (.pointer (some ⟨b1,0,none⟩))),(48,rB ((decide (e.fAt<0))||(decide (1073741824<e.fAt))))] [.blk b1 (Ah e) 33] ?_ ?_)))
  ·refine At (wv (Ai BO Aa BD Aa Aa) (wv (Ao (i:=0) BE Aa Aa Aa) (wv (Eb Aa Aa) (wm Aa (AH (decide (e.fAt<0)) (λha=>?_) (λha=>?_))))))
   ·refine wf ha (wf ha (wf ha (wv (r:=rB true) (Am (b:=decide (e.fAt<0)) Aa ha Aa) (Ar ?_))));exact BY ha
   ·refine wo ha (wv (Ai BO Aa BD Aa Aa) (wo ha (wv (Ao (i:=0) BE Aa Aa Aa) (wo ha (wv (CP Aa Aa) (Ez Aa ha Aa (Ar ?_)))))));exact BY ha
  refine AG (b:=((decide (e.fAt<0))||(decide (1073741824<e.fAt)))) Aa (λhb=>?_) (λhb=>?_)
  ·have hf:=AW hb hd;refine An (wv (r:=rI .i64 2) (Aj Aa) (A0 (Az (Al ?_))));obtain rfl:=A5 hf;exact A1 (B4 Tryz.results58 (AM Aa)) (sS sN) ⟨Aa,Aa⟩
  ·have hg:=AX hb hd;refine AA (Bb (An (wv (Ai BO Aa J2 Aa Aa) (wv (Ao (i:=0) Lb Aa Aa Aa) ?_))));obtain⟨hh,hi,hj⟩:=Ba hg;refine DB Tryz.call76 (Np F e.fBody hh hi) Aa (wa Aa (A0 (Az ?_)));obtain rfl:=A5 hj;exact A1 (B4 Tryz.results58 (AM Aa)) (sS sN) ⟨Aa,Aa⟩
theorem Je (F:Nat)(a:A4)(b:A4)(r:Bool)(h:Dh F a b=some r):Fn Tryz.prog GE 42 [Bh (Ah a),Bh (Ah b)] [] (λR H=>R=rB r∧H=[]):=by
 refine enter (n:=52) Tryz.func42 Aa Tryz.ntmps42 Aa (λw Z=>?_);refine AN (l':=[(0,Bh (Ah a)),(1,Bh (Ah b))]) (H':=[]) Aa Aa ?_;unfold Dh at h;refine An (Bm Aa Aa (λb1=>?_));refine Bm Aa Aa (λb2=>?_);refine wv (r:=rB false) (Aj Aa) (A0 ?_);obtain⟨g3,h4⟩:=AK h;refine AC [(4,rB ((decide (a.fID=b.fID))&&((decide (a.fTenant=b.fTenant))&&((decide (a.fSource=b.fSource))&&((decide (a.fKey=b.fKey))&&((decide (a.fAt=b.fAt))&&((decide (a.fCause=b.fCause))&&(ov (H5 F a.fBody b.fBody)))))))))] [] ?_ ?_
 ·refine At (wv (Ai BO Aa CG Aa Aa) (wv (Ao (i:=1) CH Aa Aa Aa) (wv (Ai BO Aa CG Aa Aa) (wv (Ao (i:=0) CH Aa Aa Aa) (wv (Dq Aa Aa) (wm Aa (AH (decide (a.fID=b.fID)) (λc5=>?_) (λc5=>?_))))))))
  ·refine wo c5 (wv (Ai BO Aa CG Aa Aa) (wo c5 (wv (Ao (i:=1) CH Aa Aa Aa) (wo c5 (wv (Ai BO Aa CG Aa Aa) (wo c5 (wv (Ao (i:=0) CH Aa Aa Aa) (wo c5 (wv (Dq Aa Aa) (DU Aa c5 Aa (wm Aa (AH (decide (a.fTenant=b.fTenant)) (λc6=>?_) (λc6=>?_)))))))))))))
   ·refine wo c6 (wv (Ai BO Aa CG Aa Aa) (wo c6 (wv (Ao (i:=1) CH Aa Aa Aa) (wo c6 (wv (Ai BO Aa CG Aa Aa) (wo c6 (wv (Ao (i:=0) CH Aa Aa Aa) (wo c6 (wv (Dq Aa Aa) (DU Aa c6 Aa (wm Aa (AH (decide (a.fSource=b.fSource)) (λc7=>?_) (λc7=>?_)))))))))))))
    ·refine wo c7 (wv (Ai BO Aa CG Aa Aa) (wo c7 (wv (Ao (i:=1) CH Aa Aa Aa) (wo c7 (wv (Ai BO Aa CG Aa Aa) (wo c7 (wv (Ao (i:=0) CH Aa Aa Aa) (wo c7 (wv (Dq Aa Aa) (DU Aa c7 Aa (wm Aa (AH (decide (a.fKey=b.fKey)) (λc8=>?_) (λc8=>?_)))))))))))))
     ·refine wo c8 (wv (Ai BO Aa BD Aa Aa) (wo c8 (wv (Ao (i:=1) BE Aa Aa Aa) (wo c8 (wv (Ai BO Aa BD Aa Aa) (wo c8 (wv (Ao (i:=0) BE Aa Aa Aa) (wo c8 (wv (Bl Aa Aa) (DU Aa c8 Aa (wm Aa (AH (decide (a.fAt=b.fAt)) (λc9=>?_) (λc9=>?_)))))))))))))
      ·refine wo c9 (wv (Ai BO Aa CG Aa Aa) (wo c9 (wv (Ao (i:=1) CH Aa Aa Aa) (wo c9 (wv (Ai BO Aa CG Aa Aa) (wo c9 (wv (Ao (i:=0) CH Aa Aa Aa) (wo c9 (wv (Dq Aa Aa) (DU Aa c9 Aa (wm Aa (AH (decide (a.fCause=b.fCause)) (λha=>?_) (λha=>?_)))))))))))))
       ·refine wo ha (wv (Ai BO Aa J2 Aa Aa) (wo ha (wv (Ao (i:=1) Lb Aa Aa Aa) (wo ha (wv (Ai BO Aa J2 Aa Aa) (wo ha (wv (Ao (i:=0) Lb Aa Aa Aa) (wo ha (DB Tryz.call69 (OM F a.fBody b.fBody (ov (H5 F a.fBody b.fBody)) (Ls (Dw (Dw (Dw (Dw (Dw (Dw g3 c5) c6) c7) c8) c9) ha))) Aa (DU Aa ha Aa (wa Aa (Ar ?_))))))))))));exact BY (And.intro c5 (And.intro c6 (And.intro c7 (And.intro c8 (And.intro c9 ha)))))
       ·refine wf ha (wf ha (wf ha (wf ha (wf ha (wv (r:=rB false) (As (b:=decide (a.fCause=b.fCause)) Aa ha Aa) (wa Aa (Ar ?_)))))));exact BY (And.intro c5 (And.intro c6 (And.intro c7 (And.intro c8 (And.intro c9 ha)))))
      ·refine wf c9 (wf c9 (wf c9 (wf c9 (wf c9 (wv (r:=rB false) (As (b:=decide (a.fAt=b.fAt)) Aa c9 Aa) (wm Aa (Ad (b:=false) Aa Aa Aa Aa (Ad (b:=false) Aa Aa Aa Aa (Ad (b:=false) Aa Aa Aa Aa (Ad (b:=false) Aa Aa Aa Aa (Ad (b:=false) Aa Aa Aa Aa (wv (r:=rB false) (As (b:=false) Aa Aa Aa) (wa Aa (Ar ?_))))))))))))));exact BY (And.intro c5 (And.intro c6 (And.intro c7 (And.intro c8 c9))))
     ·refine wf c8 (wf c8 (wf c8 (wf c8 (wf c8 (wv (r:=rB false) (As (b:=decide (a.fKey=b.fKey)) Aa c8 Aa) (wm Aa (Ad (b:=false) Aa Aa Aa Aa (Ad (b:=false) Aa Aa Aa Aa (Ad (b:=false) Aa Aa Aa Aa (Ad (b:=false) Aa Aa Aa Aa (Ad (b:=false) Aa Aa Aa Aa (wv (r:=rB false) (As (b:=false) Aa Aa Aa) (wm Aa (Ad (b:=false) Aa Aa Aa Aa (Ad (b:=false) Aa Aa Aa Aa (Ad (b:=false) Aa Aa Aa Aa (Ad (b:=false) Aa Aa Aa Aa (Ad (b:=false) Aa Aa Aa Aa (wv (r:=rB false) (As (b:=false) Aa Aa Aa) (wa Aa (Ar ?_)))))))))))))))))))));exact BY (And.intro c5 (And.intro c6 (And.intro c7 c8)))
    ·refine wf c7 (wf c7 (wf c7 (wf c7 (wf c7 (wv (r:=rB false) (As (b:=decide (a.fSource=b.fSource)) Aa c7 Aa) (wm Aa (Ad (b:=false) Aa Aa Aa Aa (Ad (b:=false) Aa Aa Aa Aa (Ad (b:=false) Aa Aa Aa Aa (Ad (b:=false) Aa Aa Aa Aa (Ad (b:=false) Aa Aa Aa Aa (wv (r:=rB false) (As (b:=false) Aa Aa Aa) (wm Aa (Ad (b:=false) Aa Aa Aa Aa (Ad (b:=false) Aa Aa Aa Aa (Ad (b:=false) Aa Aa Aa Aa (Ad (b:=false) Aa Aa Aa Aa (Ad (b:=false) Aa Aa Aa Aa (wv (r:=rB false) (As (b:=false) Aa Aa Aa) (wm Aa (Ad (b:=false) Aa Aa Aa Aa (Ad (b:=false) Aa Aa Aa Aa (Ad (b:=false) Aa Aa Aa Aa ?_)))))))))))))))))))))));refine Ad (b:=false) Aa Aa Aa Aa (Ad (b:=false) Aa Aa Aa Aa (wv (r:=rB false) (As (b:=false) Aa Aa Aa) (wa Aa (Ar ?_))));exact BY (And.intro c5 (And.intro c6 c7))
   ·refine wf c6 (wf c6 (wf c6 (wf c6 (wf c6 (wv (r:=rB false) (As (b:=decide (a.fTenant=b.fTenant)) Aa c6 Aa) (wm Aa (Ad (b:=false) Aa Aa Aa Aa (Ad (b:=false) Aa Aa Aa Aa (Ad (b:=false) Aa Aa Aa Aa (Ad (b:=false) Aa Aa Aa Aa (Ad (b:=false) Aa Aa Aa Aa (wv (r:=rB false) (As (b:=false) Aa Aa Aa) (wm Aa (Ad (b:=false) Aa Aa Aa Aa (Ad (b:=false) Aa Aa Aa Aa (Ad (b:=false) Aa Aa Aa Aa (Ad (b:=false) Aa Aa Aa Aa (Ad (b:=false) Aa Aa Aa Aa (wv (r:=rB false) (As (b:=false) Aa Aa Aa) (wm Aa (Ad (b:=false) Aa Aa Aa Aa (Ad (b:=false) Aa Aa Aa Aa (Ad (b:=false) Aa Aa Aa Aa ?_)))))))))))))))))))))));refine Ad (b:=false) Aa Aa Aa Aa (Ad (b:=false) Aa Aa Aa Aa (wv (r:=rB false) (As (b:=false) Aa Aa Aa) (wm Aa (Ad (b:=false) Aa Aa Aa Aa (Ad (b:=false) Aa Aa Aa Aa (Ad (b:=false) Aa Aa Aa Aa (Ad (b:=false) Aa Aa Aa Aa (Ad (b:=false) Aa Aa Aa Aa (wv (r:=rB false) (As (b:=false) Aa Aa Aa) (wa Aa (Ar ?_)))))))))));exact BY (And.intro c5 c6)
  ·refine wf c5 (wf c5 (wf c5 (wf c5 (wf c5 (wv (r:=rB false) (As (b:=decide (a.fID=b.fID)) Aa c5 Aa) (wm Aa (Ad (b:=false) Aa Aa Aa Aa (Ad (b:=false) Aa Aa Aa Aa (Ad (b:=false) Aa Aa Aa Aa (Ad (b:=false) Aa Aa Aa Aa (Ad (b:=false) Aa Aa Aa Aa (wv (r:=rB false) (As (b:=false) Aa Aa Aa) (wm Aa (Ad (b:=false) Aa Aa Aa Aa (Ad (b:=false) Aa Aa Aa Aa (Ad (b:=false) Aa Aa Aa Aa (Ad (b:=false) Aa Aa Aa Aa (Ad (b:=false) Aa Aa Aa Aa (wv (r:=rB false) (As (b:=false) Aa Aa Aa) (wm Aa (Ad (b:=false) Aa Aa Aa Aa (Ad (b:=false) Aa Aa Aa Aa (Ad (b:=false) Aa Aa Aa Aa ?_)))))))))))))))))))))));refine Ad (b:=false) Aa Aa Aa Aa (Ad (b:=false) Aa Aa Aa Aa (wv (r:=rB false) (As (b:=false) Aa Aa Aa) (wm Aa (Ad (b:=false) Aa Aa Aa Aa (Ad (b:=false) Aa Aa Aa Aa (Ad (b:=false) Aa Aa Aa Aa (Ad (b:=false) Aa Aa Aa Aa (Ad (b:=false) Aa Aa Aa Aa (wv (r:=rB false) (As (b:=false) Aa Aa Aa) (wm Aa (Ad (b:=false) Aa Aa Aa Aa (Ad (b:=false) Aa Aa Aa Aa (Ad (b:=false) Aa Aa Aa Aa (Ad (b:=false) Aa Aa Aa Aa (Ad (b:=false) Aa Aa Aa Aa (wv (r:=rB false) (As (b:=false) Aa Aa Aa) (wa Aa (Ar ?_))))))))))))))))));exact BY c5
 refine Az ?_;obtain rfl:=A5 h4;exact A1 (B4 Tryz.results42 (AM Aa)) sN ⟨Aa,Aa⟩
end Go.Proofs.YthbbedliepkakaaGreatDoor.Q
namespace Go.Proofs.YthbbedliepkakaaGreatDoor
open Go
set_option linter.unusedVariables false
structure Bf where
 fVisible:Int
 fReceives:Int
 deriving DecidableEq,Inhabited
structure Av where
 fPolicy:Bf
 fWaiting:(List (AI×Int))
 fDead:(List A4)
 fNow:Int
 fArrived:Int
 deriving DecidableEq,Inhabited
def Kn (n:Int):Option (Bool):=
 some ((decide (0≤n))&&(decide (n≤1073741824)))
def OD (e:A4):Option (A4):=
 BN (L2 e.fBody) λr3=>some (A4.mk e.fID e.fTenant e.fSource e.fKey e.fAt e.fCause r3)
def Kr (p:Bf):Option ((Av×(List Ac))×Int):=
 BF (((decide (p.fVisible<1))||((decide (1073741824<p.fVisible))||((decide (p.fReceives<1))||(decide (10<p.fReceives)))))) (none) (some (((Av.mk p ([]:List (AI×Int)) ([]:List A4) 0 0),([]:List Ac)),0))
def Ns (p:Bf):Option (Unit×Int):=
 BF (((decide (p.fVisible<1))||((decide (1073741824<p.fVisible))||((decide (p.fReceives<1))||(decide (10<p.fReceives)))))) (some ((),2)) (none)
def Ks :Option (Bool):=
 some false
def IZ :Option (Bool):=
 some false
def Py (q:Av):Option (Bool):=
 some true
def Do (x4:Bool):Option (Bool):=
 some x4
def Ir (q:Av)(now:Int):Option (Bool):=
 BF (decide (q.fNow≤now)) (Do (decide (now≤1073741824))) (Do false)
def LD (q:Av)(x:Int)(x_p:(List Ac))(now:Int):Option (Bool):=
 Bo (decide (0≤x))<|Bo (CF x (x_p.length:Int))<|some ((decide (((Ab x_p x).fAt)≤now))&&(decide (q.fPolicy.fReceives≤((Ab x_p x).fReceives))))
def PR (x:Int)(x_p:(List Ac))(q:Av)(now:Int):Option (Bool):=
 BN (LD (Av.mk q.fPolicy [] ([]:List A4) q.fNow q.fArrived) x x_p now) λr1=>some r1
def DI (q:Av)(q_p2:(List Ac))(now:Int)(he:AI)(ha:Int)(hb:(List Int)):Option (Stp ((List Int)) (Out ((List Int)) ((List Int)))):=
 BN (PR ha q_p2 q now) λhd=>BF (hd) (Bo (KL 8 (hb.length+([ha]:List Int).length))<|some (.next (hb++([ha]:List Int)))) (some (.next hb))
def C7 (q_p2:(List Ac))(ha:(List Int)):Option ((List Int)):=
 Bo (ha.all (λi=>CF i (q_p2.length:Int)))<|Bo (EM (λx y:Int=>Cs (Ab q_p2 x).fAt (Ab q_p2 y).fAt (Ab q_p2 x).fPlace (Ab q_p2 y).fPlace) ha)<|Bo (Nat.blt ha.length 4611686018427387904)<|some (Kv (λx y:Int=>Cs (Ab q_p2 x).fAt (Ab q_p2 y).fAt (Ab q_p2 x).fPlace (Ab q_p2 y).fPlace) ha)
def Im (q:Av)(q_p2:(List Ac))(now:Int):Option ((List Int)):=
 MB q.fWaiting λord=>BN (KF (λpe τ=>DI q q_p2 now pe.1 pe.2 τ) ord ([]:List Int)) (BW λν=>C7 q_p2 ν)
def PH (x:Int)(x_p:(List Ac))(now:Int):Option (Bool):=
 Bo (decide (0≤x))<|Bo (CF x (x_p.length:Int))<|some (decide (((Ab x_p x).fAt)≤now))
def DF (q_p2:(List Ac))(now:Int)(he:AI)(ha:Int)(hb:(List Int)):Option (Stp ((List Int)) (Out ((List Int)) ((List Int)))):=
 BN (PH ha q_p2 now) λhd=>BF (hd) (Bo (KL 8 (hb.length+([ha]:List Int).length))<|some (.next (hb++([ha]:List Int)))) (some (.next hb))
def C4 (q_p2:(List Ac))(ha:(List Int)):Option ((List Int)):=
 Bo (ha.all (λi=>CF i (q_p2.length:Int)))<|Bo (EM (λx y:Int=>Cs (Ab q_p2 x).fAt (Ab q_p2 y).fAt (Ab q_p2 x).fPlace (Ab q_p2 y).fPlace) ha)<|Bo (Nat.blt ha.length 4611686018427387904)<|some (Kv (λx y:Int=>Cs (Ab q_p2 x).fAt (Ab q_p2 y).fAt (Ab q_p2 x).fPlace (Ab q_p2 y).fPlace) ha)
def Ij (q:Av)(q_p2:(List Ac))(now:Int):Option ((List Int)):=
 MB q.fWaiting λord=>BN (KF (λpe τ=>DF q_p2 now pe.1 pe.2 τ) ord ([]:List Int)) (BW λν=>C4 q_p2 ν)
def PN (x:Int)(x_p:(List Ac))(now:Int):Option (Bool):=
 Bo (decide (0≤x))<|Bo (CF x (x_p.length:Int))<|some (decide (((Ab x_p x).fAt)≤now))
def DH (q_p2:(List Ac))(now:Int)(he:AI)(ha:Int)(hb:(List Int)):Option (Stp ((List Int)) (Out ((List Int)) ((List Int)))):=
 BN (PN ha q_p2 now) λhd=>BF (hd) (Bo (KL 8 (hb.length+([ha]:List Int).length))<|some (.next (hb++([ha]:List Int)))) (some (.next hb))
def C6 (q_p2:(List Ac))(ha:(List Int)):Option ((List Int)):=
 Bo (ha.all (λi=>CF i (q_p2.length:Int)))<|Bo (EM (λx y:Int=>Cs (Ab q_p2 x).fAt (Ab q_p2 y).fAt (Ab q_p2 x).fPlace (Ab q_p2 y).fPlace) ha)<|Bo (Nat.blt ha.length 4611686018427387904)<|some (Kv (λx y:Int=>Cs (Ab q_p2 x).fAt (Ab q_p2 y).fAt (Ab q_p2 x).fPlace (Ab q_p2 y).fPlace) ha)
def Il (q:Av)(q_p2:(List Ac))(now:Int):Option ((List Int)):=
 MB q.fWaiting λord=>BN (KF (λpe τ=>DH q_p2 now pe.1 pe.2 τ) ord ([]:List Int)) (BW λν=>C6 q_p2 ν)
def PL (x:Int)(x_p:(List Ac))(q:Av)(now:Int):Option (Bool):=
 BN (LD (Av.mk q.fPolicy [] ([]:List A4) q.fNow q.fArrived) x x_p now) λr1=>some r1
def DG (q:Av)(q_p2:(List Ac))(now:Int)(he:AI)(ha:Int)(hb:(List Int)):Option (Stp ((List Int)) (Out ((List Int)) ((List Int)))):=
 BN (PL ha q_p2 q now) λhd=>BF (hd) (Bo (KL 8 (hb.length+([ha]:List Int).length))<|some (.next (hb++([ha]:List Int)))) (some (.next hb))
def C5 (q_p2:(List Ac))(ha:(List Int)):Option ((List Int)):=
 Bo (ha.all (λi=>CF i (q_p2.length:Int)))<|Bo (EM (λx y:Int=>Cs (Ab q_p2 x).fAt (Ab q_p2 y).fAt (Ab q_p2 x).fPlace (Ab q_p2 y).fPlace) ha)<|Bo (Nat.blt ha.length 4611686018427387904)<|some (Kv (λx y:Int=>Cs (Ab q_p2 x).fAt (Ab q_p2 y).fAt (Ab q_p2 x).fPlace (Ab q_p2 y).fPlace) ha)
def Ik (q:Av)(q_p2:(List Ac))(now:Int):Option ((List Int)):=
 MB q.fWaiting λord=>BN (KF (λpe τ=>DG q q_p2 now pe.1 pe.2 τ) ord ([]:List Int)) (BW λν=>C5 q_p2 ν)
end Go.Proofs.YthbbedliepkakaaGreatDoor
namespace Go.Proofs.YthbbedliepkakaaGreatDoor.Q
open Go Go.RowKit Go.Sort Go.Shelf Go.Proofs
set_option linter.unusedVariables false
set_option linter.unusedSimpArgs false
theorem LV {l:List Nat}{i:Nat}(h:i<l.length):l.getD i 0=l[i]:=by simp[List.getD,h]
def Dt (n:Nat)(i:Int):Nat:=if i.toNat<n∧0≤i then i.toNat else 0
theorem Hl {n:Nat}{i:Int}(h:CF i (n:Int)=true):Dt n i=i.toNat:=by
 have h0:=(Bt h).1;have h1:=(Bt h).2;unfold Dt;rw[if_pos ⟨by omega,h0⟩]
theorem Jw {n:Nat}(h:0<n)(i:Int):Dt n i<n:=by
 unfold Dt
 split
 ·rename_i h1;exact h1.1
 ·exact h
def M1 (bs:List Nat)(i:Int):Value:=.pointer (some ⟨bs.getD (Dt bs.length i) 0,0,none⟩)
theorem ON (bs:List Nat):OneCell (M1 bs):=λ_=>rfl
theorem JQ {α:Type}[Inhabited α]{raw:α→Value}{w:World}{g n:Nat}{os:Array Obj}{cur:Array Value}{e:TypeId}{fr:Nat×Nat}(d:Array α)(hb:w.heap[g]? =some (.cells cur e fr)) :
  (sortWorld raw w g 0 n d os).heap[g]? =some (.cells (putCells raw 0 d cur) e fr):=by
 have hg:g<w.heap.size:=(Array.getElem?_eq_some_iff.1 hb).1;unfold sortWorld;rw[heap_grow_old _ _ (by rw[Sort.size_putRow];exact hg)];simp[putRow,mapBlock,Sort.ahead,Array.getElem?_modify,hb,onCells]
theorem C2 {α:Type}[Inhabited α]{raw:α→Value}{w:World}{g n:Nat}{os:Array Obj}(d:Array α){j:Nat}(hj:j<w.heap.size)(hne:j≠g) :
  (sortWorld raw w g 0 n d os).heap[j]? =w.heap[j]?:=by
 unfold sortWorld;rw[heap_grow_old _ _ (by rw[Sort.size_putRow];exact hj)];simp[putRow,mapBlock,Sort.ahead,Array.getElem?_modify,Ne.symm hne]
theorem JD {α:Type}[Inhabited α]{raw:α→Value}{w:World}{g n:Nat}{os:Array Obj}(d:Array α):w.heap.size≤(sortWorld raw w g 0 n d os).heap.size:=by
 unfold sortWorld;rw[size_grow,Sort.size_putRow];exact Nat.le_add_right _ _
theorem Ms {α:Type}[Inhabited α](raw:α→Value)(cur:Array Value)(d:Array α)(h:d.size≤cur.size):(putCells raw 0 d cur).toList.take d.size=d.toList.map raw:=by
 apply List.ext_getElem?;intro j
 by_cases hj:j<d.size
 ·rw[List.getElem?_take_of_lt hj,Array.getElem?_toList];simp[putCells,hj,show j<cur.size by omega]
 ·rw[List.getElem?_take_eq_none (by omega),List.getElem?_eq_none (by simp;omega)]
theorem PT {P:Program}{E:Fz→Prop}{ρ:Ren}(L:SlLaysF.n6 P ρ){T:Type}[Inhabited T]{enc:T→List Rp}{te:TypeId}
  (cf:T→T→Int) (hO:SWO (ltOf cf)) {less:T→T→Bool} (hless:∀x y,less x y=ltOf cf x y) (hL:Q5 less)
  (g:Nat) (eg:∀args w,(callFunc g args).run P w = .ok (.enter g args) w)
  (hcmp:∀(x y:T) (b b':Nat) (us us':List Value) (Z:Fz) (W:World),W.heap[b]? =some (.cells us.toArray te (0,0))→W.heap[b']? =some (.cells us'.toArray te (0,0))→AL Z (enc x) us→AL Z (enc y) us'→
   Calls P g #[.pointer (some ⟨b,0,none⟩),.pointer (some ⟨b',0,none⟩)] W λe w'=>e = .returned (.int .i64 (cf x y))∧∃q os',w'=grow (W.drewN q) os')
  {v pv:Value} {e:TypeId} {k:Nat} {xs:List Int} {ps:List T} (hin:xs.all (λi=>CF i (ps.length:Int))=true) (hd:EM (λi j=>less (Ab ps i) (Ab ps j)) xs=true) (hsz:Nat.blt xs.length 4611686018427387904=true) :
  Fn P E (ρ.f 6) [rv v,rv (.func (.func g) #[] #[])] [.row v e 1 (xs.map (eP k)),.pool k pv te (ps.map enc)] (λR H=>R=rv (.tuple #[])∧H=[.row v e 1 ((Kv (λi j=>less (Ab ps i) (Ab ps j)) xs).map (eP k)),.pool k pv te (ps.map enc)]):=λw Z vs hv hs=>by
 have e0:vs=[v,.func (.func g) #[] #[]]:=AL.eq_rv (us:=[v,.func (.func g) #[] #[]]) hv;subst e0;have hsz':xs.length<4611686018427387904:=by simpa using hsz
 rw[RS] at hin;obtain⟨h0,us,⟨h2,h3⟩,h4⟩:=hs.ent (i:=0) rfl;obtain⟨hq0,hql,hq⟩:=hs.ent (i:=1) rfl;rcases h3 with⟨rfl,hz0⟩ | ⟨b,cap,cur,rfl,_,hb,hcap,hm,hcs,htk⟩
 ·simp at hz0;subst hz0;refine(AnyF.slices_SortFunc_none (P:=P) (ρ:=ρ) { L with } none 0 (.func (.func g) #[] #[]) w).mono ?_;rintro e' w' ⟨rfl,rfl⟩;exact⟨_,_,_,Z,rfl,⟨rfl,rfl⟩,rfl,hs⟩
 ·rw[RD] at hql;have hbl:(BS pv).length=ps.length:=hql;have hnm:∀i∈xs,Z.nm k i.toNat=some ((BS pv).getD (Dt (BS pv).length i) 0):=λi hi=>by
   have h5:=hin i hi;have h6:=(Bt h5).1;have h7:=(Bt h5).2;have hb':i.toNat<(BS pv).length:=by omega
   obtain⟨h8,_⟩:=hq i.toNat (BS pv)[i.toNat] (enc (ps[i.toNat]'(by omega))) (R9 hb') (by simp[show i.toNat<ps.length by omega]);rw[h8,hbl,Hl h5,LV hb']
  have hval:∀i∈xs,∀u,(B3 k i 0).p Z u→u=M1 (BS pv) i:=λi hi u hu=>by
   change J0 k i 0 Z u at hu
   unfold J0 at hu;rw[Sd (by have:=(Bt (hin i hi)).1;omega)] at hu;obtain⟨b',h5,h6⟩:=hu;rw[hnm i hi] at h5;rw[h6,← Option.some.inj h5];rfl
  have hback:∀i∈xs,(B3 k i 0).p Z (M1 (BS pv) i):=λi hi=>by
   show J0 k i 0 Z _;unfold J0;rw[Sd (by have:=(Bt (hin i hi)).1;omega)];exact⟨_,hnm i hi,rfl⟩
  have hus:∀(ys:List Int) (us:List Value),(∀i∈ys,i∈xs)→AL Z (ys.map (eP k)).flatten us→us=ys.map (M1 (BS pv)):=by
   intro ys
   induction ys with
   | nil=>
    intro us _ h
    cases us with
    | nil=>rfl
    | cons _ _=>exact absurd h id
   | cons y r ih=>
    intro us hy h
    cases us with
    | nil=>exact absurd h id
    | cons u us=>
     obtain⟨h5,h6⟩:=h;rw[hval y (hy y (by simp)) u h5,ih us (λi hi=>hy i (by simp[hi])) h6];rfl
  have hto:∀(ys:List Int),(∀i∈ys,i∈xs)→AL Z (ys.map (eP k)).flatten (ys.map (M1 (BS pv))):=by
   intro ys
   induction ys with
   | nil=>intro _;exact trivial
   | cons y r ih=>intro hy;exact⟨hback y (hy y (by simp)),ih (λi hi=>hy i (by simp[hi]))⟩
  have eus:=hus xs us (λ_ h=>h) h4;subst eus;simp only[RD,Nat.mul_one] at h2 hcap htk;have hblk:b<w.heap.size:=(Array.getElem?_eq_some_iff.1 hb).1;rcases Nat.eq_zero_or_pos xs.length with hx0 | hx0
  ·have hxn:xs=[]:=RI hx0;subst hxn;refine(AnyF.slices_SortFunc_none (P:=P) (ρ:=ρ) { L with } (some ⟨b,0,none⟩) cap (.func (.func g) #[] #[]) w).mono ?_;rintro e' w' ⟨rfl,rfl⟩;exact⟨_,_,_,Z,rfl,⟨rfl,rfl⟩,rfl,hs⟩
  ·have hpos:0<ps.length:=by
    obtain⟨x,hx⟩:=List.exists_mem_of_length_pos hx0;have:=Bt (hin x hx);omega
   let cfI:Int→Int→Int:=λi j=>cf (Ab ps (Dt ps.length i:Nat)) (Ab ps (Dt ps.length j:Nat))
   have hOI:SWO (ltOf cfI):=⟨λx=>hO.irrefl _,λx y z h1 h2=>hO.trans _ _ _ h1 h2,λx y z h1 h2=>hO.ntrans _ _ _ h1 h2⟩
   have hH:Holds (M1 (BS pv)) w b 0 xs.toArray:=by
    intro j hj;have hj':j<xs.length:=by simpa using hj
    refine⟨?_,by simp[World.frozen?,hb]⟩;have h5:(cur.toList.take xs.length)[j]? =(xs.map (M1 (BS pv)))[j]?:=by rw[htk]
    rw[List.getElem?_take_of_lt (by omega)] at h5;simp only[World.cell?,hb,RR,Option.isSome_none,RW,Sk];rw[← Array.getElem?_toList,h5];simp[hj']
   have hblkp:∀i:Nat,i<ps.length→∃us,w.heap[(BS pv).getD i 0]? =some (.cells us.toArray te (0,0))∧AL Z (enc (Ab ps (i:Int))) us∧(BS pv).getD i 0≠b:=λi hi=>by
    have hb':i<(BS pv).length:=by omega
    obtain⟨h8,us,h9,ha⟩:=hq i (BS pv)[i] (enc (ps[i]'hi)) (R9 hb') (by simp[hi]);rw[LV hb'];refine⟨us,h9,by rw[show Ab ps (i:Int)=ps[i] from by simp[Ab,hi]];exact ha,λe1=>?_⟩;have hdis:=hs.dis;rw[List.pairwise_cons] at hdis;exact hdis.1 (.pool k pv te (ps.map enc)) (by simp) b (by simp[Ent.foot,Value.ownBlock]) (by rw[← e1];exact List.getElem_mem hb')
   have hcl:CmpLays1 P g #[] (M1 (BS pv)) cfI b 0 xs.toArray.size w:=λm os dk hdk x y=>by
    obtain⟨ux,hx1,hx2,hx3⟩:=hblkp (Dt ps.length x) (Jw hpos x);obtain⟨uy,hy1,hy2,hy3⟩:=hblkp (Dt ps.length y) (Jw hpos y);have hxl:=(Array.getElem?_eq_some_iff.1 hx1).1;have hyl:=(Array.getElem?_eq_some_iff.1 hy1).1;have:=hcmp _ _ _ _ ux uy Z (sortWorld (M1 (BS pv)) w b 0 m dk os) (by rw[C2 dk hxl hx3];exact hx1) (by rw[C2 dk hyl hy3];exact hy1) hx2 hy2;simp only[M1,hbl];exact this
   have hsl:(Value.slice (some ⟨b,0,none⟩) (xs.map (eP k)).length cap) = .slice (some ⟨b,0,none⟩) xs.toArray.size cap:=by simp
   have hcon:=Any.slices_SortFunc (P:=P) (ρ:=ρ) L (M1 (BS pv)) (ON _) cfI hOI g #[] b 0 cap xs.toArray w eg hcl hH hblk (by simpa using hsz');have hargs:[Value.slice (some ⟨b,0,none⟩) (xs.map (eP k)).length cap,Value.func (.func g) #[] #[]].toArray = #[.slice (some ⟨b,0,none⟩) xs.toArray.size cap,.func (.func g) #[] #[]]:=by rw[hsl]
   rw[hargs];refine hcon.mono ?_;rintro e' w' ⟨rfl,d',n,os,hp,hsd,rfl⟩;have hds:d'.size=xs.length:=by simpa using hp.1
   have hperm:d'.toList.Perm xs:=by
    have:=hp.2.2;rw[Array.extract_eq_self_of_le (by rw[hp.1];exact RE _),Array.extract_eq_self_of_le (RE _)] at this;exact this
   have hmem:∀i∈d'.toList,i∈xs:=λi hi=>hperm.mem_iff.1 hi;have hpw:d'.toList.Pairwise λi j=>less (Ab ps j) (Ab ps i)=false:=by
    rw[List.pairwise_iff_getElem];intro i j hi hj hij;have hi':i<d'.size:=by simpa using hi
    have hj':j<d'.size:=by simpa using hj
    have:=hsd i j (Sl _) hij (by simpa[hds] using hj');rw[getElem!_pos d' j hj',getElem!_pos d' i hi'] at this;have ci:=Hl (hin _ (hmem _ (List.getElem_mem hi)));have cj:=Hl (hin _ (hmem _ (List.getElem_mem hj)));have ni:=(Bt (hin _ (hmem _ (List.getElem_mem hi)))).1;have nj:=(Bt (hin _ (hmem _ (List.getElem_mem hj)))).1;simp only[Array.getElem_toList] at ci cj ni nj ⊢;rw[hless];have h9:ltOf cfI d'[j] d'[i]=ltOf cf (Ab ps (Dt ps.length d'[j]:Nat)) (Ab ps (Dt ps.length d'[i]:Nat)):=rfl;rw[h9,ci,cj,Int.toNat_of_nonneg ni,Int.toNat_of_nonneg nj] at this;exact this
   have hLI:Q5 λi j:Int=>less (Ab ps i) (Ab ps j):=⟨λx=>hL.irrefl _,λx y z h1 h2=>hL.ntrans _ _ _ h1 h2,λx y h=>hL.asym _ _ h⟩
   have hxs:d'.toList=Kv (λi j=>less (Ab ps i) (Ab ps j)) xs:=PS hLI hd hperm hpw;have hl2:(Kv (λi j=>less (Ab ps i) (Ab ps j)) xs).length=xs.length:=(Gx _ xs).length_eq;have hset:=hs.set (i:=0) (w':=sortWorld (M1 (BS pv)) w b 0 n d' os) (e':=.row (.slice (some ⟨b,0,none⟩) (xs.map (eP k)).length cap) e 1 ((Kv (λi j=>less (Ab ps i) (Ab ps j)) xs).map (eP k))) rfl rfl rfl rfl (JD d') (λj hj hne=>C2 d' hj (λe1=>hne (by simp[Ent.foot,Value.ownBlock,e1])))
    ⟨λcl hcl=>by obtain⟨x,_,rfl⟩:=List.mem_map.1 hcl;rfl,d'.toList.map (M1 (BS pv)),⟨by simp[hds,hl2],.inr ⟨b,cap,_,by simp[hl2],Sl _,JQ d' hb,by simpa[hl2] using hcap,hm,by simpa[putCells] using hcs,by
     rw[RD,hl2,Nat.mul_one,← hds];exact Ms _ cur d' (by omega)⟩⟩,by rw[← hxs];exact hto _ hmem⟩ (by simp[Ent.foot,Value.ownBlock])
   exact⟨_,_,_,Z,rfl,⟨rfl,rfl⟩,rfl,hset⟩
open Go Go.Proofs Go.Sort
theorem Pc (x:Int)(w:World):Calls Tryz.prog 79 #[.int .i64 x] w λe w'=>e = .returned (.bool false)∧w'=w:=by
 go_enter Tryz.func79,Tryz.ntmps79
 go_wp2
 go_ret
 exact⟨by simp,rfl⟩
def JV (x y:Int):Int:=if x<y then -1 else if y<x then 1 else 0
set_option maxHeartbeats 1000000 in
theorem Jv (x y:Int)(w:World):Calls Tryz.prog 64 #[.int .i64 x,.int .i64 y] w λe w'=>e = .returned (.int .i64 (JV x y))∧w'=w:=by
 go_enter Tryz.func64,Tryz.ntmps64
 go_wp2_with (go_at_call 79;refine(Pc _ _).mono ?_;rintro e w' ⟨rfl,hw⟩;rw[hw])
 all_goals (go_ret;refine⟨?_,rfl⟩;unfold JV;(repeat' split)<;>first | rfl | (exfalso;omega))
def P0 (p q:Int):Int:=if p=0 then q else p
set_option maxHeartbeats 1000000 in
theorem Re (p q:Int)(b cap:Nat)(w:World)(h0:w.cell? ⟨b,0,none⟩=some (.int .i64 p))(h1:w.cell? ⟨b,1,none⟩=some (.int .i64 q)):Calls Tryz.prog 63 #[.slice (some ⟨b,0,none⟩) 2 cap] w λe w'=>e = .returned (.int .i64 (P0 p q))∧w'=w:=by
 by_cases hp:p=0
 ·have er:P0 p q=q:=by unfold P0;rw[if_pos hp]
  rw[er];have hp':(p !=0)=false:=by simp[hp]
  clear er
  by_cases hq:q=0
  ·have hq':(q !=0)=false:=by simp[hq]
   subst hp;subst hq
   go_enter Tryz.func63,Tryz.ntmps63
   go_wp2
   refine wp_loop_rounds 3 ?_;rw[rounds_succ]
   go_wp2
   rw[rounds_succ]
   go_wp2
   rw[rounds_succ]
   go_wp2
   go_ret
   exact⟨rfl,rfl⟩
  ·have hq':(q !=0)=true:=by simp[hq]
   subst hp
   go_enter Tryz.func63,Tryz.ntmps63
   go_wp2
   refine wp_loop_rounds 3 ?_;rw[rounds_succ]
   go_wp2
   rw[rounds_succ]
   go_wp2
   go_ret
   exact⟨rfl,rfl⟩
 ·have er:P0 p q=p:=by unfold P0;rw[Sd hp]
  rw[er];have hp':(p !=0)=true:=by simp[hp]
  clear er hp
  go_enter Tryz.func63,Tryz.ntmps63
  go_wp2
  refine wp_loop_rounds 3 ?_;rw[rounds_succ]
  go_wp2
  go_ret
  exact⟨rfl,rfl⟩
theorem Ln {P:Program}{id:Nat}{Q:Exit→Act→World→Prop}{a:Act}{w:World}{l:List Oper}(n:Nat)(hm:P.follows .mixedOrders=true)(hB:Region.lexTailB .any l.toArray n=true)
  (h:∀w2,w2=World.drew w→wpStill P l.toArray w2 (λa'=>wpList P l.toArray Q (l.drop n) a' w2) (l.take n) a):(Code.region id l.toArray true).wp P Q a w:=wp_region_still_tail n hm hB (h _ rfl)
theorem KU (w:World)(cs:Array Value)(e:TypeId)(j:Nat):(w.alloc (.cells cs e)).cell? ⟨w.heap.size,j,none⟩=cs[j]?:=by
 have h:(w.alloc (.cells cs e)).heap[w.heap.size]? =some (.cells cs e):=by simpa using heap_alloc_new w _
 unfold World.cell?;simp only[h];rfl
theorem Lz (w:World)(o:Obj):w.alloc o=grow w #[o]:=by unfold grow World.alloc;simp
set_option maxRecDepth 100000 in
set_option maxHeartbeats 1000000 in
theorem Qd (b b':Nat)(n1 n2 p1 p2:Int)(W:World)(ha:W.cell? ⟨b,7,none⟩=some (.int .i64 n1))(hb:W.cell? ⟨b,10,none⟩=some (.int .i64 p1))(c20:W.cell? ⟨b',7,none⟩=some (.int .i64 n2))(c21:W.cell? ⟨b',10,none⟩=some (.int .i64 p2)) :
  Calls Tryz.prog 62 #[.pointer (some ⟨b,0,none⟩),.pointer (some ⟨b',0,none⟩)] W λe w'=>e = .returned (.int .i64 (P0 (JV n1 n2) (JV p1 p2)))∧∃q os',w'=grow (W.drewN q) os':=by
 have hci:=λW=>Jv n1 n2 W;have hcs:=λW=>Jv p1 p2 W;generalize JV n1 n2=r1 at hci ⊢;generalize JV p1 p2=r2 at hcs ⊢
 go_enter Tryz.func62,Tryz.ntmps62
 go_wp2
 have hm:Tryz.prog.follows .mixedOrders=true:=by kernel_rfl
 refine Ln 18 hm (by kernel_rfl) ?_;intro W2 hW2;have hd:W2.cell? ⟨b,7,none⟩=some (.int .i64 n1):=by rw[hW2];exact ha
 have he:W2.cell? ⟨b,10,none⟩=some (.int .i64 p1):=by rw[hW2];exact hb
 have hf:W2.cell? ⟨b',7,none⟩=some (.int .i64 n2):=by rw[hW2];exact c20
 have hh:W2.cell? ⟨b',10,none⟩=some (.int .i64 p2):=by rw[hW2];exact c21
 have hg:∃q os',W2=grow (W.drewN q) os':=⟨1,#[],by
  have e:grow (W.drewN 1) #[]=W.drewN 1:=by simp only[grow,Array.append_empty]
  rw[hW2,e];rfl⟩
 clear hW2 ha hb c20 c21;simp only[List.take_succ_cons,List.take_zero,List.drop_succ_cons,List.drop_zero]
 still_step
 still_step
 still_step
 still_step
 still_step
 still_step
 still_step
 still_step
 still_call (hci _)
 still_step
 still_step
 still_step
 still_step
 still_step
 still_step
 still_step
 still_step
 still_call (hcs _)
 refine wpStill_nil ?_
 go_wp2_with (go_at_call 63;refine(Re r1 r2 _ _ _ (KU _ _ _ 0) (KU _ _ _ 1)).mono ?_;rintro e w' ⟨rfl,rfl⟩)
 go_ret
 obtain⟨q,os',rfl⟩:=hg;exact⟨rfl,q,_,by rw[Lz,grow_grow]⟩
end Go.Proofs.YthbbedliepkakaaGreatDoor.Q
