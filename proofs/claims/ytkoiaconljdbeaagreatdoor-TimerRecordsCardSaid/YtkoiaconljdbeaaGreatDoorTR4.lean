/-
  Texts of the proof, put together: QM, QI, QW, QV, PH, QJ, QX, QL, WTa, QK, PTb, QP, SoC, SoT, SoL, SoQ, keys32, collect31, QCo, WTb, PTc, WTc, PTd, WTd, PFr, QH, QY, WFr, PTe.
-/
import Derived.Test.YtkoiaconljdbeaaGreatDoorTR3
import Derived.MapKept
import Derived.Maps.RangeRun
import GoSem.Op.IntBits
import GoSem.Op.Shift
import Derived.ScopeJumps
import Derived.Laws.CopyRow
import Derived.Laws.IdiomCopy
import Derived.Laws.OwnMore
import Derived.Sort.KeysCollected
import Derived.Shelf.SlSortCmp.NoneTotal
import Derived.Test.YtkoiaconljdbeaaGreatDoorProg
import Derived.Tactics
import Derived.Lib.Small
import Derived.Lib.Walk
import Derived.Sort.Grow
import Derived.Deep.QuietTactic
import Derived.BigQuiet
import Derived.LoopN
import Derived.StillTailTactics
import Derived.Shelf.SlLaysZ
import Derived.Shelf.SlIter.Collect
namespace Go.Proofs.YtkoiaconljdbeaaGreatDoor.Q
open Go Go.RowKit
set_option linter.unusedVariables false
set_option linter.unusedSimpArgs false
theorem Gg (s:ByteArray):MapKept.IsKey .string (.string s):=by simp[MapKept.IsKey]
theorem Jd.keys {Z:Fz}:∀{f:List (List UInt8×Rp)} {es:List MapEntry},Jd Z f es→∀x∈es,MapKept.IsKey .string x.key
 | [],[],_,x,hx=>by cases hx
 | p::f,e::es,⟨⟨h1,h2⟩,h3⟩,x,hx=>by
  rcases List.mem_cons.1 hx with rfl | hx
  ·rw[h1];exact Gg _
  ·exact Jd.keys h3 x hx
theorem Jd.at {Z:Fz}:∀{f:List (List UInt8×Rp)} {es:List MapEntry},Jd Z f es→f.length=es.length∧∀(j:Nat) (e:MapEntry),es[j]? =some e→∃k r,f[j]? =some (k,r)∧e.key = .string (B k)∧r.p Z e.val
 | [],[],_=>⟨rfl,λj e h=>by simp at h⟩
 | p::f,e::es,⟨⟨h1,h2⟩,h3⟩=>by
  obtain⟨hl,ha⟩:=Jd.at h3;refine⟨by simp[hl],λj e' hj=>?_⟩
  cases j with
  | zero=>simp at hj;subst hj;exact⟨p.1,p.2,rfl,h1,h2⟩
  | succ j=>simp at hj;simpa using ha j e' hj
theorem Jd.of {Z:Fz}:∀{f:List (List UInt8×Rp)} {es:List MapEntry},f.length=es.length→(∀(j:Nat) (e:MapEntry),es[j]? =some e→∃k r,f[j]? =some (k,r)∧e.key = .string (B k)∧r.p Z e.val)→Jd Z f es
 | [],[],_,_=>trivial
 | p::f,e::es,hl,h=>by
  obtain⟨k,r,h1,h2,h3⟩:=h 0 e rfl;simp at h1;subst h1;exact⟨⟨h2,h3⟩,Jd.of (by simpa using hl) λj e' hj=>by simpa using h (j+1) e' (by simpa using hj)⟩
 | [],_::_,hl,_=>by simp at hl
 | _::_,[],hl,_=>by simp at hl
theorem Jd.snoc {Z:Fz}{k:List UInt8}{r:Rp}{e:MapEntry}(h1:e.key = .string (B k))(h2:r.p Z e.val):∀{f:List (List UInt8×Rp)} {es:List MapEntry},Jd Z f es→Jd Z (f++[(k,r)]) (es++[e])
 | [],[],_=>⟨⟨h1,h2⟩,trivial⟩
 | p::f,e'::es,⟨h,h3⟩=>⟨h,Jd.snoc h1 h2 h3⟩
theorem Jd.filter {Z:Fz}(q:MapEntry→Bool):∀{f:List (List UInt8×Rp)} {es:List MapEntry},Jd Z f es→∃g,Jd Z g (es.filter q)∧g.Sublist f
 | [],[],_=>⟨[],trivial,List.Sublist.refl _⟩
 | p::f,e::es,⟨h,h3⟩=>by
  obtain⟨g,hg,hs⟩:=Jd.filter q h3
  cases hq:q e with
  | true=>exact⟨p::g,by rw[List.filter_cons_of_pos hq];exact⟨h,hg⟩,hs.cons_cons p⟩
  | false=>exact⟨g,by rw[List.filter_cons_of_neg (by simp[hq])];exact hg,hs.cons p⟩
theorem QD {T:Type}:∀{m:List (Ah×T)} {k:Ah} {r:T},(m.map (·.1)).Nodup→(k,r)∈m→CG m k=some r
 | p::m,k,r,hn,h=>by
  rw[Ab6,List.nodup_cons] at hn;rw[CG];rcases List.mem_cons.1 h with h | h
  ·subst h;rw[AaU rfl];rfl
  ·have hne : ¬ p.1=k:=λe=>hn.1 (by rw[e];exact List.mem_map.2 ⟨(k,r),h,rfl⟩);rw[AaR hne];exact QD hn.2 h
theorem O4 {T:Type}:∀{m:List (Ah×T)} {k:Ah},(∀p∈m,p.1≠k)→CG m k=none
 | [],_,_=>rfl
 | p::m,k,h=>by
  rw[CG,AaR (h p (by simp))];exact O4 λq hq=>h q (by simp[hq])
theorem Aaf {a b:List UInt8}(h:B a=B b):a=b:=by
 have:=congrArg ByteArray.toList h
 rwa [Ew,Ew] at this
theorem KM {a b:List UInt8}(h:Value.string (B a) = .string (B b)):a=b:=Aaf (by cases h;rfl)
theorem Pw {Z:Fz}{m:List (List UInt8×Rp)}{es:List MapEntry}{ck:Nat}(h:Gv Z m es ck)(k:List UInt8) :
  (Instr.findNow .string (.string (B k)) es 0=some none∧CG m k=none∧∀p∈m,p.1≠k)∨∃j e r,Instr.findNow .string (.string (B k)) es 0=some (some (j,e.val))∧es[j]? =some e∧e.key = .string (B k)∧CG m k=some r∧r.p Z e.val:=by
 obtain⟨h1,h2,h3,f,h4,h5⟩:=h;obtain⟨hl,ha⟩:=h5.at;rcases MapKept.findNow_spec (Gg (B k)) es 0 h5.keys with⟨q1,q2⟩ | ⟨j,e,q1,q2,q3⟩
 ·have hne:∀p∈m,p.1≠k:=λp hp e=>by
   obtain⟨j,hj⟩:=List.mem_iff_getElem?.1 (h4.symm.subset hp);have hjl:j<es.length:=by rw[← hl];exact(List.getElem?_eq_some_iff.1 hj).1
   obtain⟨k',r',e1,e2,_⟩:=ha j es[j] (AaY hjl);rw[hj] at e1;cases e1;exact q2 es[j] (List.getElem_mem hjl) (by rw[e2,← e])
  exact .inl ⟨q1,O4 hne,hne⟩
 ·obtain⟨k',r,e1,e2,e3⟩:=ha j e q2;rw[q3] at e2;obtain rfl:=KM e2;exact .inr ⟨j,e,r,by simpa using q1,q2,q3,QD h1 (h4.subset (Abh e1)),e3⟩
section
variable {P : Program} {n : Nat} {c : Cx} {ops : Array Oper} {Q : Exit → Act → World → Prop} {rest : List Oper} {l : Fr} {H : List Ent} {d : Nat} {d' : Option Nat} {ty t kt et rty : TypeId} {pos : String} {af : Array Edge} {g : Option (Nat × Bool)} {x y u : Operand} {K : Act → World → Prop} {cx : Code}
variable {T : Type} {enc : T → Rp} {xs : List (Ah × T)} {z : T} {k : Ah} {zv : Value} {i b : Nat}
theorem Ke {Z:Fz}{w:World}{m:List (List UInt8×Rp)}{rz:Rp}(ht:P.underlying t=some (.map kt et))(hk:P.underlying kt=some .string)(hz:∀w,(zeroValue et).run P w = .ok zv w)(hzr:rz.p Z zv)(hm:(Ent.map b m).holds Z w)(ok:Bool) :
  ∃v,((CG m k).getD rz).p Z v∧(Instr.lookup t (.map (some b)) (.string (B k)) ok).run P w = .ok (if ok then .tuple #[v,.bool (CG m k).isSome] else v) w:=by
 obtain⟨es,ck,h1,h2⟩:=hm;rcases Pw h2 k with⟨q1,q2,_⟩ | ⟨j,e,r,q1,_,_,q2,q3⟩
 ·exact⟨zv,by rw[q2];exact hzr,by simp[Instr.lookup,run_underlying ht,MapKept.run_getObj_map h1,MapKept.run_checkKey hk (Gg _),MapKept.run_findKey hk q1,hz,q2]⟩
 ·exact⟨e.val,by rw[q2];exact q3,by simp[Instr.lookup,run_underlying ht,MapKept.run_getObj_map h1,MapKept.run_checkKey hk (Gg _),MapKept.run_findKey hk q1,q2]⟩
theorem QR (enc:T→Rp)(xs:List (Ah×T))(k:Ah)(z:T):(CG (BC enc xs) k).getD (enc z)=enc (Bg xs k z):=by
 rw[Li];unfold Bg;cases CG xs k<;>rfl
theorem RQ (enc:T→Rp)(xs:List (Ah×T))(k:Ah):(CG (BC enc xs) k).isSome=GQ xs k:=by
 rw[Li];unfold GQ;cases CG xs k<;>rfl
theorem SF (ht:P.underlying t=some (.map kt et))(hk:P.underlying kt=some .string)(hz:∀w,(zeroValue et).run P w = .ok zv w)(hzr:∀Z,(enc z).p Z zv)(hx:ev l x=some (rv (.map (some b))))(hi:H[i]? =some (.map b (BC enc xs)))(hy:ev l y=some (rS k)) :
  Bv P n c l H { dst:=d',op:=.lookup t x y true,type:=ty,pos:=pos,after:=af,guard:=g } (C5 [enc (Bg xs k z),rB (GQ xs k)]):=λa w Z ha hw=>by
 obtain⟨v,h1,h2⟩:=Ke (k:=k) ht hk hz (hzr Z) (hw.ent hi) true;rw[QR] at h1;refine⟨.tuple #[v,.bool (GQ xs k)],⟨[v,.bool (GQ xs k)],rfl,h1,rfl,trivial⟩,?_⟩;rw[RQ] at h2;simp[execOp,ha.eval hx,ha.eval hy,h2]
theorem VN (ht:P.underlying t=some (.map kt et))(hk:P.underlying kt=some .string)(hz:∀w,(zeroValue et).run P w = .ok zv w)(hzr:∀Z,(enc z).p Z zv)(hx:ev l x=some (rv (.map (some b))))(hi:H[i]? =some (.map b (BC enc xs)))(hy:ev l y=some (rS k)) :
  Bv P n c l H { dst:=d',op:=.lookup t x y false,type:=ty,pos:=pos,after:=af,guard:=g } (enc (Bg xs k z)):=λa w Z ha hw=>by
 obtain⟨v,h1,h2⟩:=Ke (k:=k) ht hk hz (hzr Z) (hw.ent hi) false;rw[QR] at h1;simp only[Aba,Abv] at h2;exact⟨v,h1,by simp[execOp,ha.eval hx,ha.eval hy,h2]⟩
theorem Gv.length {Z:Fz}{m:List (List UInt8×Rp)}{es:List MapEntry}{ck:Nat}(h:Gv Z m es ck):es.length=m.length:=by
 obtain⟨_,_,_,f,h4,h5⟩:=h;rw[← h5.at.1,h4.length_eq]
theorem YY {m:List (List UInt8×Rp)}{N:Nat}(ht:P.underlying t=some (.map kt et))(hx:ev l x=some (rv (.map (some b))))(hi:H[i]? =some (.map b m))(hN:m.length=N) :
  Bv P n c l H { dst:=d',op:=.call { callee:=.builtin .len,args:=#[x],argTypes:=#[t] },type:=ty,pos:=pos,after:=af,guard:=g } (rI .i64 N):=λa w Z ha hw=>CZ<|by
 obtain⟨es,ck,h1,h2⟩:=hw.ent hi;have hl:es.size=N:=by rw[← hN,← h2.length];simp
 simp[execOp,resolve,invoke,builtin,ha.eval hx,Builtin.len_,run_underlying ht,goInt,MapKept.run_getObj_map h1,hl]
theorem TU {v:Option Nat}(ht:P.underlying t=some (.map kt et))(hx:ev l x=some (rv (.map v))):Bv P n c l H { dst:=d',op:=.binOp .neq t x (.const (.map none)) rty,type:=ty,pos:=pos,after:=af,guard:=g } (rB (!v.isNone)):=λa w Z ha hw=>CZ<|by
 have e2:a.eval (.const (.map none)) = .map none:=rfl;have h:=run_equal_map_nil (P:=P) w t kt et v ht;simp[execOp,ha.eval hx,e2,eqGuard,binOp,h]
theorem Tr (hn:Nat.blt d n=true)(h:∀b,WL P n c ops Q rest ((d,rv (.map (some b)))::l) (.map b []::H)) :
  WL P n c ops Q ({ dst:=some d,op:=.makeMap t none,type:=ty,pos:=pos,after:=af,guard:=none }::rest) l H:=
 JY (λa w Z ha hw=>⟨_,w.alloc (.map #[] 0),_,_,Z,by simp[execOp,run_makeMap],Fz.le.refl _,rfl,
  hw.alloc _ (e:=.map w.heap.size []) ⟨#[],0,by simpa using heap_alloc_new w _,by simp,by simp,by simp,[],AaP _,trivial⟩ rfl,h w.heap.size⟩) hn
theorem V4 {m f:List (Ah×Rp)}(h:f.Perm m)(k:Ah)(r:Rp):(mput f k r).Perm (mput m k r):=h.map _
theorem SK {T:Type}:∀{f:List (Ah×T)} {j:Nat} {k:Ah} {r0:T} (r:T),(f.map (·.1)).Nodup→f[j]? =some (k,r0)→mput f k r=f.set j (k,r)
 | p::f,0,k,r0,r,hn,h=>by
  simp at h;subst h;rw[Ab6,List.nodup_cons] at hn;have:mput f k r=f:=by
   unfold mput;rw[List.map_congr_left (g:=id) (λq hq=>?_),List.map_id];have hne : ¬ q.1=k:=λe=>hn.1 (by rw[← e];exact List.mem_map.2 ⟨q,hq,rfl⟩);rw[AaR hne];rfl
  show(bif decide (k=k) then(k,r) else(k,r0))::mput f k r=_;rw[AaU rfl,this];rfl
 | p::f,j+1,k,r0,r,hn,h=>by
  rw[Ab6,List.nodup_cons] at hn;simp at h;have hne : ¬ p.1=k:=λe=>hn.1 (by rw[e];exact List.mem_map.2 ⟨(k,r0),Abh h,rfl⟩);show(bif decide (p.1=k) then(k,r) else p)::mput f k r=_;rw[AaR hne,SK r hn.2 h];rfl
theorem SL {T:Type}:∀{f:List (Ah×T)} {j:Nat} {k:Ah} {r0:T},(f.map (·.1)).Nodup→f[j]? =some (k,r0)→mdel f k=f.eraseIdx j
 | p::f,0,k,r0,hn,h=>by
  simp at h;subst h;rw[Ab6,List.nodup_cons] at hn;have:f.filter (λq=>!decide (q.1=k))=f:=List.filter_eq_self.2 λq hq=>by
   have hne : ¬ q.1=k:=λe=>hn.1 (by rw[← e];exact List.mem_map.2 ⟨q,hq,rfl⟩);simp[hne]
  unfold mdel;rw[List.filter_cons_of_neg (by simp),this];rfl
 | p::f,j+1,k,r0,hn,h=>by
  rw[Ab6,List.nodup_cons] at hn;simp at h;have hne : ¬ p.1=k:=λe=>hn.1 (by rw[e];exact List.mem_map.2 ⟨(k,r0),Abh h,rfl⟩);unfold mdel;rw[List.filter_cons_of_pos (by simp[hne])];show p::mdel f k=_;rw[SL hn.2 h];rfl
theorem Ua {T:Type}(m:List (Ah×T))(k:Ah)(r:T):(mput m k r).map (·.1)=m.map (·.1):=by
 unfold mput;rw[AbJ];refine List.map_congr_left λp _=>?_;simp only[Function.comp]
 by_cases h:p.1=k
 ·rw[AaU h];exact h.symm
 ·rw[AaR h];rfl
theorem Ub {T:Type}{m:List (Ah×T)}{k:Ah}{r:T}(h:CG m k=some r):GQ m k=true:=by unfold GQ;rw[h];rfl
theorem Uc {T:Type}{m:List (Ah×T)}{k:Ah}(h:CG m k=none):GQ m k=false:=by unfold GQ;rw[h];rfl
theorem Gv.put {Z:Fz}{m:List (Ah×Rp)}{es:List MapEntry}{ck j:Nat}{e:MapEntry}{k:Ah}{r0 r:Rp}{v:Value}(h:Gv Z m es ck)(he:es[j]? =some e)(hk:e.key = .string (B k))(hm:CG m k=some r0)(hr:r.p Z v) :
  Gv Z (mset m k r) (es.set j { e with key:=.string (B k),val:=v }) ck:=by
 obtain⟨h1,h2,h3,f,h4,h5⟩:=h;obtain⟨hl,ha⟩:=h5.at;have hjl:=(List.getElem?_eq_some_iff.1 he).1;unfold mset;rw[Ub hm,AaQ];obtain⟨k',r',e1,e2,_⟩:=ha j e he;rw[hk] at e2;obtain rfl:=KM e2;have hfn:(f.map (·.1)).Nodup:=(h4.map (·.1)).nodup_iff.2 h1;refine⟨by rw[Ua];exact h1,?_,?_,f.set j (k,r),?_,Jd.of (by simp[hl]) λi x hx=>?_⟩
 ·rw[List.map_set];have:(es.map (·.born)).set j e.born=es.map (·.born):=by
   apply List.ext_getElem?;intro i;rw[List.getElem?_set]
   split
   ·rename_i hij;subst hij
    simp[hjl,List.getElem?_eq_some_iff.1 he |>.2]
   ·rfl
  show((es.map (·.born)).set j e.born).Nodup;rw[this];exact h2
 ·intro x hx;rcases List.mem_or_eq_of_mem_set hx with hx | rfl
  ·exact h3 x hx
  ·exact h3 e (Abh he)
 ·have:=V4 h4 k r
  rwa [SK r hfn e1] at this
 ·rw[List.getElem?_set] at hx ⊢
  split at hx
  ·rename_i hij;subst hij
   cases hx
   exact⟨k,r,by rw[AbD rfl,AbD (by rw[hl];exact hjl)],rfl,hr⟩
  ·rename_i hij
   rw[Abw hij];exact ha i x hx
theorem Gv.ins {Z:Fz}{m:List (Ah×Rp)}{es:List MapEntry}{ck:Nat}{k:Ah}{r:Rp}{v:Value}(h:Gv Z m es ck)(hm:CG m k=none)(hk:∀p∈m,p.1≠k)(hr:r.p Z v) :
  Gv Z (mset m k r) (es++[{ key:=.string (B k),val:=v,born:=ck }]) (ck+1):=by
 obtain⟨h1,h2,h3,f,h4,h5⟩:=h;unfold mset;rw[Uc hm,AaN];have hp:=LH k r m;refine⟨?_,?_,?_,f++[(k,r)],?_,Jd.snoc rfl hr h5⟩
 ·rw[(hp.map (·.1)).nodup_iff,Ab6,List.nodup_cons];exact⟨λhx=>by obtain⟨p,hp,e⟩:=List.mem_map.1 hx;exact hk p hp e,h1⟩
 ·rw[AbI,List.nodup_append];refine⟨h2,by simp,λa ha b hb e=>?_⟩;simp at hb;subst hb;obtain⟨x,hx,e'⟩:=List.mem_map.1 ha;have:=h3 x hx;omega
 ·intro x hx;rcases List.mem_append.1 hx with hx | hx
  ·have:=h3 x hx;omega
  ·simp at hx;subst hx;exact AaX _
 ·exact(List.perm_append_comm (l₁:=f) (l₂:=[(k,r)])).trans ((h4.cons (k,r)).trans hp.symm)
theorem Gv.del {Z:Fz}{m:List (Ah×Rp)}{es:List MapEntry}{ck j:Nat}{e:MapEntry}{k:Ah}(h:Gv Z m es ck)(he:es[j]? =some e)(hk:e.key = .string (B k)):Gv Z (mdel m k) (es.eraseIdx j) ck:=by
 obtain⟨h1,h2,h3,f,h4,h5⟩:=h;obtain⟨hl,ha⟩:=h5.at;obtain⟨k',r',e1,e2,_⟩:=ha j e he;rw[hk] at e2;obtain rfl:=KM e2;have hfn:(f.map (·.1)).Nodup:=(h4.map (·.1)).nodup_iff.2 h1;have hs:=List.eraseIdx_sublist es j;refine⟨h1.sublist ((List.filter_sublist ..).map _),h2.sublist (hs.map _),λx hx=>h3 x (hs.subset hx),f.eraseIdx j,?_,Jd.of (by rw[List.length_eraseIdx,List.length_eraseIdx,hl]) λi x hx=>?_⟩
 ·rw[← SL hfn e1];exact h4.filter _
 ·rw[List.getElem?_eraseIdx] at hx ⊢
  split at hx
  ·rename_i hij;rw[AbD hij];exact ha i x hx
  ·rename_i hij;rw[Abw hij];exact ha (i+1) x hx
theorem Ue {m:List (Ah×Rp)}{k:Ah}(hk:∀p∈m,p.1≠k):mdel m k=m:=List.filter_eq_self.2 λp hp=>by simp[hk p hp]
theorem St.mapset {Z:Fz}{w:World}(h:St c H Z w){m m':List (Ah×Rp)}(hi:H[i]? =some (.map b m)){es es':Array MapEntry}{ck ck':Nat}(h1:w.heap[b]? =some (.map es ck))(h2:Gv Z m' es'.toList ck') :
  St c (H.set i (.map b m')) Z { w with heap:=w.heap.setIfInBounds b (.map es' ck') }:=by
 obtain⟨q1,q2⟩:=MapKept.heap_set (o':=.map es' ck') h1;exact h.set hi rfl rfl rfl (by simp) (λk _ hk=>q2 k (by simpa[Ent.foot] using hk)) ⟨es',ck',q1,h2⟩ (by simp[Ent.foot])
theorem OY (s:ByteArray):Instr.sameBits 10000 (.string s) (.string s)=true:=by
 show(s ==s)=true;exact(MapKept.bytes_beq s s).2 rfl |> λh=>by simpa using h
theorem YL {r:Rp}{m:List (Ah×Rp)}(ht:P.underlying t=some (.map kt et))(hk:P.underlying kt=some .string)(hx:ev l x=some (rv (.map (some b))))(hi:H[i]? =some (.map b m))(hy:ev l y=some (rS k))(hu:ev l u=some r){H':List Ent}(hH:H.set i (.map b (mset m k r))=H')(h:WL P n c ops Q rest l H') :
  WL P n c ops Q ({ dst:=none,op:=.mapUpdate t x y u,type:=ty,pos:=pos,after:=af,guard:=none }::rest) l H:=
 OP λa w Z ha hw=>by
  obtain⟨es,ck,h1,h2⟩:=hw.ent hi;have hv:=ha.ev hu;subst hH;rcases Pw h2 k with⟨q1,q2,q3⟩ | ⟨j,e,r0,q1,q2,q3,q4,_⟩
  ·refine⟨_,_,?_,hw.mapset hi h1 (es':=es.push { key:=.string (B k),val:=a.eval u,born:=ck }) (by simpa using h2.ins q2 q3 hv),h⟩;simp[execOp,ha.eval hx,ha.eval hy,Instr.mapUpdate,run_underlying ht,MapKept.run_getObj_map h1,MapKept.run_checkKey hk (Gg _),MapKept.run_findKey hk q1,MapKept.run_setObj_map _ h1]
  ·have hje:es[j]? =some e:=by simpa using q2
   refine⟨_,_,?_,hw.mapset hi h1 (es':=es.modify j λe=>{ e with key:=.string (B k),val:=a.eval u }) (ck':=ck) (by
    have:=h2.put q2 q3 q4 hv;have e1:(es.modify j λe=>{ e with key:=.string (B k),val:=a.eval u }).toList=es.toList.set j { e with key:=.string (B k),val:=a.eval u }:=by
     rw[Array.toList_modify];rw[List.modify_eq_set,q2];rfl
    rw[e1];exact this),h⟩
   have hkey:((es[j]?).map (·.key)).getD (.string (B k)) = .string (B k):=by rw[hje];exact q3
   simp[execOp,ha.eval hx,ha.eval hy,Instr.mapUpdate,run_underlying ht,MapKept.run_getObj_map h1,MapKept.run_checkKey hk (Gg _),MapKept.run_findKey hk q1,MapKept.run_setObj_map _ h1,hkey,Instr.keyThatStays,OY]
theorem Yy {op:Op}{ty:TypeId}{pos:String}{af:Array Edge}
  (hr:∀a w Z,Dm n l a Z→St c H Z w→∃v w' H',(execOp a.eval { dst:=none,op:=op,type:=ty,pos:=pos,after:=af,guard:=none }).run P w = .ok (.value v) w'∧St c H' Z w'∧WL P n c ops Q rest l H') :
  WL P n c ops Q ({ dst:=none,op:=op,type:=ty,pos:=pos,after:=af,guard:=none }::rest) l H:=λa w Z ha hw=>
 wpList_plain rfl λK hK=>by
  obtain⟨v,w',H',h1,h2,h3⟩:=hr a w Z ha hw;unfold Oper.wp;rw[h1];exact hK _ _ (h3 _ w' Z (ha.put_none _) h2)
theorem YM {m:List (Ah×Rp)}(ht:P.underlying t=some (.map kt et))(hk:P.underlying kt=some .string){kt':TypeId}(hx:ev l x=some (rv (.map (some b))))(hi:H[i]? =some (.map b m))(hy:ev l y=some (rS k)){H':List Ent}(hH:H.set i (.map b (mdel m k))=H')(h:WL P n c ops Q rest l H') :
  WL P n c ops Q ({ dst:=none,op:=.call { callee:=.builtin .delete,args:=#[x,y],argTypes:=#[t,kt'] },type:=ty,pos:=pos,after:=af,guard:=none }::rest) l H:=
 Yy (λa w Z ha hw=>by
  obtain⟨es,ck,h1,h2⟩:=hw.ent hi;subst hH;rcases Pw h2 k with⟨q1,q2,q3⟩ | ⟨j,e,r0,q1,q2,q3,q4,_⟩
  ·refine⟨.tuple #[],_,_,?_,hw.mapset hi h1 (es':=es) (ck':=ck) (by rw[Ue q3];exact h2),h⟩;simp[execOp,resolve,invoke,builtin,ha.eval hx,ha.eval hy,Builtin.delete_,run_underlying ht,MapKept.run_getObj_map h1,MapKept.run_checkKey hk (Gg _),MapKept.run_findKey hk q1,MapKept.run_setObj_map _ h1]
  ·refine⟨.tuple #[],_,_,?_,hw.mapset hi h1 (es':=es.eraseIdxIfInBounds j) (ck':=ck) (by
    have e1:(es.eraseIdxIfInBounds j).toList=es.toList.eraseIdx j:=by simp
    rw[e1];exact h2.del q2 q3),h⟩
   simp[execOp,resolve,invoke,builtin,ha.eval hx,ha.eval hy,Builtin.delete_,run_underlying ht,MapKept.run_getObj_map h1,MapKept.run_checkKey hk (Gg _),MapKept.run_findKey hk q1,MapKept.run_setObj_map _ h1])
theorem Sm {v:T}(ht:P.underlying t=some (.map kt et))(hk:P.underlying kt=some .string)(hx:ev l x=some (rv (.map (some b))))(hi:H[i]? =some (.map b (BC enc xs)))(hy:ev l y=some (rS k))(hu:ev l u=some (enc v)){H':List Ent}(hH:H.set i (.map b (BC enc (mset xs k v)))=H')(h:WL P n c ops Q rest l H') :
  WL P n c ops Q ({ dst:=none,op:=.mapUpdate t x y u,type:=ty,pos:=pos,after:=af,guard:=none }::rest) l H:=YL ht hk hx hi hy hu (by rw[← VV];exact hH) h
theorem Xt (ht:P.underlying t=some (.map kt et))(hk:P.underlying kt=some .string){kt':TypeId}(hx:ev l x=some (rv (.map (some b))))(hi:H[i]? =some (.map b (BC enc xs)))(hy:ev l y=some (rS k)){H':List Ent}(hH:H.set i (.map b (BC enc (mdel xs k)))=H')(h:WL P n c ops Q rest l H') :
  WL P n c ops Q ({ dst:=none,op:=.call { callee:=.builtin .delete,args:=#[x,y],argTypes:=#[t,kt'] },type:=ty,pos:=pos,after:=af,guard:=none }::rest) l H:=YM ht hk hx hi hy (by rw[← VY];exact hH) h
end
theorem Ls {q:MapEntry→Bool}:∀{l:List MapEntry} {j:Nat} {e:MapEntry},(l.map (·.born)).Nodup→l[j]? =some e→l.filter (λx=>!(x.born ==e.born))=l.eraseIdx j
 | x::l,0,e,hn,h=>by
  simp at h;subst h;rw[Ab6,List.nodup_cons] at hn;rw[List.filter_cons_of_neg (by simp),List.filter_eq_self.2 λy hy=>?_];rfl;have:y.born≠x.born:=λe=>hn.1 (by rw[← e];exact List.mem_map.2 ⟨y,hy,rfl⟩);simp[this]
 | x::l,j+1,e,hn,h=>by
  rw[Ab6,List.nodup_cons] at hn;simp at h;have hne:x.born≠e.born:=λe'=>hn.1 (by rw[e'];exact List.mem_map.2 ⟨e,Abh h,rfl⟩);rw[List.filter_cons_of_pos (by simp[hne]),Ls (q:=q) hn.2 h];rfl
theorem Jd.erase {Z:Fz}:∀{f:List (List UInt8×Rp)} {es:List MapEntry} (j:Nat),Jd Z f es→Jd Z (f.eraseIdx j) (es.eraseIdx j)
 | [],[],j,_=>by simp[Jd]
 | p::f,e::es,0,⟨_,h⟩=>h
 | p::f,e::es,j+1,⟨h,h3⟩=>⟨h,Jd.erase j h3⟩
theorem SC {α:Type}:∀{l:List α} {j:Nat} {a:α},l[j]? =some a→l.Perm (a::l.eraseIdx j)
 | x::l,0,a,h=>by simp at h;subst h;exact AaP _
 | x::l,j+1,a,h=>by
  simp at h;exact((SC h).cons x).trans (List.Perm.swap a x _)
theorem V5 {T:Type}{enc:T→Rp}{ys:List (Ah×T)}{f:List (Ah×Rp)}{j:Nat}{k:Ah}{r:Rp}(h:f.Perm (BC enc ys))(hj:f[j]? =some (k,r)):∃ (p:Ah×T) (ys':List (Ah×T)),ys.Perm (p::ys')∧p.1=k∧enc p.2=r∧(f.eraseIdx j).Perm (BC enc ys'):=by
 have hm:(k,r)∈BC enc ys:=h.subset (Abh hj);obtain⟨p,hp,e⟩:=List.mem_map.1 hm;simp only[Prod.mk.injEq] at e;obtain⟨a,b,rfl⟩:=List.append_of_mem hp;refine⟨p,a++b,List.perm_middle,e.1,e.2,?_⟩;have h1:f.Perm ((k,r)::f.eraseIdx j):=by
  exact SC hj
 have h2:(BC enc (a++p::b)).Perm ((k,r)::BC enc (a++b)):=by
  have:(BC enc (a++p::b)).Perm (BC enc (p::(a++b))):=List.perm_middle.map _;refine this.trans ?_;show((p.1,enc p.2)::BC enc (a++b)).Perm _;rw[e.1,e.2]
 exact((h1.symm.trans h).trans h2).cons_inv
section
variable {P : Program} {n : Nat} {c : Cx} {ops : Array Oper} {Q : Exit → Act → World → Prop} {rest : List Oper} {l : Fr} {H : List Ent} {d : Nat} {ty t kt et rty : TypeId} {pos : String} {af : Array Edge} {x y u : Operand} {K : Act → World → Prop} {cx : Code}
variable {T : Type} {enc : T → Rp} {xs ys : List (Ah × T)} {i b it : Nat} {m lf : List (List UInt8 × Rp)} {cur : Option (List UInt8 × Rp)} {k : Ah} {r : Rp}
theorem Xm (ht:P.underlying t=some (.map kt et))(hx:ev l x=some (rv (.map (some b))))(hi:H[i]? =some (.map b m))(hn:Nat.blt d n=true)(h:∀it,WL P n c ops Q rest ((d,rv (.pointer (some ⟨it,0,none⟩)))::l) (H.set i (.mit b it m m none))) :
  WL P n c ops Q ({ dst:=some d,op:=.range t x,type:=ty,pos:=pos,after:=af,guard:=none }::rest) l H:=
 JY (λa w Z ha hw=>by
  obtain⟨es,ck,h1,h2⟩:=hw.ent hi;have hb:b<w.heap.size:=(Array.getElem?_eq_some_iff.1 h1).1;have hf:es.toList.filter (λe=>!(#[]:Array Nat).contains e.born)=es.toList:=List.filter_eq_self.2 λ_ _=>by simp
  obtain⟨f,h4,h5⟩:=h2.2.2.2;refine⟨.pointer (some ⟨w.heap.size,0,none⟩),w.alloc (.mapIter (some b) ck #[] ck),_,_,Z,?_,Fz.le.refl _,rfl,hw.set hi rfl rfl rfl (by simp) (λk hk _=>Below.heap_alloc w _ k hk) ?_ ?_,h w.heap.size⟩
  ·simp[execOp,ha.eval hx,run_range_map w t kt et b es ck ht h1]
  ·exact⟨es,ck,#[],ck,ck,(Below.heap_alloc w _ b hb).trans h1,by simpa using heap_alloc_new w _,h2,h2.2.2.1,Abp _,Abp _,Nat.ne_of_lt hb,⟨f,h4,by rw[hf];exact h5⟩,trivial⟩
  ·intro k hk;simp only[Ent.foot,AbH,List.not_mem_nil,or_false] at hk;rcases hk with rfl | rfl
   ·exact .inl (by simp[Ent.foot])
   ·exact .inr (Abp _)) hn
theorem YK (hx:ev l x=some (rv (.pointer (some ⟨it,0,none⟩))))(hi:H[i]? =some (.mit b it m (BC enc ys) cur))(hn:Nat.blt d n=true)
  (h0:ys=[]→WL P n c ops Q rest ((d,C5 [rB false])::l) H)
  (h1:∀p ys',ys.Perm (p::ys')→WL P n c ops Q rest ((d,C5 [rB true,rS p.1,enc p.2])::l) (H.set i (.mit b it m (BC enc ys') (some (p.1,enc p.2))))) :
  WL P n c ops Q ({ dst:=some d,op:=.next x false,type:=ty,pos:=pos,after:=af,guard:=none }::rest) l H:=
 JY (λa w Z ha hw=>by
  obtain⟨es,ck,seen,since,c0,q1,q2,q3,q4,q5,q6,q7,⟨f,q8,q9⟩,_⟩:=hw.ent hi;have hlf:(leftOf es seen).toList=es.toList.filter λe=>!seen.contains e.born:=by simp[leftOf]
  rcases run_next_at (P:=P) w ty it b since c0 seen es ck q2 q1 q4 q5 with⟨r1,r2⟩ | ⟨e,r1,w1,r2,r3⟩
  ·have he:es.toList.filter (λe=>!seen.contains e.born)=[]:=by rw[← hlf];exact Abu (by simpa using r1)
   rw[he] at q9;have hf:f=[]:=by cases f with
    | nil=>rfl
    | cons _ _=>exact absurd q9 id
   subst hf;have hy:ys=[]:=by
    have:=q8.length_eq;rw[Js] at this;exact Abu this.symm
   exact⟨.tuple #[.bool false],w,C5 [rB false],H,Z,by simp[execOp,ha.eval hx,r2],Fz.le.refl _,⟨[.bool false],rfl,rfl,trivial⟩,hw,h0 hy⟩
  ·rw[hlf] at r1;obtain⟨j,hj⟩:=List.mem_iff_getElem?.1 r1;obtain⟨k,r,e1,e2,e3⟩:=q9.at.2 j e hj;obtain⟨p,ys',s1,s2,s3,s4⟩:=V5 q8 e1;have hnl:((es.toList.filter λe=>!seen.contains e.born).map (·.born)).Nodup:=q3.2.1.sublist ((List.filter_sublist ..).map _);have hleft:es.toList.filter (λx=>!(seen.push e.born).contains x.born)=(es.toList.filter λe=>!seen.contains e.born).eraseIdx j:=by
    rw[← Ls (q:=λ_=>true) hnl hj,List.filter_filter];refine List.filter_congr λx _=>?_;simp only[Array.contains_push,Bool.not_or];rw[Bool.and_comm]
   have hd:St c H Z w1:=by
    rcases r2 with rfl | rfl
    ·exact hw
    ·exact hw.drawn _
   have q2':w1.heap[it]? =some (.mapIter (some b) since seen c0):=by rcases r2 with rfl | rfl<;>exact q2
   have q1':w1.heap[b]? =some (.map es ck):=by rcases r2 with rfl | rfl<;>exact q1
   obtain⟨t1,t2⟩:=MapKept.heap_set (o':=.mapIter (some b) since (seen.push e.born) ck) q2';refine⟨.tuple #[.bool true,e.key,e.val],ChangeMaps.setBlock w1 it (.mapIter (some b) since (seen.push e.born) ck),C5 [rB true,rS p.1,enc p.2],H.set i (.mit b it m (BC enc ys') (some (p.1,enc p.2))),Z,by simp[execOp,ha.eval hx,r3],Fz.le.refl _,⟨[.bool true,e.key,e.val],rfl,rfl,?_,?_,trivial⟩,hd.set hi rfl rfl rfl (by simp[ChangeMaps.setBlock]) (λk' _ hk'=>t2 k' (λe'=>hk' (by simp[Ent.foot,e']))) ?_ (λk' hk'=>.inl (by simpa[Ent.foot] using hk')),h1 p ys' s1⟩
   ·show e.key = .string (B p.1);rw[s2];exact e2
   ·rw[s3];exact e3
   ·exact⟨es,ck,seen.push e.born,since,ck,(t2 b q7).trans q1',t1,q3,q4,Nat.le_trans q5 q6,Abp _,q7,⟨f.eraseIdx j,s4,by rw[hleft];exact q9.erase j⟩,rfl,seen,e,rfl,(List.mem_filter.1 r1).1,by rw[s2];exact e2,by rw[s3];exact e3⟩) hn
theorem St.unmit {Z:Fz}{w:World}(h:St c H Z w)(hi:H[i]? =some (.mit b it m lf cur)):St c (H.set i (.map b m)) Z w:=by
 obtain⟨es,ck,seen,since,c0,q1,q2,q3,_⟩:=h.ent hi;exact h.set hi rfl rfl rfl (Abp _) (λ_ _ _=>rfl) ⟨es,ck,q1,q3⟩ (by simp[Ent.foot])
theorem WK.unmit (hi:H[i]? =some (.mit b it m lf cur))(h:WK n c K l (H.set i (.map b m))):WK n c K l H:=λa w Z ha hw=>h a w Z ha (hw.unmit hi)
theorem WC.unmit (hi:H[i]? =some (.mit b it m lf cur))(h:WC P n c cx Q l (H.set i (.map b m))):WC P n c cx Q l H:=λa w Z ha hw=>h a w Z ha (hw.unmit hi)
theorem WL.unmit (hi:H[i]? =some (.mit b it m lf cur))(h:WL P n c ops Q rest l (H.set i (.map b m))):WL P n c ops Q rest l H:=λa w Z ha hw=>h a w Z ha (hw.unmit hi)
theorem St.uncur {Z:Fz}{w:World}(h:St c H Z w)(hi:H[i]? =some (.mit b it m lf cur)):St c (H.set i (.mit b it m lf none)) Z w:=by
 obtain⟨es,ck,seen,since,c0,q1,q2,q3,q4,q5,q6,q7,q8,_⟩:=h.ent hi;exact h.set hi rfl rfl rfl (Abp _) (λ_ _ _=>rfl) ⟨es,ck,seen,since,c0,q1,q2,q3,q4,q5,q6,q7,q8,trivial⟩ (λk hk=>.inl (by simpa[Ent.foot] using hk))
theorem WK.uncur (hi:H[i]? =some (.mit b it m lf cur))(h:WK n c K l (H.set i (.mit b it m lf none))):WK n c K l H:=λa w Z ha hw=>h a w Z ha (hw.uncur hi)
theorem XM {dd:Option Nat}{g:Option (Nat×Bool)}(hx:ev l x=some (rv (.pointer (some ⟨it,0,none⟩))))(hi:H[i]? =some (.mit b it m lf (some (k,r)))) :
  Bv P n c l H { dst:=dd,op:=.entry x,type:=ty,pos:=pos,after:=af,guard:=g } (C5 [rS k,r]):=λa w Z ha hw=>by
 obtain⟨es,ck,seen,since,c0,q1,q2,q3,q4,q5,q6,q7,q8,rfl,s0,e,rfl,h1,h2,h3⟩:=hw.ent hi;exact⟨.tuple #[e.key,e.val],⟨[e.key,e.val],rfl,h2,h3,trivial⟩,by simp[execOp,ha.eval hx,run_entry_at w it b since s0 es c0 e q2 q1 h1 q3.2.1]⟩
end
section
variable {P : Program} {n : Nat} {c : Cx} {opsA : Array Oper} {Q : Exit → Act → World → Prop} {l : Fr} {H : List Ent} {d : Nat} {ty : TypeId} {pos : String} {af : Array Edge}
end
section
variable {P : Program} {n : Nat} {c : Cx} {ops : Array Oper} {Q : Exit → Act → World → Prop} {rest : List Oper} {l : Fr} {H H' : List Ent} {d : Nat} {d' : Option Nat} {x y z3 : Operand} {ty t t' e : TypeId} {pos : String} {af : Array Edge} {g : Option (Nat × Bool)} {v u : Value} {r : Rp} {sz : Nat}
end
theorem Bf.d1 {Z:Fz}{r0:Rp}{us:List Value}(h:Bf Z [r0] us):∃y0,us=[y0]∧Bf Z [r0] [y0]:=by
 match us,h.length with
 | [y0],_=>exact⟨_,rfl,h⟩
theorem Bf.d2 {Z:Fz}{r0 r1:Rp}{us:List Value}(h:Bf Z [r0,r1] us):∃y0 y1,us=[y0,y1]∧Bf Z [r0,r1] [y0,y1]:=by
 match us,h.length with
 | [y0,y1],_=>exact⟨_,_,rfl,h⟩
theorem Bf.d3 {Z:Fz}{r0 r1 r2:Rp}{us:List Value}(h:Bf Z [r0,r1,r2] us):∃y0 y1 y2,us=[y0,y1,y2]∧Bf Z [r0,r1,r2] [y0,y1,y2]:=by
 match us,h.length with
 | [y0,y1,y2],_=>exact⟨_,_,_,rfl,h⟩
theorem Bf.d5 {Z:Fz}{r0 r1 r2 r3 r4:Rp}{us:List Value}(h:Bf Z [r0,r1,r2,r3,r4] us):∃y0 y1 y2 y3 y4,us=[y0,y1,y2,y3,y4]∧Bf Z [r0,r1,r2,r3,r4] [y0,y1,y2,y3,y4]:=by
 match us,h.length with
 | [y0,y1,y2,y3,y4],_=>exact⟨_,_,_,_,_,rfl,h⟩
theorem QS {α:Type}{sz:Nat}:∀{xs:List (List α)} (hs:∀c∈xs,c.length=sz) {k:Nat} {cl:List α},xs[k]? =some cl→∀(off m:Nat),off+m≤sz→((xs.flatten).drop (k*sz+off)).take m=(cl.drop off).take m
 | [],_,k,cl,h,_,_,_=>by simp at h
 | x::r,hs,0,cl,h,off,m,hm=>by
  simp at h;subst h;have hx:=hs x (by simp);simp only[List.flatten_cons,Nat.zero_mul,Ab9];rw[List.drop_append_of_le_length (by omega),List.take_append_of_le_length (by simp;omega)]
 | x::r,hs,k+1,cl,h,off,m,hm=>by
  have hx:=hs x (by simp);simp only[List.flatten_cons];have e:(k+1)*sz+off=x.length+(k*sz+off):=by rw[hx,Nat.succ_mul];omega
  rw[e,List.drop_length_add_append];exact QS (λc hc=>hs c (by simp[hc])) (by simpa using h) off m hm
theorem QT {α:Type}{sz:Nat}:∀{xs:List (List α)} (hs:∀c∈xs,c.length=sz) {k:Nat} {cl rs:List α},xs[k]? =some cl→∀(off:Nat),off+rs.length≤sz→(xs.set k (cl.take off++rs++cl.drop (off+rs.length))).flatten=xs.flatten.take (k*sz+off)++rs++xs.flatten.drop (k*sz+off+rs.length)
 | [],_,k,cl,rs,h,_,_=>by simp at h
 | x::r,hs,0,cl,rs,h,off,hm=>by
  simp at h;subst h;have hx:=hs x (by simp);simp only[List.set_cons_zero,List.flatten_cons,Nat.zero_mul,Ab9];rw[List.take_append_of_le_length (by omega),List.drop_append_of_le_length (by omega)];simp[Abq]
 | x::r,hs,k+1,cl,rs,h,off,hm=>by
  have hx:=hs x (by simp);simp only[List.set_cons_succ,List.flatten_cons];have e:(k+1)*sz+off=x.length+(k*sz+off):=by rw[hx,Nat.succ_mul];omega
  have e2:x.length+(k*sz+off)+rs.length=x.length+(k*sz+off+rs.length):=by omega
  rw[QT (λc hc=>hs c (by simp[hc])) (by simpa using h) off hm,e,e2,List.take_length_add_append,List.drop_length_add_append];simp[Abq]
section
variable {P : Program} {n : Nat} {c : Cx} {ops : Array Oper} {Q : Exit → Act → World → Prop} {rest : List Oper} {l : Fr} {H H' : List Ent} {d : Nat} {d' : Option Nat} {ty t e rty : TypeId} {pos : String} {af : Array Edge} {g : Option (Nat × Bool)} {x y u : Operand} {v : Value} {sz m : Nat}
theorem SH {α:Type}[Inhabited α]{ys:List α}{enc:α→List Rp}{i off:Nat}{j:Int}{rs:List Rp}(hag:∀w,(isAgg t).run P w = .ok true w)(hsz:∀w,(sizeOf t).run P w = .ok m w)(hx:ev l x=some (rv (E9 sz v j.toNat off)))(hi:H[i]? =some (.row v e sz (ys.map enc)))(hg:CH j (ys.length:Int)=true)
  (hle:Nat.ble (off+m) sz=true) (hr:((enc (Ay ys j)).drop off).take m=rs) :
  Bv P n c l H { dst:=d',op:=.load t x,type:=ty,pos:=pos,after:=af,guard:=g } (Bz rs):=λa w Z ha hw=>by
 obtain⟨hs,us,⟨h1,h2⟩,h3⟩:=hw.ent hi;have h0:=(Dw hg).1;have hlt:j.toNat<ys.length:=by have:=(Dw hg).2;omega
 have eat:Ay ys j=ys[j.toNat]:=by simp[Ay,hlt]
 have hle':off+m≤sz:=by simpa using hle
 have hcl:(ys.map enc)[j.toNat]? =some (enc ys[j.toNat]):=by simp[hlt]
 have hcz:(enc ys[j.toNat]).length=sz:=hs _ (Abh hcl);have hseg:=QS hs hcl off m hle';rw[← eat,hr] at hseg;have h4:=(h3.drop (j.toNat*sz+off)).take m;rw[hseg] at h4;have hrl:rs.length=m:=by rw[← hr,eat];simp;omega
 rcases h2 with⟨rfl,hz⟩ | ⟨b,cap,cur,rfl,_,hg',hcap,hm,hcs,htk⟩
 ·simp at hz;subst hz;simp at hlt
 ·have h5:=run_loadCells_list (P:=P) w ⟨b,j.toNat*sz+off,none⟩ ((us.drop (j.toNat*sz+off)).take m) (λq w' hq=>by
   rw[IP,cell_of_row w b _ cur e (0,0) hg'];rw[Ab8] at hq
   split at hq
   ·rw[List.getElem?_drop,← htk,Ab8] at hq
    split at hq
    ·simpa using hq
    ·cases hq
   ·cases hq)
  rw[h4.length,hrl] at h5;exact⟨.agg ((us.drop (j.toNat*sz+off)).take m).toArray,⟨_,rfl,h4⟩,by simp[execOp,ha.eval hx,E9,Instr.loadAt,Instr.sureAddr,loadVar,hag,hsz,h5]⟩
theorem Xs {α:Type}[Inhabited α]{ys:List α}{enc:α→List Rp}{i off:Nat}{j:Int}{rs:List Rp}{y':α}(hsz:∀w,(sizeOf t).run P w = .ok m w)(hx:ev l x=some (rv (E9 sz v j.toNat off)))(hy:ev l y=some (Bz rs))(hv:BM H rs)(hi:H[i]? =some (.row v e sz (ys.map enc)))(hg:CH j (ys.length:Int)=true)
  (hl:rs.length=m) (hy':(enc (Ay ys j)).take off++rs++(enc (Ay ys j)).drop (off+m)=enc y') (hle:Nat.ble (off+m) sz=true) (hH:H.set i (.row v e sz ((ys.set j.toNat y').map enc))=H') (h:WL P n c ops Q rest l H') :
  WL P n c ops Q ({ dst:=none,op:=.store t x y,type:=ty,pos:=pos,after:=af,guard:=none }::rest) l H:=
 OP λa w Z ha hw=>by
  obtain⟨hs,us,⟨h1,h2⟩,h3⟩:=hw.ent hi;have h0:=(Dw hg).1;have hlj:j.toNat<ys.length:=by have:=(Dw hg).2;omega
  have hle':off+m≤sz:=by simpa using hle
  have eat:Ay ys j=ys[j.toNat]:=by simp[Ay,hlj]
  obtain⟨vs,e1,h4⟩:=ha.ev hy;have hvl:=h4.length;have hone:∀v∈vs,v.oneCell'=true:=λv hv'=>hv.at hw h4 v hv';have hcl:(ys.map enc)[j.toNat]? =some (enc ys[j.toNat]):=by simp[hlj]
  have hcz:(enc ys[j.toNat]).length=sz:=hs _ (Abh hcl);rcases h2 with⟨rfl,hz⟩ | ⟨b,cap,cur,rfl,_,hg',hcap,hm,hcs,htk⟩
  ·simp at hz;subst hz;simp at hlj
  ·simp only[Abk] at h1 hcap htk;have hin:j.toNat*sz+off+m≤ys.length*sz:=by
    have:(j.toNat+1)*sz≤ys.length*sz:=Nat.mul_le_mul_right _ hlj;rw[Nat.succ_mul] at this;omega
   have hlc:j.toNat*sz+off+m≤cur.size:=by
    have:ys.length*sz≤cap*sz:=Nat.mul_le_mul_right _ hcap;omega
   have hvm:vs.length=m:=by omega
   have h5:=run_storeCells_at P b (j.toNat*sz+off) e vs 0 cur w hg' (by omega) hone;simp only[Nat.add_zero] at h5;have hset:((ys.set j.toNat y').map enc).flatten=(ys.map enc).flatten.take (j.toNat*sz+off)++rs++(ys.map enc).flatten.drop (j.toNat*sz+off+m):=by
    have:=QT hs hcl (rs:=rs) off (by omega);rw[hl] at this;rw[← this,List.map_set,← hy',eat]
   refine⟨w.setRow b (cur.toList.take (j.toNat*sz+off)++vs++cur.toList.drop (j.toNat*sz+off+vs.length)).toArray,H',?_,?_,h⟩
   ·simp only[Abq] at h5 ⊢;rw[hvm] at h5 ⊢;simp[execOp,ha.eval hx,e1,E9,Instr.storeAt,Instr.sureAddr,storeVar,hsz,Value.cells,hvm,h5]
   ·subst hH;refine hw.set hi rfl rfl rfl (by simp[World.setRow]) (λk _ hk=>?_) ⟨?_,us.take (j.toNat*sz+off)++vs++us.drop (j.toNat*sz+off+m),⟨?_,.inr ⟨b,cap,_,by simp,Aby _,setRow_heap w b cur _ e (0,0) hg',by simpa using hcap,hm,?_,?_⟩⟩,?_⟩ (by simp[Ent.foot,Value.ownBlock])
    ·simp only[Ent.foot,Value.ownBlock,Option.mem_toList,Option.mem_def,Option.some.injEq] at hk;simp only[World.setRow,Array.getElem?_modify];rw[Abw hk]
    ·intro cl hcl';rw[List.map_set] at hcl';rcases List.mem_or_eq_of_mem_set hcl' with h' | rfl
     ·exact hs cl h'
     ·rw[← hy',eat];simp;omega
    ·simp;omega
    ·simp;omega
    ·have hu1:us.take (j.toNat*sz+off)=cur.toList.take (j.toNat*sz+off):=by rw[← htk,List.take_take,Nat.min_eq_left (by omega)]
     have hu2:us.drop (j.toNat*sz+off+m)=(cur.toList.drop (j.toNat*sz+off+m)).take (ys.length*sz-(j.toNat*sz+off+m)):=by rw[← htk,List.drop_take]
     rw[hu1,hu2,Abk,List.length_set,hvm];have e2:(List.take (j.toNat*sz+off) cur.toList++vs).length=j.toNat*sz+off+m:=by simp;omega
     have e3:ys.length*sz=(List.take (j.toNat*sz+off) cur.toList++vs).length+(ys.length*sz-(j.toNat*sz+off+m)):=by rw[e2];omega
     conv=>lhs;rw[show ys.length*sz=(List.take (j.toNat*sz+off) cur.toList++vs).length+(ys.length*sz-(j.toNat*sz+off+m)) from e3]
     rw[List.take_length_add_append]
    ·rw[hset];exact((h3.take _).append h4).append (h3.drop _)
def No (sz:Nat)(v:Value)(j:Nat):Value:=match v with
 | .slice A len cap=>.slice (if cap=j then A else A.map (·.add (j*sz))) (len-j) (cap-j)
 | v=>v
theorem YX {α:Type}{ys:List α}{enc:α→List Rp}{i:Nat}{k:IntKind}{j:Int}(ht:P.underlying t=some (.slice e))(hz:∀w,(sizeOf e).run P w = .ok sz w)(hx:ev l x=some (rv v))(hy:ev l y=some (rI k j))(hi:H[i]? =some (.row v e sz (ys.map enc)))(hg:Hp j (ys.length:Int)=true) :
  Bv P n c l H { dst:=d',op:=.slice t x (some y) none none,type:=ty,pos:=pos,after:=af,guard:=g } (rv (No sz v j.toNat)):=λa w Z ha hw=>CZ<|by
 obtain⟨h0,us,⟨h1,h2⟩,h3⟩:=hw.ent hi;have g0:=(CN hg).1;have g1:=(CN hg).2;rcases h2 with⟨rfl,hz0⟩ | ⟨b,cap,cur,rfl,_,hb,hcap,hm,hcs,htk⟩
 ·simp at hz0;subst hz0;obtain rfl:j=0:=by simp at g1;omega
  simp[execOp,ha.eval hx,ha.eval hy,Instr.sliceAt,Instr.slice,run_underlying ht,Instr.sliceBounds,B7 (m:=0) _ _ (Abr 0) (Abr 0),hz,No]
 ·simp only[Abk] at h1 hcap htk;simp[execOp,ha.eval hx,ha.eval hy,Instr.sliceAt,Instr.slice,run_underlying ht,Instr.sliceBounds,B7 (m:=ys.length) _ _ g0 g1,hz,No]
theorem NT (zc:List Value)(hz:0<zc.length):∀k,(Builtin.zeroCells zc.toArray k).toList=(List.replicate k zc).flatten:=by
 intro k;have hl:((List.replicate k zc).flatten).length=k*zc.length:=by simp
 apply List.ext_getElem
 ·simp[Builtin.zeroCells]
 ·intro i h1 h2;have hi:i<k*zc.length:=by rw[← hl];exact h2
  have hm:i % zc.length<zc.length:=Nat.mod_lt _ hz;have hq:i/zc.length<k:=by rw[Nat.div_lt_iff_lt_mul hz];exact hi
  have e1:(Builtin.zeroCells zc.toArray k).toList[i]=zc[i % zc.length]:=by
   simp[Builtin.zeroCells,hm]
  have e2:=I6 (sz:=zc.length) (vs:=List.replicate k zc) (λc hc=>by rw[List.eq_of_mem_replicate hc]) (i:=i/zc.length) (c:=zc) (by simp[hq]) (j:=i % zc.length) (u:=zc[i % zc.length]) (by simp[hm]);have e3:i/zc.length*zc.length+i % zc.length=i:=Nat.div_add_mod' i zc.length;rw[e3] at e2;rw[e1];exact(Option.some.inj ((AaY h2).symm.trans e2)).symm
theorem OR {α:Type}{ys:List α}{enc:α→List Rp}{i:Nat}{j:Int}{z0:α}{zz:Value}{zc:List Value}(ht:P.underlying t=some (.slice e))(hzv:∀w,(zeroValue e).run P w = .ok zz w)(hzz:zz.cells.toList=zc)(hzl:zc.length=sz)(hsz:Nat.blt 0 sz=true)(hone:∀v∈zc,v.oneCell'=true)(hzr:∀Z,Bf Z (enc z0) zc)(hel:(enc z0).length=sz)
  (hx:ev l x=some (rv (No sz v j.toNat))) (hi:H[i]? =some (.row v e sz (ys.map enc))) (hg:Hp j (ys.length:Int)=true) (hH:H.set i (.row v e sz ((ys.take j.toNat++List.replicate (ys.length-j.toNat) z0).map enc))=H') (h:WL P n c ops Q rest l H') :
  WL P n c ops Q ({ dst:=none,op:=.call { callee:=.builtin .clear,args:=#[x],argTypes:=#[t] },type:=ty,pos:=pos,after:=af,guard:=none }::rest) l H:=
 Yy (λa w Z ha hw=>by
  obtain⟨h0,us,⟨h1,h2⟩,h3⟩:=hw.ent hi;have g0:=(CN hg).1;have g1:=(CN hg).2;subst hH;have hz0:0<sz:=by simpa using hsz
  have hcells:zz.cells=zc.toArray:=by rw[← hzz]
  rcases h2 with⟨rfl,hz1⟩ | ⟨b,cap,cur,rfl,_,hb,hcap,hm,hcs,htk⟩
  ·simp at hz1;subst hz1;refine⟨.tuple #[],w,_,?_,hw.set (e':=.row (.slice none 0 0) e sz ((([]:List α).take j.toNat++List.replicate (([]:List α).length-j.toNat) z0).map enc)) hi rfl rfl rfl (Abp _) (λ_ _ _=>rfl) ⟨by simp,[],⟨by simp,.inl ⟨rfl,by simp⟩⟩,by simp[Bf]⟩ (by simp[Ent.foot,Value.ownBlock]),h⟩
   ·have e0:No sz (.slice none 0 0) j.toNat = .slice none 0 0:=by simp[No]
    simp[execOp,resolve,invoke,builtin,ha.eval hx,e0,Builtin.clear_,run_underlying ht]
  ·simp only[Abk] at h1 hcap htk;have hjl:j.toNat≤ys.length:=by omega
   by_cases hjn:ys.length=j.toNat
   ·refine⟨.tuple #[],w,_,?_,?_,h⟩
    ·have hn0:ys.length-j.toNat=0:=by omega
     simp only[execOp,resolve,invoke,builtin,ha.eval hx,No,hn0]
     by_cases hc:cap=j.toNat
     ·simp[ha.eval hx,No,hn0,hc,Builtin.clear_,run_underlying ht]
     ·simp[ha.eval hx,No,hn0,hc,Builtin.clear_,run_underlying ht]
    ·have e0:ys.take j.toNat++List.replicate (ys.length-j.toNat) z0=ys:=by rw[← hjn];simp
     rw[e0];have:H.set i (.row (.slice (some ⟨b,0,none⟩) (ys.map enc).length cap) e sz (ys.map enc))=H:=by
      obtain⟨hl,he⟩:=List.getElem?_eq_some_iff.1 hi;rw[← he,List.set_getElem_self]
     rw[this];exact hw
   ·have hc : ¬ cap=j.toNat:=by omega
    obtain⟨q,hq⟩:∃q,ys.length-j.toNat=q+1:=⟨ys.length-j.toNat-1,by omega⟩
    have hin:j.toNat*sz+(q+1)*sz=ys.length*sz:=by rw[← Nat.add_mul];congr 1;omega
    have hlen:((List.replicate (q+1) zc).flatten).length=(q+1)*sz:=by simp[hzl]
    have hcc:ys.length*sz≤cap*sz:=Nat.mul_le_mul_right _ hcap;have h5:=run_storeCells_at P b (j.toNat*sz) e ((List.replicate (q+1) zc).flatten) 0 cur w hb (by rw[hlen];omega) (λv hv=>by
     obtain⟨cl,hcl,hv'⟩:=List.mem_flatten.1 hv;rw[List.eq_of_mem_replicate hcl] at hv';exact hone v hv')
    simp only[Nat.add_zero] at h5;rw[hlen,hin] at h5;refine⟨.tuple #[],w.setRow b (cur.toList.take (j.toNat*sz)++(List.replicate (q+1) zc).flatten++cur.toList.drop (ys.length*sz)).toArray,_,?_,?_,h⟩
    ·have hzc:=NT zc (by omega) (q+1);have e1:(a.eval x) = .slice (some ⟨b,j.toNat*sz,none⟩) (q+1) (cap-j.toNat):=by
      rw[ha.eval hx];simp[No,hc,hq,IP]
     simp[execOp,resolve,invoke,builtin,e1,Builtin.clear_,run_underlying ht,hzv,hcells,hzc,h5]
    ·refine hw.set hi rfl rfl rfl (by simp[World.setRow]) (λk _ hk=>?_) ⟨?_,us.take (j.toNat*sz)++(List.replicate (q+1) zc).flatten,⟨?_,.inr ⟨b,cap,_,?_,Aby _,setRow_heap w b cur _ e (0,0) hb,?_,hm,?_,?_⟩⟩,?_⟩ (by simp[Ent.foot,Value.ownBlock])
     ·simp only[Ent.foot,Value.ownBlock,Option.mem_toList,Option.mem_def,Option.some.injEq] at hk;simp only[World.setRow,Array.getElem?_modify];rw[Abw hk]
     ·intro cl hcl;rw[AbI] at hcl;rcases List.mem_append.1 hcl with h' | h'
      ·rw[List.map_take] at h';exact h0 cl (List.mem_of_mem_take h')
      ·rw[List.map_replicate] at h';rw[List.eq_of_mem_replicate h'];exact hel
     ·rw[AaS,hlen];simp[Nat.min_eq_left hjl,h1,hq];have:j.toNat*sz≤ys.length*sz:=Nat.mul_le_mul_right _ hjl
      first | rw[← Nat.add_mul] | (rw[Nat.min_eq_left this,← Nat.add_mul])
     ·simp[Nat.min_eq_left hjl];omega
     ·simp;omega
     ·have:j.toNat*sz≤ys.length*sz:=Nat.mul_le_mul_right _ hjl;rw[List.size_toArray,AaS,AaS,hlen,List.length_take,AbG,Array.length_toList,Nat.min_eq_left (by omega)];omega
     ·have:j.toNat*sz≤ys.length*sz:=Nat.mul_le_mul_right _ hjl;have e2:((ys.take j.toNat++List.replicate (ys.length-j.toNat) z0).map enc).length*sz=(cur.toList.take (j.toNat*sz)++(List.replicate (q+1) zc).flatten).length:=by
       rw[AaS,hlen];simp[Nat.min_eq_left hjl,hq];rw[Nat.min_eq_left (by omega),← Nat.add_mul]
      rw[e2,List.take_left' rfl]
      congr 1
      rw[← htk,List.take_take,Nat.min_eq_left this]
     ·rw[AbI,List.flatten_append,List.map_take,List.map_replicate,hq];refine Bf.append ?_ ?_
      ·have:((ys.map enc).take j.toNat).flatten=(ys.map enc).flatten.take (j.toNat*sz):=by
        clear h3 h1 htk hcs hcap g1 hi hw h5 hin hcc hlen hjn hc hq hjl hm hb;generalize ys.map enc=zs at h0;have key:∀(zs:List (List Rp)) (k:Nat),(∀c∈zs,c.length=sz)→(zs.take k).flatten=zs.flatten.take (k*sz):=by
         intro zs
         induction zs with
         | nil=>intro k _;simp
         | cons z zs ih=>
          intro k hk
          cases k with
          | zero=>simp
          | succ k=>
           have hzl:=hk z (by simp);simp only[List.take_succ_cons,List.flatten_cons];rw[ih k (λc hc=>hk c (by simp[hc]))];have e1:(k+1)*sz=z.length+k*sz:=by rw[hzl,Nat.succ_mul];omega
           rw[e1,List.take_length_add_append]
        exact key zs _ h0
       rw[this];exact h3.take _
      ·clear h5 hin hlen hq;generalize q+1=k
       induction k with
       | zero=>exact trivial
       | succ k ih=>rw[List.replicate_succ,List.replicate_succ,List.flatten_cons,List.flatten_cons];exact(hzr Z).append ih)
end
end Go.Proofs.YtkoiaconljdbeaaGreatDoor.Q
namespace Go.Proofs.YtkoiaconljdbeaaGreatDoor
open Go
def Lz (k:IntKind)(x y:Int):Int:=k.wrap ((BitVec.ofInt k.bits x||| BitVec.ofInt k.bits y).toNat:Int)
def Gl (k:IntKind)(x n:Int):Int:=k.wrap (x*2 ^ (min n.toNat k.bits))
def K1 (k:IntKind)(x n:Int):Int:=x.fdiv (2 ^ (min n.toNat k.bits))
end Go.Proofs.YtkoiaconljdbeaaGreatDoor
namespace Go.Proofs.YtkoiaconljdbeaaGreatDoor.Q
open Go Go.RowKit
set_option linter.unusedVariables false
set_option linter.unusedSimpArgs false
section
variable {P : Program} {n : Nat} {c : Cx} {Q : Exit → Act → World → Prop} {l : Fr} {H : List Ent} {x rest' : Code} {K : Act → World → Prop}
theorem J8 {lb:Nat}(h:WK n c (Q (.goto lb)) l H):WC P n c (.goto lb) Q l H:=λa w Z ha hw=>wp_goto (h a w Z ha hw)
theorem BW {lb:Nat}(h:WK n c (Q (.goto lb)) l H):WK n c (Exit.then K Q (.goto lb)) l H:=h
theorem G4 {id lb:Nat}(h:WK n c (Q (.goto lb)) l H):WK n c (Exit.inBlock id Q (.goto lb)) l H:=h
theorem Jg {id lb:Nat}(h:WK n c (Q (.goto lb)) l H):WK n c (WH id K Q (.goto lb)) l H:=h
theorem Xk {lb:Nat}(h:WK n c (Q .ret) l H):WK n c (Exit.jump lb K Q .ret) l H:=h
theorem J6 {lb:Nat}(h:WK n c K l H):WK n c (Exit.jump lb K Q (.goto lb)) l H:=λa w Z ha hw=>⟨rfl,h a w Z ha hw⟩
theorem NW {S:Type}(lb:Nat)(inv:S→Prop)(fr:S→Fr)(hp:S→List Ent)(hf:findLabel x lb=some rest')
  (h1:WC P n c x (Exit.jump lb (HX n c inv fr hp) Q) l H) (h2:∀s,inv s→WC P n c rest' (Exit.noGoto Q) (fr s) (hp s)):WC P n c (.scope x) Q l H:=λa w Z ha hw=>
 wp_scope_jumps lb (HX n c inv fr hp) (λ_ _=>0) hf (h1 a w Z ha hw) (by
  rintro a w ⟨s,Z,hi,ha,hw⟩;refine wp_mono (h2 s hi a w Z ha hw) λe a w q=>?_
  cases e with
  | goto _=>exact q.elim
  | _=>exact q)
end
section
variable {P : Program} {n : Nat} {c : Cx} {ops : Array Oper} {Q : Exit → Act → World → Prop} {rest : List Oper} {l : Fr} {H H' : List Ent} {d : Nat} {d' : Option Nat} {x y z3 z4 : Operand} {ty t t' e : TypeId} {pos : String} {af : Array Edge} {g : Option (Nat × Bool)} {v u : Value} {r : Rp} {sz : Nat}
theorem Q2 {α:Type}{ys:List α}{enc:α→List Rp}{k' k'':IntKind}{j:Int}(ht:P.underlying t=some (.slice e))(hz:∀w,(sizeOf e).run P w = .ok sz w)(h:ev l x=some (Bo sz (ys.map enc)))(hj:ev l z3=some (rI k' j))(hm:ev l z4=some (rI k'' j))(hg2:Hp j (ys.length:Int)=true) :
  Bv P n c l H { dst:=d',op:=.slice t x none (some z3) (some z4),type:=ty,pos:=pos,after:=af,guard:=g } (Bo sz ((ys.take j.toNat).map enc)):=λa w Z ha hw=>by
 obtain⟨A,cap,e1,hc1,hc2,hA,hc⟩:=ha.ev h;have h0:=(CN hg2).1;have h2:=(CN hg2).2;simp only[Abk] at e1 hc1;have h3:j≤(cap:Int):=by omega
 refine⟨.slice A j.toNat j.toNat,⟨A,j.toNat,?_,?_,by omega,?_,λq cl hq=>?_⟩,?_⟩
 ·congr 1
  simp;omega
 ·simp;omega
 ·intro hn;have:=hA hn;omega
 ·rw[Ab7,Ab8] at hq
  split at hq
  ·exact hc q cl (by rw[Ab7];exact hq)
  ·cases hq
 ·have hA':A.map (λb=>b.add 0)=A:=by
   cases A with
   | none=>rfl
   | some ad=>obtain⟨b,o,sp⟩:=ad;cases sp<;>rfl
  simp[execOp,e1,ha.eval hj,ha.eval hm,Instr.sliceAt,Instr.slice,run_underlying ht,Instr.sliceBounds,B7 (m:=cap) _ _ h0 h3,B7 (m:=j.toNat) _ _ h0 (by omega),hz]
  try (intro _;cases A<;>rfl)
theorem XL {i:Nat}{rs:List Rp}{fs:Array Field}{f:Field}(hu:P.underlying t=some (.struct fs))(hf:fs[i]? =some f)(hag:∀w,(isAgg f.type).run P w = .ok false w)(hx:ev l x=some (Bz rs))(hr:rs[f.offset]? =some r) :
  Bv P n c l H { dst:=d',op:=.field t x i,type:=ty,pos:=pos,after:=af,guard:=g } r:=λa w Z ha hw=>by
 obtain⟨us,e1,hus⟩:=ha.ev hx;obtain⟨v,hv,hp⟩:=hus.at hr;exact⟨v,hp,by simp[execOp,e1,Instr.field,run_underlying hu,hf,asAgg,part,hag,hv]⟩
end
structure Sx (U:Type) where
 deps:List Nat
 r:U→Rp
 dyn:Bool:=false
 old:List Nat:=[]
def Ik {U:Type}(sp:List (Sx U))(i:Nat):Sx U:=sp.getD i { deps:=[],r:=λ_=>rv undef }
def Xa {U:Type}(sp:List (Sx U))(u:U):List Sp:=sp.map λs=>⟨s.deps,s.r u,0⟩
def ZB {U:Type}(sp:List (Sx U))(u:U):List Sa:=sp.map λs=>{ deps:=s.deps,r:=s.r u }
def NQ {U:Type}:List (Sx U)→Prop
 | []=>True
 | s::r=>(s.dyn=false→∀u u',s.r u=s.r u')∧NQ r
theorem NQ.at {U:Type}:∀{sp:List (Sx U)},NQ sp→∀{i:Nat} {s:Sx U},sp[i]? =some s→s.dyn=false→∀u u',s.r u=s.r u'
 | [],_,i,s,h=>by simp at h
 | x::sp,⟨h1,h2⟩,0,s,h=>by simp at h;subst h;exact h1
 | x::sp,⟨h1,h2⟩,i+1,s,h=>NQ.at h2 (by simpa using h)
theorem Aaq {U:Type}{ds os:List Nat}{r:Rp}{sp:List (Sx U)}(h:NQ sp):NQ ({ deps:=ds,r:=λ_=>r,old:=os }::sp):=⟨λ_ _ _=>rfl,h⟩
theorem Aap {U:Type}{ds os:List Nat}{r:U→Rp}{sp:List (Sx U)}(h:NQ sp):NQ ({ deps:=ds,r:=r,dyn:=true,old:=os }::sp):=⟨λh'=>(by cases h'),h⟩
def HI (lw:Fr):List Nat→Fr→Fr
 | [],l=>l
 | d::r,l=>match look lw d with
  | some q=>(d,q)::HI lw r l
  | none=>HI lw r l
theorem Tg {n:Nat}{lw l:Fr}{a:Act}{Z:Fz}(h0:Dm n l a Z):∀{ds:List Nat},(∀d∈ds,∀q,look lw d=some q→∃v,a.tmps[d]? =some v∧q.p Z v)→Dm n (HI lw ds l) a Z
 | [],_=>h0
 | d::ds,h=>by
  have ih:=Tg h0 (ds:=ds) (λd' hd'=>h d' (by simp[hd']));unfold HI
  cases hd:look lw d with
  | none=>exact ih
  | some q=>
   refine⟨ih.size,ih.defers,λi r hi=>?_⟩;rw[C2] at hi
   split at hi
   ·rename_i e;subst e;simp at hi;subst hi;exact h d (by simp) q hd
   ·exact ih.tm i r hi
theorem Aao {U:Type}:NQ ([]:List (Sx U)):=trivial
def okX (n:Nat)(ops:List Oper)(N i0:Nat)(keys:List Nat)(deps:List (List Nat))(dyns:List Bool)(olds:List (List Nat)):Bool:=
 P1 ops N&&decide (N≤ops.length)&&decide (i0<N)&&
 (List.range N).all (λi=>match CD ops i with
  | some d=>decide (d<n)&&!keys.contains d&&(List.range N).all (λj=>j ==i||CD ops j !=some d)
  | none=>true)&&
 (List.range N).all (λi=>(deps.getD i []).all (λj=>decide (j<N)&&(Gm (ops.getD i default)).contains j))&&
 (List.range N).all (λi=>!dyns.getD i false||i ==i0||(Gm (ops.getD i default)).any (λe=>decide (e<N)&&(e ==i0||dyns.getD e false)))&&
 (List.range N).all (λi=>(olds.getD i []).all (λd=>(List.range N).all (λw=>CD ops w !=some d||(Gm (ops.getD w default)).contains i)))
section
variable (P : Program) (n : Nat) (c : Cx) (opsA : Array Oper) (Q : Exit → Act → World → Prop)
def OpX {U:Type}(l:Fr)(H:List Ent)(o:Oper)(r:U→Rp)(H1:U→List Ent):Prop:=
 ∀a w Z (K:Act→World→Prop),Dm n l a Z→St c H Z w→(∀u v w' Z',Fz.le Z Z'→(r u).p Z' v→St c (H1 u) Z' w'→K (a.put o.dst v) w')→
  Region.wanted o (yielded opsA a.tmps)=true∧o.wp P a w K Q
def LX {U:Type}(ops:List Oper)(sp:List (Sx U))(l0 lw:Fr)(i0:Nat)(H:List Ent)(H1:U→List Ent):Nat→List Oper→Prop
 | i,o::rest=>(if i=i0 then(∀u,OpX P n c opsA Q (HI lw (Ik sp i).old (Cd ops (Xa sp u) (Ik sp i).deps l0)) H o (Ik sp i).r H1) else ∀u H,Gu P n c opsA Q (HI lw (Ik sp i).old (Cd ops (Xa sp u) (Ik sp i).deps l0)) H o ((Ik sp i).r u) H)∧LX ops sp l0 lw i0 H H1 (i+1) rest
 | _,[]=>True
end
section
variable {P : Program} {n : Nat} {c : Cx} {opsA : Array Oper} {Q : Exit → Act → World → Prop} {l l0 lw : Fr} {U : Type} {H : List Ent} {H1 : U → List Ent} {sp : List (Sx U)} {i0 : Nat}
theorem LX.at {ops:List Oper}:∀{k:Nat} {rest:List Oper},LX P n c opsA Q ops sp l0 lw i0 H H1 k rest→∀(t:Nat) o,rest[t]? =some o→
  (if k+t=i0 then(∀u,OpX P n c opsA Q (HI lw (Ik sp (k+t)).old (Cd ops (Xa sp u) (Ik sp (k+t)).deps l0)) H o (Ik sp (k+t)).r H1) else ∀u H,Gu P n c opsA Q (HI lw (Ik sp (k+t)).old (Cd ops (Xa sp u) (Ik sp (k+t)).deps l0)) H o ((Ik sp (k+t)).r u) H)
 | k,o::rest,⟨h1,h2⟩,t,o',ht=>by
  cases t with
  | zero=>simp at ht;subst ht;exact h1
  | succ t=>
   have:=LX.at h2 t o' (by simpa using ht);rw[show k+(t+1)=k+1+t from by omega];exact this
 | _,[],_,t,o,h=>by simp at h
theorem Xl {id:Nat}{ops:List Oper}[Inhabited U](N i0:Nat)(sp:List (Sx U))(hm:P.follows .mixedOrders=true)(hB:okX n ops N i0 (Gt l0) (sp.map (·.deps)) (sp.map (·.dyn)) (sp.map (·.old))=true)(hl0:U7 l0 l)(hlw:U7 lw l)(hsp:sp.length=N)(hst:NQ sp)
  (hob:LX P n c ops.toArray Q ops sp l0 lw i0 H H1 0 (ops.take N)) (h:∀u,WL P n c ops.toArray Q (ops.drop N) (Mv (λ_=>0) (ops.take N) (ZB sp u) 0 l0) (H1 u)):WC P n c (.region id ops.toArray true) Q l H:=by
 intro a w Z ha hw;simp only[okX,AaO,Ab3,List.mem_range,AaL] at hB;obtain⟨⟨⟨⟨⟨⟨b1,bN⟩,b0⟩,b2⟩,b3⟩,b4⟩,b5⟩:=hB;have hget:∀i,i<N→(ops.take N)[i]? =ops[i]?:=λi hi=>by rw[Ab8,AbD hi]
 have hsa:∀i,i<N→sp[i]? =some (Ik sp i):=λi hi=>by
  simp[Ik,Abb,AaY (show i<sp.length by omega)]
 have hspq:∀u i,i<N→(Ez (Xa sp u) i)=⟨(Ik sp i).deps,(Ik sp i).r u,0⟩:=λu i hi=>by
  simp[Ez,Xa,Abb,Ab7,hsa i hi]
 have hdyn:∀j,j<N→(sp.map (·.dyn)).getD j false=(Ik sp j).dyn:=λj hj=>by simp[Abb,Ab7,hsa j hj]
 have hdep:∀j,j<N→(sp.map (·.deps)).getD j []=(Ik sp j).deps:=λj hj=>by simp[Abb,Ab7,hsa j hj]
 have hops:∀j,j<N→∃o,ops[j]? =some o:=λj hj=>⟨ops[j]'(by omega),AaY (by omega)⟩
 have hdst:∀i o d,i<N→ops[i]? =some o→o.dst=some d→(d<n∧d ∉ Gt l0)∧∀j,j<N→j≠i→CD ops j≠some d:=λi o d hi ho hd=>by
  have h3:=b2 i hi;have:CD ops i=some d:=by simp[CD,ho,hd]
  rw[this] at h3;simp only[AaO,Abi,Ab3,List.mem_range,AaL] at h3;refine⟨⟨h3.1.1,λhmem=>by rw[← List.contains_iff_mem] at hmem;rw[hmem] at h3;cases h3.1.2⟩,λj hj hne he=>?_⟩;have:=h3.2 j hj;simp[hne,he] at this
 refine UJ (N:=N) hm b1 bN (λS a w=>∃ (u:U) (Z:Fz),St c (if S i0=true then H1 u else H) Z w∧Dm n l0 a Z∧(∀j o d,j<N→S j=true→ops[j]? =some o→o.dst=some d→∃v,a.tmps[d]? =some v∧((Ik sp j).r u).p Z v)∧
   (∀j,j<N→(Ik sp j).dyn=true→S j=true→S i0=true)∧
   (∀d q,look lw d=some q→(∀wr,wr<N→CD ops wr=some d→S wr=false)→∃v,a.tmps[d]? =some v∧q.p Z v)∧
   ∀wr i d,wr<N→i<N→CD ops wr=some d→d∈(Ik sp i).old→S wr=true→S i=true)
  (λS S' a w hS hI=>?_) ⟨default,Z,?_,ha.subL hl0,λj o d _ hS=>(by cases hS),λj _ _ hS=>(by cases hS),λd q hd _=>(ha.subL hlw).tm d q hd,λwr i d _ _ _ _ hS=>(by cases hS)⟩ (λS i o a w hi hun ho hb hI K hK=>?_) (λa w hI=>?_)
 ·obtain⟨u,Z,h1,h2,h3,h4,h5,h6⟩:=hI;refine⟨u,Z,?_,h2,λj o d hj hS'=>h3 j o d hj (by rw[hS j hj];exact hS'),λj hj hd hSj=>?_,λd q hd hw'=>h5 d q hd (λwr hwr hdw=>by rw[hS wr hwr];exact hw' wr hwr hdw),λwr i d hwr hi hdw hold hSw=>by rw[← hS i hi];exact h6 wr i d hwr hi hdw hold (by rw[hS wr hwr];exact hSw)⟩
  ·rw[← hS i0 b0];exact h1
  ·rw[← hS i0 b0];exact h4 j hj hd (by rw[hS j hj];exact hSj)
 ·exact hw.drawn _
 ·obtain⟨u,Z,h1,h2,h3,hx,ho5,ho6⟩:=hI;have hput:∀k u v,a.tmps[k]? =some u→o.dst≠some k→(a.put o.dst v).tmps[k]? =some u:=λk u v hk hne=>by
   cases hd:o.dst with
   | none=>simpa[Act.put] using hk
   | some d=>
    simp only[Act.put,Array.getElem?_setIfInBounds];rw[Abw (λe=>hne (by rw[hd,e]))];exact hk
  have hagr:∀v Z',Fz.le Z Z'→Dm n l0 (a.put o.dst v) Z':=λv Z' hz=>by
   refine⟨?_,?_,λk r hk=>?_⟩
   ·cases o.dst<;>simp[Act.put,h2.size]
   ·cases o.dst<;>simp[Act.put,h2.defers]
   ·obtain⟨u,hu,hpu⟩:=h2.tm k r hk;exact⟨u,hput k u v hu (λe=>((hdst i o k hi ho e).1).2 (Lk hk)),r.mono hz hpu⟩
  have hvals:∀(v:Value) (Z':Fz) (u':U),Fz.le Z Z'→(∀j,j<N→j≠i→S j=true→(Ik sp j).r u'=(Ik sp j).r u)→(o.dst≠none→((Ik sp i).r u').p Z' v)→∀j o' d,j<N→(j ==i||S j)=true→ops[j]? =some o'→o'.dst=some d→∃q,(a.put o.dst v).tmps[d]? =some q∧((Ik sp j).r u').p Z' q:=by
   intro v Z' u' hz hβ hp j o' d hj hS' ho' hd
   by_cases hji:j=i
   ·subst hji;rw[ho] at ho';simp at ho';subst ho';refine⟨v,?_,hp (by simp[hd])⟩;have hdn:d<a.tmps.size:=by rw[h2.size];exact(hdst j o d hi ho hd).1.1
    simp[Act.put,hd,hdn]
   ·have hSj:S j=true:=by simpa[hji] using hS'
    obtain⟨q,hu,hpu⟩:=h3 j o' d hj hSj ho' hd;refine⟨q,hput d q v hu (λe=>(hdst i o d hi ho e).2 j hj hji (by simp[CD,ho',hd])),?_⟩;rw[hβ j hj hji hSj];exact((Ik sp j).r u).mono hz hpu
  have hat:=hob.at i o (by rw[hget i hi];exact ho);rw[Ab9] at hat;have hold':∀Z',Fz.le Z Z'→∀v d q,look lw d=some q→(∀wr,wr<N→CD ops wr=some d→(wr ==i||S wr)=false)→∃v',(a.put o.dst v).tmps[d]? =some v'∧q.p Z' v':=λZ' hz v d q hd hw'=>by
   obtain⟨v',e1,e2⟩:=ho5 d q hd (λwr hwr hdw=>by have:=hw' wr hwr hdw;simp only[Abn] at this;exact this.2);refine⟨v',hput d v' v e1 (λe=>?_),q.mono hz e2⟩;have:=hw' i hi (by simp[CD,ho,e]);simp at this
  have hord:∀wr k d,wr<N→k<N→CD ops wr=some d→d∈(Ik sp k).old→(wr ==i||S wr)=true→(k ==i||S k)=true:=λwr k d hwr hk hdw hmem hSw=>by
   by_cases hwi:wr=i
   ·subst hwi;have h7:=b5 k hk d (by simpa[Abb,Ab7,hsa k hk] using hmem) wr hwr;simp only[Abt,bne_iff_ne,ne_eq,hdw,not_true_eq_false,false_or] at h7;rw[Abb,ho,Ab0,List.contains_iff_mem] at h7;simp[(hb k h7).2]
   ·have:S k=true:=ho6 wr k d hwr hk hdw hmem (by simpa[hwi] using hSw);simp[this]
  have hag':Dm n (HI lw (Ik sp i).old (Cd ops (Xa sp u) (Ik sp i).deps l0)) a Z:=Tg (Ly h2 (λj hj d hd=>by
    obtain⟨h5,h6⟩:=b3 i hi j (by rw[hdep i hi];exact hj);rw[Abb,ho,Ab0,List.contains_iff_mem] at h6;obtain⟨o2,ho2⟩:=hops j h5;obtain⟨v,hv1,hv2⟩:=h3 j o2 d h5 (hb j h6).2 ho2 (by simpa[CD,ho2] using hd);refine⟨v,hv1,?_⟩;rw[hspq u j h5];exact hv2)) (λd hd q hq=>ho5 d q hq (λwr hwr hdw=>by
     cases hS:S wr with
     | false=>rfl
     | true=>have:=ho6 wr i d hwr hi hdw hd hS;rw[this] at hun;cases hun))
  by_cases hi0:i=i0
  ·subst hi0;rw[AbD rfl] at hat;rw[hun] at h1;have h1':St c H Z w:=by simpa using h1
   have key:=λK' hK'=>hat u a w Z K' hag' h1' hK';have h5:∀u' v w' Z',Fz.le Z Z'→((Ik sp i).r u').p Z' v→St c (H1 u') Z' w'→K (a.put o.dst v) w':=λu' v w' Z' hz hpv hs'=>by
    refine hK _ _ ⟨u',Z',by simpa using hs',hagr v Z' hz,hvals v Z' u' hz (λj hj hji hSj=>?_) (λ_=>hpv),λj _ _ _=>by simp,hold' Z' hz v,hord⟩;refine hst.at (hsa j hj) ?_ u' u
    cases hd:(Ik sp j).dyn with
    | false=>rfl
    | true=>have:=hx j hj hd hSj;rw[this] at hun;cases hun
   refine⟨λ_=>(key K h5).2,λhw'=>?_⟩;rw[(key K h5).1] at hw';cases hw'
  ·rw[Abw hi0] at hat;refine hat u _ a w Z K hag' h1 (λv w' Z' hz hp hst'=>hK _ _ ⟨u,Z',?_,hagr v Z' hz,hvals v Z' u hz (λ_ _ _ _=>rfl) (λ_=>hp),λj hj hd hSj=>?_,hold' Z' hz v,hord⟩)
   ·have hiS:(i0 ==i||S i0)=S i0:=by
     have:(i0 ==i)=false:=by simpa using λe=>hi0 e.symm
     rw[this];rfl
    show St c (if (i0 ==i||S i0)=true then H1 u else H) Z' w';rw[hiS];exact hst'
   ·have hii:(i0 ==i)=false:=by simpa using λe=>hi0 e.symm
    show(i0 ==i||S i0)=true;rw[hii,AaZ]
    by_cases hji:j=i
    ·subst hji;have h7:=b4 j hj;rw[hdyn j hj,hd] at h7;simp only[AaV,AaZ,Abt,beq_iff_eq,hi0,false_or,List.any_eq_true,AaO,AaL] at h7;obtain⟨e,he,heN,h8⟩:=h7;rw[Abb,ho,Ab0] at he;have hSe:=(hb e he).2;rcases h8 with h8 | h8
     ·subst h8;exact hSe
     ·rw[hdyn e heN] at h8;exact hx e heN h8 hSe
    ·exact hx j hj hd (by simpa[hji] using hSj)
 ·obtain⟨u,Z,h1,h2,h3,_,_,_⟩:=hI;have hsl:(ZB sp u).length=N:=by simp[ZB,hsp]
  refine h u a w Z (P6 h2 _ _ 0 (λt o s d ht hs hd=>?_)) (by simpa using h1);have htN:t<N:=by have:=(List.getElem?_eq_some_iff.1 hs).1;omega
  have hs':s = { deps:=(Ik sp t).deps,r:=(Ik sp t).r u }:=by
   simp only[ZB,Ab7,hsa t htN,Option.map_some,Option.some.injEq] at hs;exact hs.symm
  subst hs';rw[Ab9];exact h3 t o d htN rfl (by rw[← hget t htN];exact ht) hd
theorem YI [Inhabited U]{id:Nat}{ops:List Oper}(N i0:Nat)(ks0 ksw:List Nat)(sp:List (Sx U))(H1:U→List Ent)(hob:LX P n c ops.toArray Q ops sp l0 lw i0 H H1 0 (ops.take N))(h:∀u,WL P n c ops.toArray Q (ops.drop N) (Mv (λ_=>0) (ops.take N) (ZB sp u) 0 l0) (H1 u))
  (h0:Kp ks0 l l0:=by repeat (first | exact Oc | (apply LK;rfl) | (apply Mz;rfl))) (hw:Kp ksw l lw:=by repeat (first | exact Oc | (apply LK;rfl) | (apply Mz;rfl))) (hm:P.follows .mixedOrders=true:=by kernel_rfl) (hB:okX n ops N i0 (Gt l0) (sp.map (·.deps)) (sp.map (·.dyn)) (sp.map (·.old))=true:=by kernel_rfl)
  (hsp:sp.length=N:=by rfl) (hst:NQ sp:=by repeat (first | exact Aao | apply Aaq | apply Aap)):WC P n c (.region id ops.toArray true) Q l H:=Xl N i0 sp hm hB h0.one hw.one hsp hst hob h
theorem Y1 {all rest:List Oper}{d:Nat}{op:Op}{ty:TypeId}{pos:String}{af:Array Edge}{i:Nat}(hr:∀{u H},Bv P n c (HI lw (Ik sp i).old (Cd all (Xa sp u) (Ik sp i).deps l0)) H { dst:=some d,op:=op,type:=ty,pos:=pos,after:=af,guard:=none } ((Ik sp i).r u))(h:LX P n c opsA Q all sp l0 lw i0 H H1 (i+1) rest)(hne:Nat.beq i i0=false:=by rfl) :
  LX P n c opsA Q all sp l0 lw i0 H H1 i ({ dst:=some d,op:=op,type:=ty,pos:=pos,after:=af,guard:=none }::rest):=by
 refine⟨?_,h⟩;rw[Abw (λe=>by subst e;simp at hne)];exact λu H=>VA hr
theorem oxc {all rest:List Oper}{o:Oper}{i:Nat}(hr:∀{u H},Gu P n c opsA Q (HI lw (Ik sp i).old (Cd all (Xa sp u) (Ik sp i).deps l0)) H o ((Ik sp i).r u) H)(h:LX P n c opsA Q all sp l0 lw i0 H H1 (i+1) rest)(hne:Nat.beq i i0=false:=by rfl):LX P n c opsA Q all sp l0 lw i0 H H1 i (o::rest):=by
 refine⟨?_,h⟩;rw[Abw (λe=>by subst e;simp at hne)];exact λu H=>hr
theorem oxx {all rest:List Oper}{o:Oper}(hr:∀{u},OpX P n c opsA Q (HI lw (Ik sp i0).old (Cd all (Xa sp u) (Ik sp i0).deps l0)) H o (Ik sp i0).r H1)(h:LX P n c opsA Q all sp l0 lw i0 H H1 (i0+1) rest):LX P n c opsA Q all sp l0 lw i0 H H1 i0 (o::rest):=by
 refine⟨?_,h⟩;rw[AbD rfl];exact λu=>hr
theorem oxe {all:List Oper}{i:Nat}:LX P n c opsA Q all sp l0 lw i0 H H1 i []:=trivial
end
section
variable {P : Program} {n : Nat} {c : Cx} {opsA : Array Oper} {Q : Exit → Act → World → Prop} {l : Fr} {H : List Ent} {d : Nat} {x y : Operand} {ty t e : TypeId} {pos : String} {af : Array Edge} {v : Value} {sz : Nat}
theorem UI {α:Type}{xs ys:List α}{enc:α→List Rp}{i:Nat}{inf:TypeInfo}{z:Value}{bytes:Nat}(ht:P.underlying t=some (.slice e))(hinf:P.info? e=some inf)(hz:inf.zero=some z)(hsize:inf.size=sz)(hby:inf.bytes=bytes)(hzs:z.cells.size=sz)(hsz:Nat.blt 0 sz=true)(hbp:Nat.blt 0 bytes=true)
  (hx:ev l x=some (rv v)) (hi:H[i]? =some (.row v e sz (xs.map enc))) (hy:JW P n c l H y sz ys.length (ys.map enc).flatten) (henc:∀z,(enc z).length=sz) (hone:∀z,(enc z).all (·.one)=true) (hg:DC bytes (xs.length+ys.length)=true) :
  OpX P n c opsA Q l H { dst:=some d,op:=.call { callee:=.builtin .append,args:=#[x,y],argTypes:=#[t,t] },type:=ty,pos:=pos,after:=af,guard:=none } (λv'=>rv v') (λv'=>.row v' e sz ((xs++ys).map enc)::H.eraseIdx i):=λa w Z K ha hw hK=>by
  obtain⟨h0,us,h1,h2⟩:=hw.ent hi;obtain⟨ws,h3,h4⟩:=hy a w Z ha hw;have hsz':0<sz:=by simpa using hsz
  have hbp':0<bytes:=by simpa using hbp
  have hb:(xs.length+ys.length)*bytes≤140737488355328:=by simpa[DC] using hg
  have hle:xs.length+ys.length≤(xs.length+ys.length)*bytes:=Nat.le_mul_of_pos_right _ hbp';have hws:∀y∈ws,y.oneCell'=true:=Bf.one (rs:=(ys.map enc).flatten) (by
   rw[Ab3];intro r hr;obtain⟨cl,hcl,hrc⟩:=List.mem_flatten.1 hr;obtain⟨z',_,rfl⟩:=List.mem_map.1 hcl;exact List.all_eq_true.1 (hone z') r hrc) h3
  have hxl:(xs.map enc).length=xs.length:=Abk ..;rw[hxl] at h1;obtain⟨v',w',e1,e2,e3,e4⟩:=Ib (P:=P) ty ht hinf hz hsize hby hzs hsz' h1 h4 hws hb (by simp only[maxLen];omega);have hent:(Ent.row v' e sz ((xs++ys).map enc)).holds Z w':=⟨λcl hcl=>by obtain⟨z',_,rfl⟩:=List.mem_map.1 hcl;exact henc z',us++ws,by simpa using e2,by rw[AbI,List.flatten_append];exact h2.append h3⟩
  have hst:=hw.callF hi (St.one (e':=.row v' e sz ((xs++ys).map enc)) (M:=(Ent.row v e sz (xs.map enc)).foot) hw.frz hw.env hw.emono e3.os e3.tape e3.output e3.size (λk hk hne=>e3.block k hk (λe1=>hne (by simp[Ent.foot,← e1])))
   (hw.zdis _ (Abh hi)) hent (λk hk=>by
    simp only[Ent.foot,Option.mem_toList] at hk ⊢;rcases e4 with e4 | e4
    ·exact .inl (e4▸hk)
    ·exact .inr (e4 k hk)))
  refine⟨by simp[Region.wanted],?_⟩;unfold Oper.wp;rw[show(execOp a.eval { dst:=some d,op:=.call { callee:=.builtin .append,args:=#[x,y],argTypes:=#[t,t] },type:=ty,pos:=pos,after:=af,guard:=none }).run P w = .ok (.value v') w' from by simp[execOp,resolve,invoke,builtin,ha.eval hx,e1]];exact hK v' v' w' Z (Fz.le.refl _) rfl hst
end
abbrev Ux:=Nat→Nat→Value×Nat
def Ag (k:Nat)(u u':Ux):Prop:=∀j,j<k→u j=u' j
structure Sy where
 deps:List Nat
 r:Ux→Rp
 lv:Nat:=0
 fx:Bool:=false
 old:List Nat:=[]
def UA (sp:List Sy)(i:Nat):Sy:=sp.getD i { deps:=[],r:=λ_=>rv undef }
def syu (sp:List Sy)(u:Ux):List Sp:=sp.map λs=>⟨s.deps,s.r u,0⟩
def Tj:List Sy→Prop
 | []=>True
 | s::r=>(∀u u',Ag s.lv u u'→s.r u=s.r u')∧Tj r
theorem Tj.at:∀{sp:List Sy},Tj sp→∀{i:Nat} {s:Sy},sp[i]? =some s→∀u u',Ag s.lv u u'→s.r u=s.r u'
 | [],_,i,s,h=>by simp at h
 | x::sp,⟨h1,h2⟩,0,s,h=>by simp at h;subst h;exact h1
 | x::sp,⟨h1,h2⟩,i+1,s,h=>Tj.at h2 (by simpa using h)
def cnt (S:Nat→Bool)(is:List Nat):Nat:=(is.filter S).length
section
variable (P : Program) (n : Nat) (c : Cx) (opsA : Array Oper) (Q : Exit → Act → World → Prop)
def OpY (l:Fr)(H:List Ent)(o:Oper)(k:Nat)(u:Ux)(r:Ux→Rp)(H1:Ux→List Ent):Prop:=
 ∀a w Z (K:Act→World→Prop),Dm n l a Z→St c H Z w→(∀u' v w' Z',Ag k u u'→Fz.le Z Z'→(r u').p Z' v→St c (H1 u') Z' w'→K (a.put o.dst v) w')→
  Region.wanted o (yielded opsA a.tmps)=true∧o.wp P a w K Q
def ObY (ops:List Oper)(sp:List Sy)(l0 lw:Fr)(is:List Nat)(hs:List (Ux→List Ent))(i:Nat)(o:Oper):Prop:=
 match is.findIdx? (λx=>Nat.beq x i) with
 | some k=>∀u,OpY P n c opsA Q (HI lw (UA sp i).old (Cd ops (syu sp u) (UA sp i).deps l0)) (hs.getD k (λ_=>[]) u) o k u (UA sp i).r (hs.getD (k+1) (λ_=>[]))
 | none=>if (UA sp i).fx=true then ∀u,Gu P n c opsA Q (HI lw (UA sp i).old (Cd ops (syu sp u) (UA sp i).deps l0)) (hs.getD (UA sp i).lv (λ_=>[]) u) o ((UA sp i).r u) (hs.getD (UA sp i).lv (λ_=>[]) u)
  else ∀u H,Gu P n c opsA Q (HI lw (UA sp i).old (Cd ops (syu sp u) (UA sp i).deps l0)) H o ((UA sp i).r u) H
def Yw (ops:List Oper)(sp:List Sy)(l0 lw:Fr)(is:List Nat)(hs:List (Ux→List Ent)):Nat→List Oper→Prop
 | i,o::rest=>ObY P n c opsA Q ops sp l0 lw is hs i o∧Yw ops sp l0 lw is hs (i+1) rest
 | _,[]=>True
end
section
variable {P : Program} {n : Nat} {c : Cx} {opsA : Array Oper} {Q : Exit → Act → World → Prop} {l l0 lw : Fr} {H : List Ent} {hs : List (Ux → List Ent)} {sp : List Sy} {is : List Nat}
theorem Yw.at {ops:List Oper}:∀{k:Nat} {rest:List Oper},Yw P n c opsA Q ops sp l0 lw is hs k rest→∀(t:Nat) o,rest[t]? =some o→ObY P n c opsA Q ops sp l0 lw is hs (k+t) o
 | k,o::rest,⟨h1,h2⟩,t,o',ht=>by
  cases t with
  | zero=>simp at ht;subst ht;exact h1
  | succ t=>
   have:=Yw.at h2 t o' (by simpa using ht);rw[show k+(t+1)=k+1+t from by omega];exact this
 | _,[],_,t,o,h=>by simp at h
end
section
variable {P : Program} {n : Nat} {c : Cx} {opsA : Array Oper} {Q : Exit → Act → World → Prop} {l : Fr} {H : List Ent} {d : Nat} {x y : Operand} {ty t e : TypeId} {pos : String} {af : Array Edge} {v : Value} {sz : Nat}
end
set_option maxRecDepth 100000
set_option maxHeartbeats 4000000
@[reducible] def Ao (x:Ae):List Rp:=[rS x.fID,rI .i64 x.fAt,rS x.fTenant,rS x.fSource,Bo 4 (List.map Ab x.fBody)]
theorem DA (x:Ae):(Ao x).length=5:=rfl
theorem Jw (x:Ae):(Ao x).all (·.one)=true:=rfl
theorem WJ (ys:(List Aa))(r:(List Aa))(h:RX ys=some r):Fn Tryz.prog GE 65 [Bo 4 (List.map Ab ys)] [] (λR H=>R=Bo 4 (List.map Ab r)∧H=[]):=by
 refine enter (n:=8) Tryz.func65 rfl Tryz.ntmps65 rfl (λw Z=>?_);refine Bb (l':=[(0,Bo 4 (List.map Ab ys))]) (H':=[]) rfl rfl ?_;unfold RX at h;refine Ak (wv (r:=rv (.slice none 0 0)) (Ac rfl) (Ar (Am (Ak (wm rfl (wv (TS BN rfl) (Ar (UM rfl (λc1=>?_) (λc1=>?_)))))))))
 ·have e2:ys=[]:=List.map_eq_nil_iff.1 (c1 rfl);have h3:some ([]:List Aa)=some r:=by rw[e2] at h;exact(Av h).2
  refine Ak (wv (r:=rv (.slice none 0 0)) (Ac rfl) (Ar (Ax (Af (WK.up (d:=2) (r:=Bo 4 (List.map Ab ([]:List Aa))) rfl (Up.le (GJ.nil _)) ?_)))));obtain rfl:=Az h3;exact Aw (BS Tryz.results65 (AJ rfl)) sN ⟨rfl,rfl⟩
 ·refine At (AN (Ak (AY (ys:=([]:List Aa)) (enc:=Ab) (css:=[]) (xs:=[]) BN Cb EA rfl rfl rfl trivial rfl AU rfl rfl rfl (λb4=>?_))));refine wm rfl ?_;obtain⟨g6,h7⟩:=Av h;obtain⟨inf,hinf⟩:=Er;refine BV (xs:=([]:List Aa)) (ys:=ys) (enc:=Ab) (i:=0) BN hinf.1 hinf.2.1 hinf.2.2.1 hinf.2.2.2 rfl rfl rfl rfl rfl (JW.z rfl rfl) AU BF g6 rfl (λv5=>?_);refine wa rfl (Ar (Ax (WK.freeze (i:=0) rfl (WK.up (d:=2) (r:=Bo 4 (List.map Ab (([]:List Aa)++ys))) rfl (Up.fact (i:=0) rfl) ?_))));obtain rfl:=Az h7;exact Aw (BS Tryz.results65 (AJ rfl)) (sS sN) ⟨rfl,rfl⟩
theorem LP (c:Int)(r:Bool)(h:Db c=some r):Fn Tryz.prog GE 109 [rI .u8 c] [] (λR H=>R=rB r∧H=[]):=by
 refine enter (n:=9) Tryz.func109 rfl Tryz.ntmps109 rfl (λw Z=>?_);refine Bb (l':=[(0,rI .u8 c)]) (H':=[]) rfl rfl ?_;unfold Db at h;refine Ak (wv (r:=rB false) (Ac rfl) (Ar (AA [(2,rB ((decide (97≤c))&&(decide (c≤122))))] [] ?_ ?_)))
 ·refine Aj (wm rfl (wv (Gs rfl rfl) (wm rfl (AH (decide (97≤c)) (λc1=>?_) (λc1=>?_)))))
  ·refine wo c1 (wm rfl (wo c1 (wv (II rfl rfl) (Gk rfl c1 rfl (wa rfl (Al ?_))))));exact BO c1
  ·refine wf c1 (wf c1 (wv (r:=rB false) (A4 (b:=decide (97≤c)) rfl c1 rfl) (wa rfl (Al ?_))));exact BO c1
 refine Ax ?_;obtain rfl:=Az h;exact Aw (BS Tryz.results109 (AJ rfl)) sN ⟨rfl,rfl⟩
theorem LQ (c:Int)(r:Bool)(h:E7 c=some r):Fn Tryz.prog GE 110 [rI .u8 c] [] (λR H=>R=rB r∧H=[]):=by
 refine enter (n:=9) Tryz.func110 rfl Tryz.ntmps110 rfl (λw Z=>?_);refine Bb (l':=[(0,rI .u8 c)]) (H':=[]) rfl rfl ?_;unfold E7 at h;refine Ak (wv (r:=rB false) (Ac rfl) (Ar (AA [(2,rB ((decide (48≤c))&&(decide (c≤57))))] [] ?_ ?_)))
 ·refine Aj (wm rfl (wv (Gs rfl rfl) (wm rfl (AH (decide (48≤c)) (λc1=>?_) (λc1=>?_)))))
  ·refine wo c1 (wm rfl (wo c1 (wv (II rfl rfl) (Gk rfl c1 rfl (wa rfl (Al ?_))))));exact BO c1
  ·refine wf c1 (wf c1 (wv (r:=rB false) (A4 (b:=decide (48≤c)) rfl c1 rfl) (wa rfl (Al ?_))));exact BO c1
 refine Ax ?_;obtain rfl:=Az h;exact Aw (BS Tryz.results110 (AJ rfl)) sN ⟨rfl,rfl⟩
theorem Wp (c:Int)(r:Bool)(h:Pt c=some r):Fn Tryz.prog GE 108 [rI .u8 c] [] (λR H=>R=rB r∧H=[]):=by
 refine enter (n:=37) Tryz.func108 rfl Tryz.ntmps108 rfl (λw Z=>?_);refine Bb (l':=[(0,rI .u8 c)]) (H':=[]) rfl rfl ?_;unfold Pt at h;refine Ak (wv (r:=rB false) (Ac rfl) (Ar (Dz (S:=(Bool)×(Unit)) (λσ=>Ct σ.1=some r) (λσ=>[(2,rB σ.1)]) (λσ=>[]) ?_ ?_)))
 ·refine Aj (wm rfl ?_);obtain⟨ho,h5,hq⟩:=AL h;refine Co Tryz.call109 (LP c ho h5) rfl (wm rfl (AH (ho) (λc53=>?_) (λc53=>?_)))
  ·have h6:=AB c53 hq;refine wf c53 (wf c53 (wf c53 (wu (wu (wf c53 (wv (r:=rB true) (As (b:=ho) rfl c53 rfl) (wm rfl (An (b:=true) rfl rfl rfl rfl (An (b:=true) rfl rfl rfl rfl (wv (r:=rB true) (As (b:=true) rfl rfl rfl) (wm rfl (An (b:=true) rfl rfl rfl rfl (An (b:=true) rfl rfl rfl rfl (wv (r:=rB true) (As (b:=true) rfl rfl rfl) (wm rfl (An (b:=true) rfl rfl rfl rfl (An (b:=true) rfl rfl rfl rfl (wv (r:=rB true) (As (b:=true) rfl rfl rfl) (wm rfl (An (b:=true) rfl rfl rfl rfl (An (b:=true) rfl rfl rfl rfl (wv (r:=rB true) (As (b:=true) rfl rfl rfl) (wm rfl ?_)))))))))))))))))))))));exact An (b:=true) rfl rfl rfl rfl (An (b:=true) rfl rfl rfl rfl (wv (r:=rB true) (As (b:=true) rfl rfl rfl) (wm rfl (An (b:=true) rfl rfl rfl rfl (An (b:=true) rfl rfl rfl rfl (wv (r:=rB true) (As (b:=true) rfl rfl rfl) (wa rfl (Al (Aq (AG (true,()) h6 (AQ.c rfl AQ.nil) sN))))))))))
  ·have hr:=AC c53 hq;refine wo c53 (wm rfl (wo c53 (wv (Gs rfl rfl) (wo c53 (wm rfl (AH (decide (65≤c)) (λha=>?_) (λha=>?_)))))))
   ·have hs:=AB ha hr;refine wo ha (wm rfl (wo ha (wv (II rfl rfl) (wo c53 (Gk rfl ha rfl (D4 rfl c53 rfl (wm rfl (AH (decide (c≤90)) (λhb=>?_) (λhb=>?_)))))))))
    ·have h7:=AB hb hs;refine wf hb (wf hb (wv (r:=rB true) (As (b:=decide (c≤90)) rfl hb rfl) (wm rfl (An (b:=true) rfl rfl rfl rfl (An (b:=true) rfl rfl rfl rfl (wv (r:=rB true) (As (b:=true) rfl rfl rfl) (wm rfl (An (b:=true) rfl rfl rfl rfl (An (b:=true) rfl rfl rfl rfl (wv (r:=rB true) (As (b:=true) rfl rfl rfl) (wm rfl (An (b:=true) rfl rfl rfl rfl (An (b:=true) rfl rfl rfl rfl (wv (r:=rB true) (As (b:=true) rfl rfl rfl) (wm rfl (An (b:=true) rfl rfl rfl rfl (An (b:=true) rfl rfl rfl rfl (wv (r:=rB true) (As (b:=true) rfl rfl rfl) (wm rfl (An (b:=true) rfl rfl rfl rfl (An (b:=true) rfl rfl rfl rfl (wv (r:=rB true) (As (b:=true) rfl rfl rfl) (wa rfl ?_)))))))))))))))))))))));exact Al (Aq (AG (true,()) h7 (AQ.c rfl AQ.nil) sN))
    ·have h8:=AC hb hs;refine wo hb (wm rfl (wo hb ?_));obtain⟨hp,h9,ht⟩:=AL h8;refine Co Tryz.call110 (LQ c hp h9) rfl (D4 rfl hb rfl (wm rfl (AH (hp) (λhd=>?_) (λhd=>?_))))
     ·have hA:=AB hd ht;exact wf hd (wf hd (wv (r:=rB true) (As (b:=hp) rfl hd rfl) (wm rfl (An (b:=true) rfl rfl rfl rfl (An (b:=true) rfl rfl rfl rfl (wv (r:=rB true) (As (b:=true) rfl rfl rfl) (wm rfl (An (b:=true) rfl rfl rfl rfl (An (b:=true) rfl rfl rfl rfl (wv (r:=rB true) (As (b:=true) rfl rfl rfl) (wm rfl (An (b:=true) rfl rfl rfl rfl (An (b:=true) rfl rfl rfl rfl (wv (r:=rB true) (As (b:=true) rfl rfl rfl) (wm rfl (An (b:=true) rfl rfl rfl rfl (An (b:=true) rfl rfl rfl rfl (wv (r:=rB true) (As (b:=true) rfl rfl rfl) (wa rfl (Al (Aq (AG (true,()) hA (AQ.c rfl AQ.nil) sN))))))))))))))))))))))
     ·have hu:=AC hd ht;refine wo hd (wm rfl (wo hd (wv (B3 rfl rfl) (D4 rfl hd rfl (wm rfl (AH (decide (c=45)) (λhe=>?_) (λhe=>?_)))))))
      ·have hB:=AB he hu;exact wf he (wf he (wv (r:=rB true) (As (b:=decide (c=45)) rfl he rfl) (wm rfl (An (b:=true) rfl rfl rfl rfl (An (b:=true) rfl rfl rfl rfl (wv (r:=rB true) (As (b:=true) rfl rfl rfl) (wm rfl (An (b:=true) rfl rfl rfl rfl (An (b:=true) rfl rfl rfl rfl (wv (r:=rB true) (As (b:=true) rfl rfl rfl) (wm rfl (An (b:=true) rfl rfl rfl rfl (An (b:=true) rfl rfl rfl rfl (wv (r:=rB true) (As (b:=true) rfl rfl rfl) (wa rfl (Al (Aq (AG (true,()) hB (AQ.c rfl AQ.nil) sN))))))))))))))))))
      ·have hw:=AC he hu;refine wo he (wm rfl (wo he (wv (B3 rfl rfl) (D4 rfl he rfl (wm rfl (AH (decide (c=95)) (λhf=>?_) (λhf=>?_)))))))
       ·have hC:=AB hf hw;exact wf hf (wf hf (wv (r:=rB true) (As (b:=decide (c=95)) rfl hf rfl) (wm rfl (An (b:=true) rfl rfl rfl rfl (An (b:=true) rfl rfl rfl rfl (wv (r:=rB true) (As (b:=true) rfl rfl rfl) (wm rfl (An (b:=true) rfl rfl rfl rfl (An (b:=true) rfl rfl rfl rfl (wv (r:=rB true) (As (b:=true) rfl rfl rfl) (wa rfl (Al (Aq (AG (true,()) hC (AQ.c rfl AQ.nil) sN))))))))))))))
       ·have hx:=AC hf hw;refine wo hf (wm rfl (wo hf (wv (B3 rfl rfl) (D4 rfl hf rfl (wm rfl (AH (decide (c=46)) (λhg=>?_) (λhg=>?_)))))))
        ·have hD:=AB hg hx;exact wf hg (wf hg (wv (r:=rB true) (As (b:=decide (c=46)) rfl hg rfl) (wm rfl (An (b:=true) rfl rfl rfl rfl (An (b:=true) rfl rfl rfl rfl (wv (r:=rB true) (As (b:=true) rfl rfl rfl) (wa rfl (Al (Aq (AG (true,()) hD (AQ.c rfl AQ.nil) sN))))))))))
        ·have hy:=AC hg hx;refine wo hg (wm rfl (wo hg (wv (B3 rfl rfl) (D4 rfl hg rfl (wm rfl (AH (decide (c=58)) (λc76=>?_) (λc76=>?_)))))))
         ·have hE:=AB c76 hy;exact wf c76 (wf c76 (wv (r:=rB true) (As (b:=decide (c=58)) rfl c76 rfl) (wa rfl (Al (Aq (AG (true,()) hE (AQ.c rfl AQ.nil) sN))))))
         ·have hG:=AC c76 hy;exact wo c76 (wm rfl (wo c76 (wv (B3 rfl rfl) (D4 rfl c76 rfl (wa rfl (Al (Aq (AG (decide (c=47),()) hG (AQ.c rfl AQ.nil) sN))))))))
   ·have hH:=AC ha hr;refine wf ha (wf ha (wo c53 (wv (r:=rB false) (A4 (b:=decide (65≤c)) rfl ha rfl) (D4 rfl c53 rfl (wm rfl (AW (b:=false) rfl rfl rfl (wm rfl (AW (b:=false) rfl rfl rfl ?_))))))));obtain⟨hm,hI,hz⟩:=AL hH;refine Co Tryz.call110 (LQ c hm hI) rfl (wv (r:=rB hm) (A4 (b:=false) rfl rfl rfl) (wm rfl (AH (hm) (λhh=>?_) (λhh=>?_))))
    ·have hJ:=AB hh hz;exact wf hh (wf hh (wv (r:=rB true) (As (b:=hm) rfl hh rfl) (wm rfl (An (b:=true) rfl rfl rfl rfl (An (b:=true) rfl rfl rfl rfl (wv (r:=rB true) (As (b:=true) rfl rfl rfl) (wm rfl (An (b:=true) rfl rfl rfl rfl (An (b:=true) rfl rfl rfl rfl (wv (r:=rB true) (As (b:=true) rfl rfl rfl) (wm rfl (An (b:=true) rfl rfl rfl rfl (An (b:=true) rfl rfl rfl rfl (wv (r:=rB true) (As (b:=true) rfl rfl rfl) (wm rfl (An (b:=true) rfl rfl rfl rfl (An (b:=true) rfl rfl rfl rfl (wv (r:=rB true) (As (b:=true) rfl rfl rfl) (wa rfl (Al (Aq (AG (true,()) hJ (AQ.c rfl AQ.nil) sN))))))))))))))))))))))
    ·have h0:=AC hh hz;refine wo hh (wm rfl (wo hh (wv (B3 rfl rfl) (D4 rfl hh rfl (wm rfl (AH (decide (c=45)) (λhi=>?_) (λhi=>?_)))))))
     ·have hK:=AB hi h0;exact wf hi (wf hi (wv (r:=rB true) (As (b:=decide (c=45)) rfl hi rfl) (wm rfl (An (b:=true) rfl rfl rfl rfl (An (b:=true) rfl rfl rfl rfl (wv (r:=rB true) (As (b:=true) rfl rfl rfl) (wm rfl (An (b:=true) rfl rfl rfl rfl (An (b:=true) rfl rfl rfl rfl (wv (r:=rB true) (As (b:=true) rfl rfl rfl) (wm rfl (An (b:=true) rfl rfl rfl rfl (An (b:=true) rfl rfl rfl rfl (wv (r:=rB true) (As (b:=true) rfl rfl rfl) (wa rfl (Al (Aq (AG (true,()) hK (AQ.c rfl AQ.nil) sN))))))))))))))))))
     ·have h1:=AC hi h0;refine wo hi (wm rfl (wo hi (wv (B3 rfl rfl) (D4 rfl hi rfl (wm rfl (AH (decide (c=95)) (λhj=>?_) (λhj=>?_)))))))
      ·have hL:=AB hj h1;exact wf hj (wf hj (wv (r:=rB true) (As (b:=decide (c=95)) rfl hj rfl) (wm rfl (An (b:=true) rfl rfl rfl rfl (An (b:=true) rfl rfl rfl rfl (wv (r:=rB true) (As (b:=true) rfl rfl rfl) (wm rfl (An (b:=true) rfl rfl rfl rfl (An (b:=true) rfl rfl rfl rfl (wv (r:=rB true) (As (b:=true) rfl rfl rfl) (wa rfl (Al (Aq (AG (true,()) hL (AQ.c rfl AQ.nil) sN))))))))))))))
      ·have h2:=AC hj h1;refine wo hj (wm rfl (wo hj (wv (B3 rfl rfl) (D4 rfl hj rfl (wm rfl (AH (decide (c=46)) (λhk=>?_) (λhk=>?_)))))))
       ·have hN:=AB hk h2;exact wf hk (wf hk (wv (r:=rB true) (As (b:=decide (c=46)) rfl hk rfl) (wm rfl (An (b:=true) rfl rfl rfl rfl (An (b:=true) rfl rfl rfl rfl (wv (r:=rB true) (As (b:=true) rfl rfl rfl) (wa rfl (Al (Aq (AG (true,()) hN (AQ.c rfl AQ.nil) sN))))))))))
       ·have h3:=AC hk h2;refine wo hk (wm rfl (wo hk (wv (B3 rfl rfl) (D4 rfl hk rfl (wm rfl (AH (decide (c=58)) (λhl=>?_) (λhl=>?_)))))))
        ·have hO:=AB hl h3;exact wf hl (wf hl (wv (r:=rB true) (As (b:=decide (c=58)) rfl hl rfl) (wa rfl (Al (Aq (AG (true,()) hO (AQ.c rfl AQ.nil) sN))))))
        ·have hP:=AC hl h3;exact wo hl (wm rfl (wo hl (wv (B3 rfl rfl) (D4 rfl hl rfl (wa rfl (Al (Aq (AG (decide (c=47),()) hP (AQ.c rfl AQ.nil) sN))))))))
 ·rintro⟨h4,⟨⟩⟩ hn;refine Bb (l':=[(2,rB h4)]) (H':=[]) rfl rfl ?_;replace hn:Ct h4=some r:=hn;unfold Ct at hn;refine Ax ?_;obtain rfl:=Az hn;exact Aw (BS Tryz.results108 (AJ rfl)) sN ⟨rfl,rfl⟩
theorem Zj (F:Nat)(s:Ah)(r:Bool)(h:Wq F s=some r):Fn Tryz.prog GE 76 [rS s] [] (λR H=>R=rB r∧H=[]):=by
 refine enter (n:=23) Tryz.func76 rfl Tryz.ntmps76 rfl (λw Z=>?_);refine Bb (l':=[(0,rS s)]) (H':=[]) rfl rfl ?_;unfold Wq at h;refine Ak (wv (r:=rB false) (Ac rfl) (Ar (Am (AA [(0,rS s),(11,rB ((decide ((s.length:Int)<1))||(decide (64<(s.length:Int)))))] [] ?_ ?_))))
 ·refine Aj (wm rfl (wv (Bd BP rfl) (wv (Cp rfl rfl) (wm rfl (AH (decide ((s.length:Int)<1)) (λc1=>?_) (λc1=>?_))))))
  ·refine wf c1 (wf c1 (wf c1 (wv (r:=rB true) (As (b:=decide ((s.length:Int)<1)) rfl c1 rfl) (Al ?_))));exact BO c1
  ·refine wo c1 (wm rfl (wo c1 (wv (Bd BP rfl) (wo c1 (wv (Cl rfl rfl) (D4 rfl c1 rfl (Al ?_)))))));exact BO c1
 refine Ap (b:=((decide ((s.length:Int)<1))||(decide (64<(s.length:Int))))) rfl (λc2=>?_) (λc2=>?_)
 ·have h3:=AB c2 h;refine Ak (wv (r:=rB false) (Ac rfl) (Ar (Ax (Af ?_))));obtain rfl:=Az h3;exact Aw (BS Tryz.results76 (AJ rfl)) sN ⟨rfl,rfl⟩
 ·have h4:=AC c2 h;refine At (AN (Am (Ak (wv (r:=rI .i64 0) (Ac rfl) (Ar (AO ?_))))));obtain⟨hj,hk,hg⟩:=AL h4;refine BA (S:=Nat×(Int)×(Unit)) (V:=(Unit)×(Unit)) 0 (λσ=>Cg (λσ=>Hq s σ) σ.1 σ.2.1=some hj) (λσ=>[(0,rS s),(3,rI .i64 σ.2.1)]) (λσ=>[]) (λσ=>σ.1) (F,0,()) hk (AQ.c rfl (AQ.c rfl AQ.nil)) sN (λσ=>MQ =some r) (λσ=>[]) (λσ=>[]) ?_ ?_
  ·rintro⟨h1,ha,⟨⟩⟩ hl;refine Bb (l':=[(0,rS s),(3,rI .i64 ha)]) (H':=[]) rfl rfl ?_;obtain⟨hm,rfl,hn,hb,he⟩:=CM hl;replace hb:Hq s ha=some hn:=hb;unfold Hq at hb;refine Am (Ak (wm rfl (wm rfl (wv (Bd BP rfl) (wv (Cp rfl rfl) (Ar (Ap (b:=decide (ha<(s.length:Int))) rfl (λc53=>?_) (λc53=>?_))))))))
   ·have ho:=AB c53 hb;refine At (AN (Am (AO (Ak (wm rfl (wm rfl ?_))))));obtain⟨hp,hq⟩:=Av ho;refine wv (AV BP rfl rfl hp) ?_;obtain⟨hh,hr,hi⟩:=AL hq;refine Co Tryz.call108 (Wp (AT s ha) hh hr) rfl (wv (BJ rfl) (Ar (Ap (b:=!hh) rfl (λhf=>?_) (λhf=>?_))))
    ·have hs:=AB hf hi;refine Ak (wv (r:=rB false) (Ac rfl) (Ar (Ax (A3 (Af (Af (Bc ?_)))))));have ht:=B1 hs he hg;refine A3 (Af ?_);obtain rfl:=Az ht;exact Aw (BS Tryz.results76 (AJ rfl)) sN ⟨rfl,rfl⟩
    ·have hu:=AC hf hi;refine At (AK (AN (Aj (wm rfl ?_))));obtain⟨hw,hx⟩:=Av hu;refine wv (Bi rfl rfl hw) (wa rfl (Al ?_));have hy:=Bk hx he;exact Aq (AG (hm,ha+1,()) ⟨hy,AaX _⟩ (AQ.c rfl (AQ.c rfl AQ.nil)) sN)
   ·have hz:=AC c53 hb;refine B9 (A5 ?_);have h0:=Cj hz he hg;exact A5 (Br (AG ((),()) h0 AQ.nil sN))
  ·rintro⟨⟨⟩,⟨⟩⟩ hd;refine CR (l':=[]) (H':=[]) rfl rfl ?_;replace hd:MQ =some r:=hd;unfold MQ at hd;refine Bm (AN (Ak (wv (r:=rB true) (Ac rfl) (Ar (Ax ?_)))));obtain rfl:=Az hd;exact Aw (BS Tryz.results76 (AJ rfl)) sN ⟨rfl,rfl⟩
theorem QQ (F:Nat)(s:Ah)(r:Bool)(h:Es F s=some r):Fn Tryz.prog GE 77 [rS s] [] (λR H=>R=rB r∧H=[]):=by
 refine enter (n:=48) Tryz.func77 rfl Tryz.ntmps77 rfl (λw Z=>?_);refine Bb (l':=[(0,rS s)]) (H':=[]) rfl rfl ?_;unfold Es at h;refine Ak (wv (r:=rB false) (Ac rfl) (Ar (Am ?_)));obtain⟨g1,h2⟩:=Av h;obtain⟨g3,h4⟩:=Av h2;refine AA [(0,rS s),(17,rB ((decide ((s.length:Int)<1))||((decide (24<(s.length:Int)))||(!(ov (Db (AT s 0)))))))] [] ?_ ?_
 ·refine Aj (wm rfl (wv (Bd BP rfl) (wv (Cp rfl rfl) (wm rfl (AH (decide ((s.length:Int)<1)) (λc5=>?_) (λc5=>?_))))))
  ·refine wf c5 (wf c5 (wf c5 (wv (r:=rB true) (As (b:=decide ((s.length:Int)<1)) rfl c5 rfl) (wm rfl (An (b:=true) rfl rfl rfl rfl (An (b:=true) rfl rfl rfl rfl (An (b:=true) rfl rfl rfl rfl (An (b:=true) rfl rfl rfl rfl (wv (r:=rB true) (As (b:=true) rfl rfl rfl) (Al ?_))))))))));exact BO c5
  ·refine wo c5 (wm rfl (wo c5 (wv (Bd BP rfl) (wo c5 (wv (Cl rfl rfl) (D4 rfl c5 rfl (wm rfl (AH (decide (24<(s.length:Int))) (λc6=>?_) (λc6=>?_)))))))))
   ·refine wf c6 (wf c6 (wf c6 (wf c6 (wv (r:=rB true) (As (b:=decide (24<(s.length:Int))) rfl c6 rfl) (Al ?_)))));exact BO (And.intro c5 c6)
   ·refine wo c6 (wm rfl (wo c6 (wv (AV BP rfl rfl (C4 (C4 g1 c5) c6)) (wo c6 (Co Tryz.call109 (LP (AT s 0) (ov (Db (AT s 0))) (Gr (C4 (C4 g3 c5) c6))) rfl (wo c6 (wv (BJ rfl) (D4 rfl c6 rfl (Al ?_)))))))));exact BO (And.intro c5 c6)
 refine Ap (b:=((decide ((s.length:Int)<1))||((decide (24<(s.length:Int)))||(!(ov (Db (AT s 0))))))) rfl (λc7=>?_) (λc7=>?_)
 ·have h8:=AB c7 h4;refine Ak (wv (r:=rB false) (Ac rfl) (Ar (Ax (Af ?_))));obtain rfl:=Az h8;exact Aw (BS Tryz.results77 (AJ rfl)) sN ⟨rfl,rfl⟩
 ·have h9:=AC c7 h4;refine At (AN (Am (Ak (wv (r:=rI .i64 1) (Ac rfl) (Ar (AO ?_))))));obtain⟨hm,hn,hk⟩:=AL h9;refine BA (S:=Nat×(Int)×(Unit)) (V:=(Unit)×(Unit)) 0 (λσ=>Cg (λσ=>Gh s σ) σ.1 σ.2.1=some hm) (λσ=>[(0,rS s),(3,rI .i64 σ.2.1)]) (λσ=>[]) (λσ=>σ.1) (F,1,()) hn (AQ.c rfl (AQ.c rfl AQ.nil)) sN (λσ=>JS =some r) (λσ=>[]) (λσ=>[]) ?_ ?_
  ·rintro⟨h7,ha,⟨⟩⟩ ho;refine Bb (l':=[(0,rS s),(3,rI .i64 ha)]) (H':=[]) rfl rfl ?_;obtain⟨hp,rfl,hq,he,hh⟩:=CM ho;replace he:Gh s ha=some hq:=he;unfold Gh at he;refine Am (Ak (wm rfl (wm rfl (wv (Bd BP rfl) (wv (Cp rfl rfl) (Ar (Ap (b:=decide (ha<(s.length:Int))) rfl (λhi=>?_) (λhi=>?_))))))))
   ·have hr:=AB hi he;refine At (AN (Am (AO ?_)));obtain⟨hf,hs⟩:=Av hr;obtain⟨ht,hu⟩:=Av hs;obtain⟨hw,hl⟩:=Av hu;refine AA [(0,rS s),(3,rI .i64 ha),(47,rB ((!(ov (Db (AT s ha))))&&((!(ov (E7 (AT s ha))))&&((!decide ((AT s ha)=45))&&(!decide ((AT s ha)=95))))))] [] ?_ ?_
    ·refine Aj (wm rfl (wm rfl (wv (AV BP rfl rfl hf) (Co Tryz.call109 (LP (AT s ha) (ov (Db (AT s ha))) (Gr ht)) rfl (wv (BJ rfl) (wm rfl (AH (!(ov (Db (AT s ha)))) (λhb=>?_) (λhb=>?_))))))))
     ·refine wo hb (wm rfl (wo hb (wm rfl (wo hb (wv (AV BP rfl rfl hf) (wo hb (Co Tryz.call110 (LQ (AT s ha) (ov (E7 (AT s ha))) (Gr (C0 hw hb))) rfl (wo hb (wv (BJ rfl) (Gk rfl hb rfl (wm rfl (AH (!(ov (E7 (AT s ha)))) (λhd=>?_) (λhd=>?_)))))))))))))
      ·refine wo hd (wm rfl (wo hd (wm rfl (wo hd (wv (AV BP rfl rfl hf) (wo hd (wv (CF rfl rfl) (Gk rfl hd rfl (wm rfl (AH (!decide ((AT s ha)=45)) (λc80=>?_) (λc80=>?_)))))))))))
       ·refine wo c80 (wm rfl (wo c80 (wm rfl (wo c80 (wv (AV BP rfl rfl hf) (wo c80 (wv (CF rfl rfl) (Gk rfl c80 rfl (Al ?_)))))))));exact BO (And.intro hb (And.intro hd c80))
       ·refine wf c80 (wf c80 (wf c80 (wf c80 (wv (r:=rB false) (A4 (b:=!decide ((AT s ha)=45)) rfl c80 rfl) (Al ?_)))));exact BO (And.intro hb (And.intro hd c80))
      ·refine wf hd (wf hd (wf hd (wf hd (wv (r:=rB false) (A4 (b:=!(ov (E7 (AT s ha)))) rfl hd rfl) (wm rfl (An (b:=false) rfl rfl rfl rfl (An (b:=false) rfl rfl rfl rfl (An (b:=false) rfl rfl rfl rfl (An (b:=false) rfl rfl rfl rfl (wv (r:=rB false) (A4 (b:=false) rfl rfl rfl) (Al ?_)))))))))));exact BO (And.intro hb hd)
     ·refine wf hb (wf hb (wf hb (wf hb (wf hb (wv (r:=rB false) (A4 (b:=!(ov (Db (AT s ha)))) rfl hb rfl) (wm rfl (An (b:=false) rfl rfl rfl rfl (An (b:=false) rfl rfl rfl rfl (An (b:=false) rfl rfl rfl rfl (An (b:=false) rfl rfl rfl rfl (wv (r:=rB false) (A4 (b:=false) rfl rfl rfl) (wm rfl (An (b:=false) rfl rfl rfl rfl (An (b:=false) rfl rfl rfl rfl (An (b:=false) rfl rfl rfl rfl (An (b:=false) rfl rfl rfl rfl (wv (r:=rB false) (A4 (b:=false) rfl rfl rfl) (Al ?_))))))))))))))))));exact BO hb
    refine Ap (b:=((!(ov (Db (AT s ha))))&&((!(ov (E7 (AT s ha))))&&((!decide ((AT s ha)=45))&&(!decide ((AT s ha)=95)))))) rfl (λhj=>?_) (λhj=>?_)
    ·have hx:=AB hj hl;refine Ak (wv (r:=rB false) (Ac rfl) (Ar (Ax (A3 (Af (Af (Bc ?_)))))));have hy:=B1 hx hh hk;refine A3 (Af ?_);obtain rfl:=Az hy;exact Aw (BS Tryz.results77 (AJ rfl)) sN ⟨rfl,rfl⟩
    ·have hz:=AC hj hl;refine At (AK (AN (Aj (wm rfl ?_))));obtain⟨h0,h1⟩:=Av hz;refine wv (Bi rfl rfl h0) (wa rfl (Al ?_));have h3:=Bk h1 hh;exact Aq (AG (hp,ha+1,()) ⟨h3,AaX _⟩ (AQ.c rfl (AQ.c rfl AQ.nil)) sN)
   ·have h5:=AC hi he;refine B9 (A5 ?_);have h6:=Cj h5 hh hk;exact A5 (Br (AG ((),()) h6 AQ.nil sN))
  ·rintro⟨⟨⟩,⟨⟩⟩ hg;refine CR (l':=[]) (H':=[]) rfl rfl ?_;replace hg:JS =some r:=hg;unfold JS at hg;refine Bm (AN (Ak (wv (r:=rB true) (Ac rfl) (Ar (Ax ?_)))));obtain rfl:=Az hg;exact Aw (BS Tryz.results77 (AJ rfl)) sN ⟨rfl,rfl⟩
theorem Sn (n:Int)(r:Bool)(h:Jj n=some r):Fn Tryz.prog GE 58 [rI .i64 n] [] (λR H=>R=rB r∧H=[]):=by
 refine enter (n:=9) Tryz.func58 rfl Tryz.ntmps58 rfl (λw Z=>?_);refine Bb (l':=[(0,rI .i64 n)]) (H':=[]) rfl rfl ?_;unfold Jj at h;refine Ak (wv (r:=rB false) (Ac rfl) (Ar (AA [(2,rB ((decide (0≤n))&&(decide (n≤1073741824))))] [] ?_ ?_)))
 ·refine Aj (wm rfl (wv (Gs rfl rfl) (wm rfl (AH (decide (0≤n)) (λc1=>?_) (λc1=>?_)))))
  ·refine wo c1 (wm rfl (wo c1 (wv (II rfl rfl) (Gk rfl c1 rfl (wa rfl (Al ?_))))));exact BO c1
  ·refine wf c1 (wf c1 (wv (r:=rB false) (A4 (b:=decide (0≤n)) rfl c1 rfl) (wa rfl (Al ?_))));exact BO c1
 refine Ax ?_;obtain rfl:=Az h;exact Aw (BS Tryz.results58 (AJ rfl)) sN ⟨rfl,rfl⟩
theorem PX (F:Nat)(t:Ae)(r:Int)(h:L5 F t=some r):Fn Tryz.prog GE 44 [Bz (Ao t)] [] (λR H=>R=rI .i64 r∧H=[]):=by
 refine enter (n:=27) Tryz.func44 rfl Tryz.ntmps44 rfl (λw Z=>?_);refine Bb (l':=[(0,Bz (Ao t))]) (H':=[]) rfl rfl ?_;unfold L5 at h;refine Ak (C1 rfl rfl (λb1=>?_));refine wv (r:=rI .i64 0) (Ac rfl) (Ar (Am (AO (Ak (wv (Ad CQ rfl CV rfl rfl) (wv (A0 (i:=0) Dn rfl rfl rfl) (GB (rs:=[rS t.fID]) (r:=rB (Rl t.fID)) Tryz.call70 rfl (Aax t.fID) rfl rfl (wv (BJ rfl) (wa rfl (Ar (Ap (b:=!(Rl t.fID)) rfl (λc2=>?_) (λc2=>?_))))))))))))
 ·have h3:=AB c2 h;refine Ak (wv (r:=rI .i64 4) (Ac rfl) (Ar (Ax (A3 (Af ?_)))));obtain rfl:=Az h3;exact Aw (BS Xh (AJ rfl)) (sS sN) ⟨rfl,rfl⟩
 ·have h4:=AC c2 h;refine Ak (wv (Ad CQ rfl Cu rfl rfl) (wv (A0 (i:=0) Dd rfl rfl rfl) ?_));obtain⟨r5,e7,h6⟩:=AL h4;refine Co Tryz.call58 (Sn t.fAt r5 e7) rfl (wv (BJ rfl) (wa rfl (Ar (Ap (b:=!r5) rfl (λc8=>?_) (λc8=>?_)))))
  ·have h9:=AB c8 h6;refine Ak (wv (r:=rI .i64 2) (Ac rfl) (Ar (Ax (A3 (Af ?_)))));obtain rfl:=Az h9;exact Aw (BS Xh (AJ rfl)) (sS sN) ⟨rfl,rfl⟩
  ·have hd:=AC c8 h6;refine AA [(1,rv (.pointer (some ⟨b1,0,none⟩))),(13,rB ((!(CT t.fTenant))||(!(CT t.fSource))))] [.blk b1 (Ao t) 31] ?_ ?_
   ·refine Aj (wv (Ad CQ rfl CV rfl rfl) (wv (A0 (i:=0) Dn rfl rfl rfl) (GB (rs:=[rS t.fTenant]) (r:=rB (CT t.fTenant)) Tryz.call71 rfl (VS t.fTenant) rfl rfl (wv (BJ rfl) (wm rfl (AH (!(CT t.fTenant)) (λha=>?_) (λha=>?_)))))))
    ·refine wf ha (wf ha (wf ha (wf ha (wv (r:=rB true) (As (b:=!(CT t.fTenant)) rfl ha rfl) (wa rfl (Al ?_))))));exact BO ha
    ·refine wo ha (wv (Ad CQ rfl CV rfl rfl) (wo ha (wv (A0 (i:=0) Dn rfl rfl rfl) (wo ha (GB (rs:=[rS t.fSource]) (r:=rB (CT t.fSource)) Tryz.call71 rfl (VS t.fSource) rfl rfl (wo ha (wv (BJ rfl) (D4 rfl ha rfl (wa rfl (Al ?_))))))))));exact BO ha
   refine Ap (b:=((!(CT t.fTenant))||(!(CT t.fSource)))) rfl (λhb=>?_) (λhb=>?_)
   ·have he:=AB hb hd;refine Ak (wv (r:=rI .i64 4) (Ac rfl) (Ar (Ax (A3 (Af ?_)))));obtain rfl:=Az he;exact Aw (BS Xh (AJ rfl)) (sS sN) ⟨rfl,rfl⟩
   ·have hf:=AC hb hd;refine At (AK (AN (Ak (wv (Ad CQ rfl Ds rfl rfl) (wv (A0 (i:=0) GK rfl rfl rfl) ?_)))));obtain⟨hg,hh,hi⟩:=AL hf;refine Co Tryz.call72 (Nh F t.fBody hg hh) rfl (wa rfl (Ar (Ax ?_)));obtain rfl:=Az hi;exact Aw (BS Xh (AJ rfl)) (sS sN) ⟨rfl,rfl⟩
theorem UW (t:Ae)(r:Ae)(h:Xx t=some r):Fn Tryz.prog GE 38 [Bz (Ao t)] [] (λR H=>R=Bz (Ao r)∧H=[]):=by
 refine enter (n:=8) Tryz.func38 rfl Tryz.ntmps38 rfl (λw Z=>?_);refine Bb (l':=[(0,Bz (Ao t))]) (H':=[]) rfl rfl ?_;unfold Xx at h;refine Ak (C1 rfl rfl (λb1=>?_));refine Cf (cs:=[rS ([]:Ah),rI .i64 0,rS ([]:Ah),rS ([]:Ah),rv (.slice none 0 0)]) JX rfl rfl (λb2=>?_);refine By (wv (Ad CQ rfl Ds rfl rfl) (wv (A0 (i:=1) GK rfl rfl rfl) ?_));obtain⟨r3,e5,h4⟩:=AL h;refine Co Tryz.call65 (WJ t.fBody r3 e5) rfl (wv (Ad CQ rfl Ds rfl rfl) (BD (i:=1) Ds rfl rfl (Ck rfl) rfl rfl (cs':=[rS t.fID,rI .i64 t.fAt,rS t.fTenant,rS t.fSource,Bo 4 (List.map Ab r3)]) rfl (H':=[.blk b2 [rS ([]:Ah),rI .i64 0,rS ([]:Ah),rS ([]:Ah),rv (.slice none 0 0)] 31,.blk b1 [rS t.fID,rI .i64 t.fAt,rS t.fTenant,rS t.fSource,Bo 4 (List.map Ab r3)] 31]) rfl (By (wv (Bs (i:=1) DY Cc rfl rfl rfl rfl) (Bq (i:=0) Cc rfl rfl rfl (BM.c rfl) rfl rfl (cs':=[rS t.fID,rI .i64 t.fAt,rS t.fTenant,rS t.fSource,Bo 4 (List.map Ab r3)]) rfl (H':=[.blk b2 [rS t.fID,rI .i64 t.fAt,rS t.fTenant,rS t.fSource,Bo 4 (List.map Ab r3)] 31,.blk b1 [rS t.fID,rI .i64 t.fAt,rS t.fTenant,rS t.fSource,Bo 4 (List.map Ab r3)] 31]) rfl (Ar (Ax ?_)))))));obtain rfl:=Az h4;exact Aw (BS Tryz.results38 (GV (i:=0) DY Cc rfl rfl rfl)) (sS (sS sN)) ⟨rfl,rfl⟩
end Go.Proofs.YtkoiaconljdbeaaGreatDoor.Q
namespace Go.Proofs.YtkoiaconljdbeaaGreatDoor
open Go
def keysOk {T:Type}(xs:List (Ah×T)):Bool:=decide (xs.length*16≤140737488355328)&&xs.all λp=>VD p.1
end Go.Proofs.YtkoiaconljdbeaaGreatDoor
namespace Go.Proofs.YtkoiaconljdbeaaGreatDoor.Q
open Go Go.RowKit Go.ChangeMaps
set_option linter.unusedVariables false
set_option linter.unusedSimpArgs false
def RU:Value→Option (DataW Unit×List MemPlace):=λ_=>some (.nil,[])
theorem YT {P:Program}{k:TypeId}(hkt:P.underlying k=some .string){e:MapEntry}{s:Ah}(he:e.key = .string (B s))(hs:s.length≤maxLen):WideElems.rd P k RU e=some (.string s,.nil):=by
 obtain⟨key,val,born⟩:=e;simp only at he;subst he;exact WideElems.rd_mk (yv:=(.nil,[])) (by simp[keyOf,hkt,mapKey,B];exact hs) rfl
theorem Jd.rgs {P:Program}{k:TypeId}(hkt:P.underlying k=some .string){Z:Fz}:∀{f:List (Ah×Rp)} {es:List MapEntry},Jd Z f es→(∀p∈f,p.1.length≤maxLen)→es.map (WideElems.rg P k RU)=f.map (λp=>(Lit.string p.1,(.nil:DataW Unit)))∧(∀x∈es,∃y,WideElems.rd P k RU x=some y)∧es.map (·.key)=f.map λp=>Value.string (B p.1)
 | [],[],_,_=>⟨rfl,(λ_ h=>by cases h),rfl⟩
 | p::f,e::es,⟨⟨h1,_⟩,h2⟩,hk=>by
  obtain⟨a1,a2,a3⟩:=Jd.rgs hkt h2 λq hq=>hk q (List.mem_cons_of_mem _ hq);have hr:=YT hkt h1 (hk p (List.mem_cons_self ..));refine⟨?_,λx hx=>?_,?_⟩
  ·rw[Ab6,Ab6,a1,WideElems.rg_of hr]
  ·rcases List.mem_cons.1 hx with rfl | hx
   ·exact⟨_,hr⟩
   ·exact a2 x hx
  ·rw[Ab6,Ab6,a3,h1]
theorem XD {P:Program}{k:TypeId}(hkt:P.underlying k=some .string){w:World}{Z:Fz}{b:Nat}{m:List (Ah×Rp)}{es:Array MapEntry}{ck:Nat}(hb:w.heap[b]? =some (.map es ck))(hm:Gv Z m es.toList ck)(hk:∀p∈m,p.1.length≤maxLen)(hsz:m.length≤maxLen) :
  ∃D0:DataW Unit,w.ownsMap P k RU b es.size D0∧(strKeys D0).Perm (m.map (·.1))∧Maps.size D0=m.length:=by
 obtain⟨h1,h2,h3,f,h4,h5⟩:=hm;obtain⟨a1,a2,a3⟩:=Jd.rgs hkt h5 λp hp=>hk p (h4.subset hp);have hlen:es.size=m.length:=by
  have e:=congrArg List.length a3;simp only[Abk,Array.length_toList] at e;rw[e];exact h4.length_eq
 have hkey:es.toList.Pairwise (λx y=>x.key≠y.key):=by
  have e:(es.toList.map (·.key)).Nodup:=by
   rw[a3];have hf:(f.map (·.1)).Nodup:=(h4.map _).nodup_iff.2 h1;have:f.map (λp=>Value.string (B p.1))=(f.map (·.1)).map λs=>Value.string (B s):=by rw[AbJ];rfl
   rw[this];refine List.Pairwise.map _ (λx y hxy e=>hxy ?_) hf;simp[B] at e;exact e
  exact List.pairwise_map.1 e
 refine⟨.map ((es.toList.map (WideElems.rg P k RU)).foldr DataW.insert []),⟨es,ck,hb,⟨by rw[hlen];exact hsz,(MapKept.stamped_iff es ck).2 ⟨h3,h2,hkey⟩,a2⟩,Abp _,rfl⟩,?_,?_⟩
 ·show(((es.toList.map (WideElems.rg P k RU)).foldr DataW.insert []).map λp=>strOf p.1).Perm _;rw[a1];refine((WideShapes.sorted_perm _).map _).trans ?_;rw[AbJ];exact h4.map _
 ·show((es.toList.map (WideElems.rg P k RU)).foldr DataW.insert []).length=_;rw[length_sorted,Abk,Array.length_toList,hlen]
theorem RH {w:World}{a b:Nat}{e:TypeId}{sz n:Nat}{v:Value}{us:List Value}(h:w.ownsRow a e sz v n us)(hb:b≤a):w.ownsRow b e sz v n us:=by
 refine⟨h.1,?_⟩;rcases h.2 with hn | ⟨g,cap,cur,rfl,hg,rest⟩
 ·exact .inl hn
 ·exact .inr ⟨g,cap,cur,rfl,Nat.le_trans hb hg,rest⟩
theorem Qy {w:World}{a:Nat}{e:TypeId}{sz n:Nat}{v:Value}{us:List Value}(h:w.ownsRow a e sz v n us):∀k∈v.ownBlock.toList,a≤k:=by
 rcases h.2 with⟨rfl,_⟩ | ⟨g,cap,cur,rfl,hg,rest⟩
 ·intro k hk;simp[Value.ownBlock] at hk
 ·intro k hk;simp[Value.ownBlock] at hk;omega
theorem St.newrow {c:Cx}{H:List Ent}{Z:Fz}{w w':World}(h:St c H Z w)(hb:Below w.heap.size w w'){v:Value}{e:TypeId}{ys:List Ah}(hr:w'.ownsRow w.heap.size e 1 v ys.length (ys.map Go.Proofs.encStr)):St c (.row v e 1 (ys.map eS)::H) Z w':=by
 refine h.add hb.os hb.tape hb.output hb.size (λk hk=>hb.block k hk) ⟨λc hc=>?_,ys.map Go.Proofs.encStr,?_,?_⟩ (λk hk=>Qy hr k hk)
 ·obtain⟨y,_,rfl⟩:=List.mem_map.1 hc;rfl
 ·rw[Abk];exact RH hr (Aby _)
 ·clear hr
  induction ys with
  | nil=>exact trivial
  | cons y r ih=>exact⟨by show Go.Proofs.encStr y=Value.string (B y);rfl,ih⟩
end Go.Proofs.YtkoiaconljdbeaaGreatDoor.Q
namespace Go.Proofs.YtkoiaconljdbeaaGreatDoor
open Go
set_option linter.unusedVariables false
structure Ai where
 fTimer:Ae
 fTold:Bool
 deriving DecidableEq,Inhabited
structure Ba where
 fTimers:(List (Ah×Ai))
 deriving DecidableEq,Inhabited
def YO :Option (Ba):=
 some (Ba.mk ([]:List (Ah×Ai)))
def Nk (q:Ba):Option (Bool×Ba):=
 some (true,q)
def Ss (t:Ae)(now:Int):Option (Bool):=
 some (decide (now<t.fAt))
def Hn (ys:(List Ae))(now:Int)(ha:Int):Option (Stp (Int) (Out (Int) (Unit))):=
 Bj (decide (ha<(ys.length:Int))) (AX (CH ha (ys.length:Int))<|Bx (Ss (Ay ys ha) now) λhb=>Bj (hb) (some (.out (.ret ha))) (AX (Bw .i64 (ha+1))<|some (.next (ha+1)))) (some (.out (.go ())))
def Hm :Option (Int):=
 some (-1)
def LN (F:Nat)(ys:(List Ae))(now:Int):Option (Int):=
 Bx (Cg (λσ=>Hn ys now σ) F 0) (BL λν=>Hm )
def EH (ha:Int)(hb:Int)(he:Bool)(hf:Bool)(hd:(List Ae)):Option (Stp (Int×Int×(List Ae)) (Out ((List Ae)) (Int×(List Ae)))):=
 AX (Bw .i64 (ha+1))<|some (.next (hb,ha+1,hd))
def GI (now:Int)(hb:Int)(hd:Int)(ha:(List Ae)):Option (Stp (Int×Int×(List Ae)) (Out ((List Ae)) (Int×(List Ae)))):=
 Bj (decide (hd<(ha.length:Int))) (AX (CH hd (ha.length:Int))<|Bx (Ss (Ay ha hd) now) λhe=>Bj (!he) (AX (CH hb (ha.length:Int))<|Lx (List.set ha (Int.toNat hb) (Ay ha hd)) λhf=>AX (Bw .i64 (hb+1))<|EH hd (hb+1) he (!he) hf) (EH hd hb he (!he) ha)) (some (.out (.go (hb,ha))))
def GH (ha:Int)(hb:(List Ae)):Option ((List Ae)):=
 AX (Hp ha (hb.length:Int))<|AX (Hp ha ((List.take (Int.toNat ha) hb++List.replicate (hb.length-Int.toNat ha) (Ae.mk ([]:Ah) 0 ([]:Ah) ([]:Ah) ([]:(List Aa)))).length:Int))<|some (List.take (Int.toNat ha) (List.take (Int.toNat ha) hb++List.replicate (hb.length-Int.toNat ha) (Ae.mk ([]:Ah) 0 ([]:Ah) ([]:Ah) ([]:(List Aa)))))
def K6 (F:Nat)(ys:(List Ae))(now:Int):Option ((List Ae)):=
 Bx (LN F ys now) λr1=>Bj (decide (r1=(-1))) (some ys) (AX (Bw .i64 (r1+1))<|Bx (Cg (λσ=>GI now σ.1 σ.2.1 σ.2.2) F (r1,r1+1,ys)) (BL λν=>GH ν.1 ν.2))
def KL (hd:Ah)(x16:Ai)(ha:(List Ae)):Option (Stp ((List Ae)) (Out ((List Ae)×Ba) ((List Ae)))):=
 Bx (Xx x16.fTimer) λhb=>AX (DC 80 (ha.length+([hb]:List Ae).length))<|some (.next (ha++([hb]:List Ae)))
def It (r1:Bool×Ba)(ha:(List Ae)):Option ((List Ae)×Ba):=
 AX (Nr (λx y:Ae=>DV x.fAt y.fAt x.fID y.fID) ha)<|AX (Nat.blt ha.length 4611686018427387904)<|some (srt (λx y:Ae=>DV x.fAt y.fAt x.fID y.fID) ha,r1.2)
def Sq (q:Ba):Option ((List Ae)×Ba):=
 Bx (Nk q) λr1=>Bj (!r1.1) (some (([]:List Ae),r1.2)) (XP r1.2.fTimers λord=>Bx (We (λp τ=>KL p.1 p.2 τ) ord ([]:List Ae)) (BL λν=>It r1 ν))
def MB (now:Int)(hb:(List Ah))(ha:Int)(hd:(List (Ah×Ai))):Option (Stp (Int×(List (Ah×Ai))) (Out ((List Ae)×Ba) ((List (Ah×Ai))))):=
 Bj (decide (ha<(hb.length:Int))) (AX (CH ha (hb.length:Int))<|AX (Bw .i64 (ha+1))<|some (.next (ha+1,mset hd (Ay hb ha) (Ai.mk ((Bg hd (Ay hb ha) (Ai.mk (Ae.mk ([]:Ah) 0 ([]:Ah) ([]:Ah) ([]:(List Aa))) false)).fTimer) (((Bg hd (Ay hb ha) (Ai.mk (Ae.mk ([]:Ah) 0 ([]:Ah) ([]:Ah) ([]:(List Aa))) false)).fTold)||(decide ((((Bg hd (Ay hb ha) (Ai.mk (Ae.mk ([]:Ah) 0 ([]:Ah) ([]:Ah) ([]:(List Aa))) false)).fTimer).fAt)≤now))))))) (some (.out (.go hd)))
def MA (F:Nat)(now:Int)(hb:(List (Ah×Ai))):Option ((List Ae)×Ba):=
 Bx (Sq (Ba.mk hb)) λha=>Bx (K6 F ha.1 now) λhd=>some (hd,ha.2)
def Xz (F:Nat)(q:Ba)(now:Int):Option ((List Ae)×Ba):=
 Bx (Nk q) λr2=>Bj (!r2.1) (some (([]:List Ae),r2.2)) (AX (keysOk r2.2.fTimers)<|XP (List.map Prod.fst r2.2.fTimers) λha=>Bx (Cg (λσ=>MB now ha σ.1 σ.2) F (0,r2.2.fTimers)) (BL λν=>MA F now ν))
def T4 (F:Nat)(q:Ba)(t:Ae)(now:Int):Option (Int×Ba):=
 Bx (Nk q) λr2=>Bj (!r2.1) (some (10,r2.2)) (Bx (L5 F t) λr8=>Bj (!decide (r8=0)) (some (r8,r2.2)) (AX ((Jj now).isSome)<|Bj (((!(ov (Jj now)))||(decide (t.fAt<now)))) (some (2,r2.2)) (Bj (GQ r2.2.fTimers t.fID) (some (6,r2.2)) (Bj (decide (256≤(r2.2.fTimers.length:Int))) (some (3,r2.2)) (Bx (Xx t) λha=>some (0,(Ba.mk (mset r2.2.fTimers t.fID (Ai.mk ha false)))))))))
def X1 (q:Ba)(id:Ah):Option (Int×Ba):=
 Bx (Nk q) λr1=>Bj (!r1.1) (some (10,r1.2)) (Bj (!(GQ r1.2.fTimers id)) (some (5,r1.2)) (some (0,(Ba.mk (mdel r1.2.fTimers id)))))
def HE (id:Ah)(x7:Bool)(x8:(List (Ah×Ai))):Option (Int×Ba):=
 Bj (x7) (some (10,(Ba.mk x8))) (Bx (X1 (Ba.mk x8) id) λha=>some (ha.1,ha.2))
def OT (q:Ba)(id:Ah):Option (Int×Ba):=
 Bx (Nk q) λr9=>Bj (r9.1) (HE id ((Bg r9.2.fTimers id (Ai.mk (Ae.mk ([]:Ah) 0 ([]:Ah) ([]:Ah) ([]:(List Aa))) false)).fTold) r9.2.fTimers) (HE id false r9.2.fTimers)
def UX (q:Ba):Option (Int×Bool×Ba):=
 Bx (Sq q) λr1=>Bj (decide ((r1.1.length:Int)=0)) (some (0,false,r1.2)) (AX (CH 0 (r1.1.length:Int))<|some ((Ay r1.1 0).fAt,true,r1.2))
end Go.Proofs.YtkoiaconljdbeaaGreatDoor
namespace Go.Proofs.YtkoiaconljdbeaaGreatDoor.Q
open Go Go.RowKit Go.Sort Go.Shelf Go.Proofs
set_option linter.unusedVariables false
set_option linter.unusedSimpArgs false
theorem S0 {Z:Fz}{T α:Type}{enc:T→List Rp}{raw:α→List Value}(hR:∀x us,Bf Z (enc x) us→∃a,us=raw a):∀{xs:List T} {us:List Value},Bf Z (xs.map enc).flatten us→∃zs:List α,us=(zs.map raw).flatten∧All2 (λx a=>Bf Z (enc x) (raw a)) xs zs
 | [],us,h=>by
  cases us with
  | nil=>exact⟨[],rfl,.nil⟩
  | cons _ _=>exact absurd h id
 | x::r,us,h=>by
  simp only[Ab6,List.flatten_cons] at h;have h1:=h.take (enc x).length;have h2:=h.drop (enc x).length;rw[List.take_left' rfl] at h1;rw[List.drop_left' rfl] at h2;obtain⟨a,ha⟩:=hR x _ h1;obtain⟨zs',e,h3⟩:=S0 hR h2;refine⟨a::zs',?_,.cons (ha▸h1) h3⟩;rw[Ab6,List.flatten_cons,← ha,← e,AbF]
theorem X6 {Z:Fz}{T α:Type}{enc:T→List Rp}{raw:α→List Value}{xs:List T}{zs:List α}(h:All2 (λx a=>Bf Z (enc x) (raw a)) xs zs):Bf Z (xs.map enc).flatten (zs.map raw).flatten:=by
 induction h with
 | nil=>exact trivial
 | cons h1 _ ih=>exact h1.append ih
theorem NE {α:Type}[Inhabited α]{raw:α→List Value}{k:Nat}(hk:∀a,(raw a).length=k)(d:Array α):flatK raw k d=((d.toList.map raw).flatten).toArray:=by
 have hl:((d.toList.map raw).flatten).length=d.size*k:=by
  rw[Gi (sz:=k) (λc hc=>by obtain⟨a,_,rfl⟩:=List.mem_map.1 hc;exact hk a)];simp
 refine ext_get! (by rw[size_flatK];simpa using hl.symm) λt ht=>?_;have ht':t<d.size*k:=by simpa using ht
 have hk0:0<k:=by
  rcases Nat.eq_zero_or_pos k with h | h
  ·subst h;simp at ht'
  ·exact h
 have hq:t/k<d.size:=by rw[Nat.div_lt_iff_lt_mul hk0];exact ht'
 have hm:t % k<k:=Nat.mod_lt _ hk0;rw[get_flatK raw k d t ht'];have e2:=I6 (sz:=k) (vs:=d.toList.map raw) (λc hc=>by obtain⟨a,_,rfl⟩:=List.mem_map.1 hc;exact hk a) (i:=t/k) (c:=raw d[t/k]!) (by simp[hq]) (j:=t % k) (u:=(raw d[t/k]!)[t % k]!) (by rw[getElem!_pos (raw d[t/k]!) (t % k) (by rw[hk];exact hm)];simp[hk,hm]);rw[Nat.div_add_mod' t k] at e2;have hlt:t<((d.toList.map raw).flatten).length:=by rw[hl];exact ht'
 rw[getElem!_pos _ t (by simpa using hlt)];rw[AaY hlt] at e2;simpa using(Option.some.inj e2).symm
theorem Pu {α:Type}[Inhabited α]{raw:α→List Value}{k:Nat}{w:World}{g n:Nat}{os:Array Obj}{cur:Array Value}{e:TypeId}{fr:Nat×Nat}(d:Array α)(hb:w.heap[g]? =some (.cells cur e fr)) :
  (sortWorldK raw k w g 0 n d os).heap[g]? =some (.cells (putCells id 0 (flatK raw k d) cur) e fr):=by
 have hg:g<w.heap.size:=(Array.getElem?_eq_some_iff.1 hb).1;unfold sortWorldK;rw[heap_grow_old _ _ (by rw[size_putRowK];exact hg)];simp[putRowK,putRow,mapBlock,Sort.ahead,Array.getElem?_modify,hb,onCells]
theorem K2 {α:Type}[Inhabited α]{raw:α→List Value}{k:Nat}{w:World}{g n:Nat}{os:Array Obj}(d:Array α){j:Nat}(hj:j<w.heap.size)(hne:j≠g) :
  (sortWorldK raw k w g 0 n d os).heap[j]? =w.heap[j]?:=by
 unfold sortWorldK;rw[heap_grow_old _ _ (by rw[size_putRowK];exact hj)];simp[putRowK,putRow,mapBlock,Sort.ahead,Array.getElem?_modify,Ne.symm hne]
theorem Nj (cur:Array Value)(F:List Value)(h:F.length≤cur.size):(putCells id 0 F.toArray cur).toList.take F.length=F:=by
 apply List.ext_getElem?;intro j
 by_cases hj:j<F.length
 ·rw[List.getElem?_take_of_lt hj,Array.getElem?_toList];simp[putCells,hj,show j<cur.size by omega]
 ·rw[List.getElem?_take_eq_none (by omega),List.getElem?_eq_none (by omega)]
theorem YR {P:Program}{E:Fz→Prop}{ρ:Ren}(L:SlLaysF0.n6 P ρ){k:Nat}(aE:∀w,(isAgg (ρ.t 24)).run P w = .ok true w)(zE:∀w,(Go.sizeOf (ρ.t 24)).run P w = .ok k w)
  {T:Type} {enc:T→List Rp} (hlen:∀x,(enc x).length=k) {α:Type} [Inhabited α] (raw:α→List Value) (hk:∀a,(raw a).length=k) (h1:∀a,∀v∈raw a,v.oneCell'=true)
  (cf:α→α→Int) (hO:SWO (ltOf cf)) {lt:T→T→Bool} (hL:Z6 lt)
  (hR:∀Z x us,Bf Z (enc x) us→∃a,us=raw a)
  (hlt:∀Z x y a b,Bf Z (enc x) (raw a)→Bf Z (enc y) (raw b)→lt x y=ltOf cf a b)
  (g:Nat) (eg:∀args w,(callFunc g args).run P w = .ok (.enter g args) w)
  (hcmp:∀(a b:α) W,Calls P g #[.agg (raw a).toArray,.agg (raw b).toArray] W λe w'=>e = .returned (.int .i64 (cf a b))∧∃q os',w'=grow (W.drewN q) os')
  {v:Value} {e:TypeId} {xs:List T} (hd:Nr lt xs=true) (hsz:Nat.blt xs.length 4611686018427387904=true) :
  Fn P E (ρ.f 6) [rv v,rv (.func (.func g) #[] #[])] [.row v e k (xs.map enc)] (λR H=>R=rv (.tuple #[])∧H=[.row v e k ((srt lt xs).map enc)]):=λw Z vs hv hs=>by
 have e0:vs=[v,.func (.func g) #[] #[]]:=Bf.eq_rv (us:=[v,.func (.func g) #[] #[]]) hv;subst e0;have hsz':xs.length<4611686018427387904:=by simpa using hsz
 obtain⟨h0,us,⟨h2,h3⟩,h4⟩:=hs.ent (i:=0) rfl;rcases h3 with⟨rfl,hz0⟩ | ⟨b,cap,cur,rfl,_,hb,hcap,hm,hcs,htk⟩
 ·simp at hz0;subst hz0;refine(AnyF.slices_SortFunc_none (P:=P) (ρ:=ρ) { L with } none 0 (.func (.func g) #[] #[]) w).mono ?_;rintro e' w' ⟨rfl,rfl⟩;exact⟨_,_,_,Z,rfl,⟨rfl,rfl⟩,rfl,hs⟩
 ·obtain⟨zs',eus,ha⟩:=S0 (hR Z) h4;subst eus;have hal:zs'.length=xs.length:=ha.length.symm;have hrl:((zs'.map raw).flatten).length=xs.length*k:=by
   rw[Gi (sz:=k) (λc hc=>by obtain⟨a,_,rfl⟩:=List.mem_map.1 hc;exact hk a)];simp[hal]
  simp only[Abk] at h2 hcap htk;have hfl:flatK raw k zs'.toArray=((zs'.map raw).flatten).toArray:=NE hk _;have hH:HoldsK raw k w b 0 zs'.toArray:=by
   unfold HoldsK;rw[hfl];intro j hj;have hj':j<((zs'.map raw).flatten).length:=by simpa using hj
   refine⟨?_,by simp[World.frozen?,hb]⟩;have h5:(cur.toList.take (xs.length*k))[j]? =((zs'.map raw).flatten)[j]?:=by rw[htk]
   rw[List.getElem?_take_of_lt (by omega)] at h5;simp only[World.cell?,hb,Ab9,Option.isSome_none,Aba,Abv];rw[← Array.getElem?_toList,h5];rw[getElem!_pos _ j hj];simp[hj']
  have hblk:b<w.heap.size:=(Array.getElem?_eq_some_iff.1 hb).1;have hsl:(Value.slice (some ⟨b,0,none⟩) (xs.map enc).length cap) = .slice (some ⟨b,0,none⟩) zs'.toArray.size cap:=by simp[hal]
  have hcon:=AnyQ.slices_SortFunc (P:=P) (ρ:=ρ) L k aE zE raw hk h1 cf hO g #[] b 0 cap zs'.toArray w eg (λm os dk hs x y=>by simpa using hcmp x y _) hH hblk (by simpa[hal] using hsz');have hargs:[Value.slice (some ⟨b,0,none⟩) (xs.map enc).length cap,Value.func (.func g) #[] #[]].toArray = #[.slice (some ⟨b,0,none⟩) zs'.toArray.size cap,.func (.func g) #[] #[]]:=by rw[hsl]
  rw[hargs];refine hcon.mono ?_;rintro e' w' ⟨rfl,d',n,os,hp,hsd,rfl⟩;have hds:d'.size=zs'.length:=by simpa using hp.1
  have hperm:d'.toList.Perm zs':=by
   have:=hp.2.2;rw[Array.extract_eq_self_of_le (by rw[hp.1];exact Abp _),Array.extract_eq_self_of_le (Abp _)] at this;exact this
  obtain⟨xs',hx1,hx2⟩:=All2.perm hperm.symm ha;have hpw:d'.toList.Pairwise λa b=>ltOf cf b a=false:=by
   rw[List.pairwise_iff_getElem];intro i j hi hj hij;have hi':i<d'.size:=by simpa using hi
   have hj':j<d'.size:=by simpa using hj
   have:=hsd i j (Aby _) hij (by simpa[hds] using hj');rw[getElem!_pos d' j hj',getElem!_pos d' i hi'] at this;simpa using this
  have hxs:xs'=srt lt xs:=YQ hL hd hx1 (All2.pairwise (p:=λx y=>lt y x=false) (λx x' a a' h5 h6 h7=>by rw[hlt Z x' x a' a h6 h5];exact h7) hx2 hpw);subst hxs;have hl2:(srt lt xs).length=xs.length:=(KN lt xs).length_eq;have hf2:flatK raw k d'=((d'.toList.map raw).flatten).toArray:=NE hk _;have hrl2:((d'.toList.map raw).flatten).length=xs.length*k:=by
   rw[Gi (sz:=k) (λc hc=>by obtain⟨a,_,rfl⟩:=List.mem_map.1 hc;exact hk a)];simp[hds,hal]
  have hcc:xs.length*k≤cap*k:=Nat.mul_le_mul_right _ hcap;have hset:=hs.set (i:=0) (w':=sortWorldK raw k w b 0 n d' os) (e':=.row (.slice (some ⟨b,0,none⟩) (xs.map enc).length cap) e k ((srt lt xs).map enc)) rfl rfl rfl rfl (size_sortWorldK_c raw k w b 0 n d' os) (λj hj hne=>K2 d' hj (λe1=>hne (by simp[Ent.foot,Value.ownBlock,e1])))
   ⟨λcl hcl=>by obtain⟨x,_,rfl⟩:=List.mem_map.1 hcl;exact hlen x,(d'.toList.map raw).flatten,⟨by simp[hrl2,hl2],.inr ⟨b,cap,_,by simp[hl2],Aby _,Pu d' hb,by simpa[hl2] using hcap,hm,by simpa[putCells] using hcs,by
    rw[hf2,Abk,hl2,← hrl2];exact Nj cur _ (by omega)⟩⟩,X6 hx2⟩ (by simp[Ent.foot,Value.ownBlock])
  exact⟨_,_,_,Z,rfl,⟨rfl,rfl⟩,rfl,hset⟩
open Go Go.Proofs Go.Sort
theorem XX (x:Int)(w:World):Calls Tryz.prog 68 #[.int .i64 x] w λe w'=>e = .returned (.bool false)∧w'=w:=by
 go_enter Tryz.func68,Tryz.ntmps68
 go_wp2
 go_ret
 exact⟨by simp,rfl⟩
theorem XW (x:ByteArray)(w:World):Calls Tryz.prog 69 #[.string x] w λe w'=>e = .returned (.bool false)∧w'=w:=by
 go_enter Tryz.func69,Tryz.ntmps69
 go_wp2
 go_ret
 exact⟨by simp,rfl⟩
def RW (x y:Int):Int:=if x<y then -1 else if y<x then 1 else 0
set_option maxHeartbeats 1000000 in
theorem U1 (x y:Int)(w:World):Calls Tryz.prog 42 #[.int .i64 x,.int .i64 y] w λe w'=>e = .returned (.int .i64 (RW x y))∧w'=w:=by
 go_enter Tryz.func42,Tryz.ntmps42
 go_wp2_with (go_at_call 68;refine(XX _ _).mono ?_;rintro e w' ⟨rfl,hw⟩;rw[hw])
 all_goals (go_ret;refine⟨?_,rfl⟩;unfold RW;(repeat' split)<;>first | rfl | (exfalso;omega))
theorem X2 (t:TypeId)(a b:ByteArray):binOp .gtr t (.string a) (.string b)=pure (.bool !(Op.bytesLess a.toList b.toList||a.toList ==b.toList)):=by simp[binOp,Op.stringOp]
def RT (x y:List UInt8):Int:=if Op.bytesLess x y=true then -1 else if (Op.bytesLess x y||x ==y)=false then 1 else 0
set_option maxHeartbeats 1000000 in
theorem U0 (x y:ByteArray)(w:World):Calls Tryz.prog 43 #[.string x,.string y] w λe w'=>e = .returned (.int .i64 (RT x.toList y.toList))∧w'=w:=by
 have hg:=X2
 go_enter Tryz.func43,Tryz.ntmps43
 go_wp2_with (go_at_call 69;refine(XW _ _).mono ?_;rintro e w' ⟨rfl,hw⟩;rw[hw])
 all_goals (go_ret;refine⟨?_,rfl⟩;unfold RT;simp_all)
def XE (p q:Int):Int:=if p=0 then q else p
set_option maxHeartbeats 1000000 in
theorem Aas (p q:Int)(b cap:Nat)(w:World)(h0:w.cell? ⟨b,0,none⟩=some (.int .i64 p))(h1:w.cell? ⟨b,1,none⟩=some (.int .i64 q)):Calls Tryz.prog 41 #[.slice (some ⟨b,0,none⟩) 2 cap] w λe w'=>e = .returned (.int .i64 (XE p q))∧w'=w:=by
 by_cases hp:p=0
 ·have er:XE p q=q:=by unfold XE;rw[AbD hp]
  rw[er];have hp':(p !=0)=false:=by simp[hp]
  clear er
  by_cases hq:q=0
  ·have hq':(q !=0)=false:=by simp[hq]
   subst hp;subst hq
   go_enter Tryz.func41,Tryz.ntmps41
   go_wp2
   refine wp_loop_rounds 3 ?_;rw[rounds_succ]
   go_wp2
   rw[rounds_succ]
   go_wp2
   rw[rounds_succ]
   go_wp2
   go_ret
   exact⟨rfl,rfl⟩
  ·have hq':(q !=0)=true:=by simp[hq]
   subst hp
   go_enter Tryz.func41,Tryz.ntmps41
   go_wp2
   refine wp_loop_rounds 3 ?_;rw[rounds_succ]
   go_wp2
   rw[rounds_succ]
   go_wp2
   go_ret
   exact⟨rfl,rfl⟩
 ·have er:XE p q=p:=by unfold XE;rw[Abw hp]
  rw[er];have hp':(p !=0)=true:=by simp[hp]
  clear er hp
  go_enter Tryz.func41,Tryz.ntmps41
  go_wp2
  refine wp_loop_rounds 3 ?_;rw[rounds_succ]
  go_wp2
  go_ret
  exact⟨rfl,rfl⟩
theorem R1 {P:Program}{id:Nat}{Q:Exit→Act→World→Prop}{a:Act}{w:World}{l:List Oper}(n:Nat)(hm:P.follows .mixedOrders=true)(hB:Region.lexTailB .any l.toArray n=true)
  (h:∀w2,w2=World.drew w→wpStill P l.toArray w2 (λa'=>wpList P l.toArray Q (l.drop n) a' w2) (l.take n) a):(Code.region id l.toArray true).wp P Q a w:=wp_region_still_tail n hm hB (h _ rfl)
theorem IB (w:World)(cs:Array Value)(e:TypeId)(j:Nat):(w.alloc (.cells cs e)).cell? ⟨w.heap.size,j,none⟩=cs[j]?:=by
 have h:(w.alloc (.cells cs e)).heap[w.heap.size]? =some (.cells cs e):=by simpa using heap_alloc_new w _
 unfold World.cell?;simp only[h];rfl
theorem Rd (w:World)(o:Obj)(b j:Nat)(h:b<w.heap.size):(w.alloc o).cell? ⟨b,j,none⟩=w.cell? ⟨b,j,none⟩:=by
 have h1:(w.alloc o).heap[b]? =w.heap[b]?:=by
  show(w.heap.push o)[b]? =_;rw[Array.getElem?_push,Abw (Nat.ne_of_lt h)]
 unfold World.cell?;simp only[h1]
theorem K3 (w:World)(o:Obj):w.alloc o=grow w #[o]:=by unfold grow World.alloc;simp
set_option maxRecDepth 100000 in
set_option maxHeartbeats 1000000 in
theorem Zb (s1 s2:ByteArray)(n1 n2:Int)(a2 a3 a4 b2 b3 b4:Value)(ha2:a2.oneCell'=true)(ha3:a3.oneCell'=true)(ha4:a4.oneCell'=true)(hb2:b2.oneCell'=true)(hb3:b3.oneCell'=true)(hb4:b4.oneCell'=true)(W:World) :
  Calls Tryz.prog 40 #[.agg #[.string s1,.int .i64 n1,a2,a3,a4],.agg #[.string s2,.int .i64 n2,b2,b3,b4]] W λe w'=>e = .returned (.int .i64 (XE (RW n1 n2) (RT s1.toList s2.toList)))∧∃q os',w'=grow (W.drewN q) os':=by
 have hci:=λW=>U1 n1 n2 W;have hcs:=λW=>U0 s1 s2 W;generalize RW n1 n2=r1 at hci ⊢;generalize RT s1.toList s2.toList=r2 at hcs ⊢
 go_enter Tryz.func40,Tryz.ntmps40
 go_wp2
 have hm:Tryz.prog.follows .mixedOrders=true:=by kernel_rfl
 refine R1 10 hm (by kernel_rfl) ?_;intro W2 hW2;have hs1:(W.alloc (.cells #[.string s1,.int .i64 n1,a2,a3,a4] 31)).heap.size=W.heap.size+1:=by simp
 have ha:W2.cell? ⟨W.heap.size,0,none⟩=some (.string s1):=by
  rw[hW2];exact(Rd _ _ _ _ (by rw[hs1];omega)).trans (IB ..)
 have hb:W2.cell? ⟨W.heap.size,1,none⟩=some (.int .i64 n1):=by
  rw[hW2];exact(Rd _ _ _ _ (by rw[hs1];omega)).trans (IB ..)
 have c20:W2.cell? ⟨W.heap.size+1,0,none⟩=some (.string s2):=by
  rw[hW2,← hs1];exact IB ..
 have c21:W2.cell? ⟨W.heap.size+1,1,none⟩=some (.int .i64 n2):=by
  rw[hW2,← hs1];exact IB ..
 have hg:∃q os',W2=grow (W.drewN q) os':=⟨1,#[.cells #[.string s1,.int .i64 n1,a2,a3,a4] 31,.cells #[.string s2,.int .i64 n2,b2,b3,b4] 31],by
  rw[hW2,K3,K3,grow_grow];rfl⟩
 have hsz:W.heap.size<W2.heap.size:=by
  rw[hW2];simp[World.drew];omega
 clear hW2 hs1;simp only[List.take_succ_cons,List.take_zero,List.drop_succ_cons,List.drop_zero]
 still_step
 still_step
 still_step
 still_step
 still_call (hci _)
 still_step
 still_step
 still_step
 still_step
 still_call (hcs _)
 refine wpStill_nil ?_
 go_wp2_with (go_at_call 41;refine(Aas r1 r2 _ _ _ (IB _ _ _ 0) (IB _ _ _ 1)).mono ?_;rintro e w' ⟨rfl,rfl⟩)
 go_ret
 obtain⟨q,os',rfl⟩:=hg;exact⟨rfl,q,_,by rw[K3,grow_grow]⟩
end Go.Proofs.YtkoiaconljdbeaaGreatDoor.Q
namespace Go.Proofs
open Go.Shelf
def Tryz.SoL_ren:Go.Shelf.Ren:=⟨fun | 6=>39 | 15=>67 | 14=>66 | 28=>96 | 29=>97 | 20=>88 | 21=>89 | 22=>90 | 23=>91 | 24=>92 | 25=>93 | 26=>94 | 27=>95 | 46=>126 | 47=>127 | 48=>128 | 49=>129 | 50=>130 | 57=>148 | n=>n,fun | 22=>35 | 24=>31 | 25=>75 | 3=>3 | 39=>99 | 0=>0 | 53=>127 | 55=>129 | 4=>4 | 46=>121 | 45=>120 | 50=>41 | 5=>5 | 9=>9 | 66=>152 | 70=>156 | 76=>175 | 77=>176 | n=>n,fun | n=>n⟩
theorem Tryz.SoL:Go.Proofs.SlLaysF0.n6 Tryz.prog Tryz.SoL_ren:={
 mixed:=by kernel_rfl
 f6:=⟨Tryz.f39.name,by decide,Tryz.func39.trans (congrArg some (by kernel_rfl))⟩
 f14:=⟨Tryz.f66.name,by decide,Tryz.func66.trans (congrArg some (by kernel_rfl))⟩
 f15:=Tryz.func67.trans (congrArg some (by kernel_rfl))
 f20:=⟨Tryz.f88.name,by decide,Tryz.func88.trans (congrArg some (by kernel_rfl))⟩
 f21:=⟨Tryz.f89.name,by decide,Tryz.func89.trans (congrArg some (by kernel_rfl))⟩
 f22:=⟨Tryz.f90.name,by decide,Tryz.func90.trans (congrArg some (by kernel_rfl))⟩
 f23:=⟨Tryz.f91.name,by decide,Tryz.func91.trans (congrArg some (by kernel_rfl))⟩
 f24:=⟨Tryz.f92.name,by decide,Tryz.func92.trans (congrArg some (by kernel_rfl))⟩
 f25:=⟨Tryz.f93.name,by decide,Tryz.func93.trans (congrArg some (by kernel_rfl))⟩
 f26:=⟨Tryz.f94.name,by decide,Tryz.func94.trans (congrArg some (by kernel_rfl))⟩
 f27:=⟨Tryz.f95.name,by decide,Tryz.func95.trans (congrArg some (by kernel_rfl))⟩
 f28:=Tryz.func96.trans (congrArg some (by kernel_rfl))
 f29:=Tryz.func97.trans (congrArg some (by kernel_rfl))
 f46:=⟨Tryz.f126.name,by decide,Tryz.func126.trans (congrArg some (by kernel_rfl))⟩
 f47:=Tryz.func127.trans (congrArg some (by kernel_rfl))
 f48:=Tryz.func128.trans (congrArg some (by kernel_rfl))
 f49:=⟨Tryz.f129.name,by decide,Tryz.func129.trans (congrArg some (by kernel_rfl))⟩
 f50:=⟨Tryz.f130.name,by decide,Tryz.func130.trans (congrArg some (by kernel_rfl))⟩
 f57:=⟨Tryz.f148.name,by decide,Tryz.func148.trans (congrArg some (by kernel_rfl))⟩
 t0:=Tryz.underlying0
 a0:=Tryz.isAgg0
 z0:=Tryz.sizeOf0
 v0:=Tryz.zeroValue0
 t3:=Tryz.underlying3
 a3:=Tryz.isAgg3
 z3:=Tryz.sizeOf3
 v3:=Tryz.zeroValue3
 t4:=Tryz.underlying4
 a4:=Tryz.isAgg4
 z4:=Tryz.sizeOf4
 v4:=Tryz.zeroValue4
 t5:=Tryz.underlying5
 a5:=Tryz.isAgg5
 z5:=Tryz.sizeOf5
 v5:=Tryz.zeroValue5
 t9:=Tryz.underlying9
 a9:=Tryz.isAgg9
 z9:=Tryz.sizeOf9
 v9:=Tryz.zeroValue9
 t22:=Tryz.underlying35
 a22:=Tryz.isAgg35
 z22:=Tryz.sizeOf35
 v22:=Tryz.zeroValue35
 t25:=Tryz.underlying75
 a25:=Tryz.isAgg75
 z25:=Tryz.sizeOf75
 v25:=Tryz.zeroValue75
 t39:=Tryz.underlying99
 a39:=Tryz.isAgg99
 z39:=Tryz.sizeOf99
 v39:=Tryz.zeroValue99
 t45:=Tryz.underlying120
 a45:=Tryz.isAgg120
 z45:=Tryz.sizeOf120
 v45:=Tryz.zeroValue120
 t46:=Tryz.underlying121
 a46:=Tryz.isAgg121
 z46:=Tryz.sizeOf121
 v46:=Tryz.zeroValue121
 t50:=Tryz.underlying41
 a50:=Tryz.isAgg41
 z50:=Tryz.sizeOf41
 v50:=Tryz.zeroValue41
 t53:=Tryz.underlying127
 a53:=Tryz.isAgg127
 z53:=Tryz.sizeOf127
 v53:=Tryz.zeroValue127
 t55:=Tryz.underlying129
 a55:=Tryz.isAgg129
 z55:=Tryz.sizeOf129
 v55:=Tryz.zeroValue129
 t66:=Tryz.underlying152
 a66:=Tryz.isAgg152
 z66:=Tryz.sizeOf152
 v66:=Tryz.zeroValue152
 t70:=Tryz.underlying156
 a70:=Tryz.isAgg156
 z70:=Tryz.sizeOf156
 v70:=Tryz.zeroValue156
 t76:=Tryz.underlying175
 a76:=Tryz.isAgg175
 z76:=Tryz.sizeOf175
 v76:=Tryz.zeroValue175
 t77:=Tryz.underlying176
 a77:=Tryz.isAgg176
 z77:=Tryz.sizeOf176
 v77:=Tryz.zeroValue176 }
end Go.Proofs
namespace Go.Proofs.YtkoiaconljdbeaaGreatDoor.Q
open Go Go.RowKit Go.Sort Go.Shelf Go.Proofs
set_option linter.unusedVariables false
set_option linter.unusedSimpArgs false
theorem WI (n1 n2:Int)(s1 s2:Ah):decide (XE (RW n1 n2) (RT s1 s2)<0)=DV n1 n2 s1 s2:=by
 unfold XE RW RT DV
 by_cases h1:n1<n2
 ·simp[h1]
 ·by_cases h2:n2<n1
  ·have : ¬ n1=n2:=by omega
   simp[h1,h2,this]
  ·have e:n1=n2:=by omega
   cases h3:Op.bytesLess s1 s2 with
   | true=>simp[e,h3]
   | false=>
    by_cases h4:s1=s2
    ·simp[e,h3,h4,h4▸h3]
    ·have h5:(s1 ==s2)=false:=by simp[h4]
     simp[e,h3,h5]
abbrev Ri:=Ah×Int × {r:List Value // r.length=3∧∀v∈r,v.oneCell'=true}
instance:Inhabited Ri:=⟨([],0,⟨[.bool true,.bool true,.bool true],rfl,λv h=>by simp at h;subst h;rfl⟩)⟩
def Pa (a:Ri):List Value:=.string (B a.1)::.int .i64 a.2.1::a.2.2.1
def cfT (a b:Ri):Int:=XE (RW a.2.1 b.2.1) (RT a.1 b.1)
theorem Pq (a b:Ri):ltOf cfT a b=DV a.2.1 b.2.1 a.1 b.1:=WI ..
theorem Aan:SWO (ltOf cfT) where
 irrefl x:=by rw[Pq];exact O7 ..
 trans x y z h1 h2:=by rw[Pq] at *;exact QI h1 h2
 ntrans x y z h1 h2:=by rw[Pq] at *;exact Ll h1 h2
theorem ZC (Z:Fz)(x:Ae)(us:List Value)(h:Bf Z (Ao x) us):∃r : {r:List Value // r.length=3∧∀v∈r,v.oneCell'=true},us=Pa (x.fID,x.fAt,r):=by
 have hl:=h.length;have h1:=Bf.one (Jw x) h;obtain⟨v0,v1,v2,v3,v4,rfl⟩:∃v0 v1 v2 v3 v4,us=[v0,v1,v2,v3,v4]:=by
  match us,hl with
  | [v0,v1,v2,v3,v4],_=>exact⟨_,_,_,_,_,rfl⟩
 obtain⟨h5,h6,h7⟩:=h;have e0:v0 = .string (B x.fID):=h5;have e1:v1 = .int .i64 x.fAt:=h6;subst e0;subst e1;exact⟨⟨[v2,v3,v4],rfl,λv hv=>h1 v (by simp at hv ⊢;rcases hv with h | h | h<;>simp[h])⟩,rfl⟩
theorem ME {Z:Fz}{x:Ae}{a:Ri}(h:Bf Z (Ao x) (Pa a)):a.1=x.fID∧a.2.1=x.fAt:=by
 obtain⟨h5,h6,h7⟩:=h;have e0:Value.string (B a.1) = .string (B x.fID):=h5;have e1:Value.int .i64 a.2.1 = .int .i64 x.fAt:=h6;exact⟨KM e0,(Value.int.inj e1).2⟩
theorem Vn (a:Ri):(Pa a).length=5:=by simp[Pa,a.2.2.2.1]
theorem Vm (a:Ri):∀v∈Pa a,v.oneCell'=true:=λv h=>by
 simp only[Pa,AbH] at h;rcases h with rfl | rfl | h
 ·rfl
 ·rfl
 ·exact a.2.2.2.2 v h
theorem Aa1 (a b:Ri)(W:World):Calls Tryz.prog 40 #[.agg (Pa a).toArray,.agg (Pa b).toArray] W λe w'=>e = .returned (.int .i64 (cfT a b))∧∃q os',w'=grow (W.drewN q) os':=by
 obtain⟨s1,n1,⟨r,hr,ho⟩⟩:=a;obtain⟨s2,n2,⟨t,ht,hp⟩⟩:=b;obtain⟨a2,a3,a4,rfl⟩:∃a2 a3 a4,r=[a2,a3,a4]:=by
  match r,hr with
  | [a2,a3,a4],_=>exact⟨_,_,_,rfl⟩
 obtain⟨b2,b3,b4,rfl⟩:∃a2 a3 a4,t=[a2,a3,a4]:=by
  match t,ht with
  | [a2,a3,a4],_=>exact⟨_,_,_,rfl⟩
 have h:=Zb (B s1) (B s2) n1 n2 a2 a3 a4 b2 b3 b4 (ho _ (by simp)) (ho _ (by simp)) (ho _ (by simp)) (hp _ (by simp)) (hp _ (by simp)) (hp _ (by simp)) W;rw[Ew,Ew] at h;exact h
theorem X4 {v:Value}{e:TypeId}{xs:List Ae}(hd:Nr (λx y:Ae=>DV x.fAt y.fAt x.fID y.fID) xs=true)(hsz:Nat.blt xs.length 4611686018427387904=true) :
  Fn Tryz.prog GE 39 [rv v,rv (.func (.func 40) #[] #[])] [.row v e 5 (xs.map Ao)] (λR H=>R=rv (.tuple #[])∧H=[.row v e 5 ((srt (λx y:Ae=>DV x.fAt y.fAt x.fID y.fID) xs).map Ao)]):=
 YR Tryz.SoL Tryz.isAgg31 Tryz.sizeOf31 (λx=>rfl) Pa Vn Vm cfT Aan (Wa (λx:Ae=>x.fAt) (λx=>x.fID))
  (λZ x us h=>by obtain⟨r,e⟩:=ZC Z x us h;exact⟨_,e⟩)
  (λZ x y a b h1 h2=>by rw[Pq,(ME h1).1,(ME h1).2,(ME h2).1,(ME h2).2])
  40 (enters_of Tryz.func40 (by kernel_rfl) rfl) Aa1 hd hsz
end Go.Proofs.YtkoiaconljdbeaaGreatDoor.Q
namespace Go.Proofs
open Go.Shelf
def Tryz.keys32_ren:Go.Shelf.Ren:=⟨fun | 7=>32 | 10=>60 | n=>n,fun | 23=>53 | 26=>9 | 3=>66 | 28=>63 | 0=>0 | 27=>62 | 33=>92 | 4=>4 | n=>n,fun | n=>n⟩
theorem Tryz.keys32:Go.Proofs.SlLaysZ.n7 Tryz.prog Tryz.keys32_ren:={
 mixed:=by kernel_rfl
 f7:=⟨Tryz.f32.name,by decide,Tryz.func32.trans (congrArg some (by kernel_rfl))⟩
 f10:=⟨Tryz.f60.name,by decide,Tryz.func60.trans (congrArg some (by kernel_rfl))⟩
 t0:=Tryz.underlying0
 a0:=Tryz.isAgg0
 z0:=Tryz.sizeOf0
 v0:=Tryz.zeroValue0
 t4:=Tryz.underlying4
 a4:=Tryz.isAgg4
 z4:=Tryz.sizeOf4
 v4:=Tryz.zeroValue4
 t23:=Tryz.underlying53
 a23:=Tryz.isAgg53
 z23:=Tryz.sizeOf53
 v23:=Tryz.zeroValue53
 t26:=Tryz.underlying9
 a26:=Tryz.isAgg9
 z26:=Tryz.sizeOf9
 v26:=Tryz.zeroValue9
 t27:=Tryz.underlying62
 a27:=Tryz.isAgg62
 z27:=Tryz.sizeOf62
 v27:=Tryz.zeroValue62
 t28:=Tryz.underlying63
 a28:=Tryz.isAgg63
 z28:=Tryz.sizeOf63
 v28:=Tryz.zeroValue63
 t33:=Tryz.underlying92
 a33:=Tryz.isAgg92
 z33:=Tryz.sizeOf92
 v33:=Tryz.zeroValue92 }
def Tryz.collect31_ren:Go.Shelf.Ren:=⟨fun | 8=>31 | 11=>59 | n=>n,fun | 26=>9 | 28=>63 | 24=>60 | 0=>0 | 33=>92 | 4=>4 | n=>n,fun | n=>n⟩
theorem Tryz.collect31:Go.Proofs.SlLaysZ.n8 Tryz.prog Tryz.collect31_ren:={
 mixed:=by kernel_rfl
 f8:=⟨Tryz.f31.name,by decide,Tryz.func31.trans (congrArg some (by kernel_rfl))⟩
 f11:=⟨Tryz.f59.name,by decide,Tryz.func59.trans (congrArg some (by kernel_rfl))⟩
 t0:=Tryz.underlying0
 a0:=Tryz.isAgg0
 z0:=Tryz.sizeOf0
 v0:=Tryz.zeroValue0
 t24:=Tryz.underlying60
 a24:=Tryz.isAgg60
 z24:=Tryz.sizeOf60
 v24:=Tryz.zeroValue60
 t26:=Tryz.underlying9
 a26:=Tryz.isAgg9
 z26:=Tryz.sizeOf9
 v26:=Tryz.zeroValue9
 t28:=Tryz.underlying63
 a28:=Tryz.isAgg63
 z28:=Tryz.sizeOf63
 v28:=Tryz.zeroValue63
 i26:=by kernel_rfl }
end Go.Proofs
namespace Go.Proofs.YtkoiaconljdbeaaGreatDoor.Q
open Go Go.RowKit Go.Maps Go.Sort Go.Shelf Go.Proofs
set_option linter.unusedVariables false
set_option maxHeartbeats 1000000
theorem R3 {Z:Fz}{v:Value}{vs:List Value}(h:Bf Z [rv v] vs):vs=[v]:=Bf.eq_rv (us:=[v]) h
theorem Ud {T:Type}(enc:T→Rp)(xs:List (Ah×T)):(BC enc xs).map (·.1)=xs.map (·.1):=by simp[BC]
theorem RL (b:Nat):Fn Tryz.prog GE 32 [rv (.map (some b))] [] (λR H=>∃k:Nat,R=rv (.func (.func 60) #[] #[.pointer (some ⟨k,0,none⟩)])∧H=[.blk k [rv (.map (some b))] 53]):=λw Z vs hv hs=>by
 have e:=R3 hv;subst e;have hc:Calls Tryz.prog 32 #[.map (some b)] w (λe w'=>e = .returned (.func (.func 60) #[] #[.pointer (some ⟨w.heap.size,0,none⟩)])∧w'=w.alloc (.cells #[.map (some b)] 53)):=callsIn_wide.1 (AnyZ.keys_in Tryz.keys32 Fence.wide 5 trivial rfl (some b) w);refine hc.mono ?_;rintro e w' ⟨rfl,rfl⟩;exact⟨_,_,_,Z,rfl,⟨w.heap.size,rfl,rfl⟩,rfl,hs.alloc _ ⟨[.map (some b)],by simpa using heap_alloc_new w _,rfl,trivial⟩ rfl⟩
theorem P0 {T:Type}(enc:T→Rp)(xs:List (Ah×T))(k b:Nat)(hk:keysOk xs=true):Fn Tryz.prog GE 31 [rv (.func (.func 60) #[] #[.pointer (some ⟨k,0,none⟩)])] [.blk k [rv (.map (some b))] 53,.map b (BC enc xs)] (λR H=>∃ (v:Value) (ks:List Ah),R=rv v∧ks.Perm (xs.map (·.1))∧H=[.row v 9 1 (ks.map eS),.blk k [rv (.map (some b))] 53,.map b (BC enc xs)]):=λw Z vs hv hs=>by
 have e:=R3 hv;subst e;obtain⟨us,h1,h2⟩:=hs.ent (i:=0) rfl;have e2:=R3 h2;subst e2;obtain⟨es,ck,h3,h4⟩:=hs.ent (i:=1) rfl;unfold keysOk at hk;simp only[AaO,AaL,Ab3] at hk;have hlen:(BC enc xs).length=xs.length:=Js enc xs;have hkl:∀p∈BC enc xs,p.1.length≤maxLen:=λp hp=>by
  obtain⟨y,hy,rfl⟩:=List.mem_map.1 hp;have:=hk.2 y hy;have e:maxLen=9223372036854775807:=rfl;rw[e];simpa[VD] using this
 obtain⟨D0,d1,d2,d3⟩:=XD (k:=9) Tryz.underlying9 h3 h4 hkl (by rw[hlen];have:=hk.1;have e:maxLen=9223372036854775807:=rfl;omega);have hkb:k<w.heap.size:=(Array.getElem?_eq_some_iff.1 h1).1;have hcell:w.cell? ⟨k,0,none⟩=some (.map (some b)):=by simp[World.cell?,h1]
 have hseq:SeqGives Fence.wide 3 Tryz.prog 60 #[.pointer (some ⟨k,0,none⟩)] encStr (λss=>ss.Perm (strKeys D0)) (Maps.size D0) w:=
  AnyZ.keys_gives (ρ:=Tryz.keys32_ren) { Tryz.keys32 with } Fence.wide _ trivial rfl (by omega) k b es.size D0 w hkb hcell d1
 have hc:=AnyZ.collect_in Tryz.collect31 Fence.wide 5 trivial trivial rfl (by omega) 60 #[.pointer (some ⟨k,0,none⟩)] trivial (enters_of Tryz.func60 (by kernel_rfl) rfl) _ (Maps.size D0) (by rw[d3,hlen];have:=hk.1;have e:maxLen=9223372036854775807:=rfl;omega) (by rw[d3,hlen];exact hk.1) w hseq;refine(callsIn_wide.1 hc).mono ?_;rintro e w' ⟨v,ss,rfl,hS,hrow,hnil,hb⟩;have hp:ss.Perm (xs.map (·.1)):=hS.trans (by rw[← Ud enc xs];exact d2);exact⟨_,v,_,Z,rfl,⟨v,ss,rfl,hp,rfl⟩,rfl,hs.newrow hb hrow⟩
open Go Go.RowKit
set_option linter.unusedSimpArgs false
set_option maxRecDepth 100000
set_option maxHeartbeats 4000000
@[reducible] def Hv (x:Ai):List Rp:=[rS x.fTimer.fID,rI .i64 x.fTimer.fAt,rS x.fTimer.fTenant,rS x.fTimer.fSource,Bo 4 (List.map Ab x.fTimer.fBody),rB x.fTold]
@[reducible] def A7 (x:Ai):Rp:=Bz (Hv x)
theorem EN (Z:Fz):(A7 (Ai.mk (Ae.mk ([]:Ah) 0 ([]:Ah) ([]:Ah) ([]:(List Aa))) false)).p Z (.agg #[(.string ⟨#[]⟩),(.int .i64 0),(.string ⟨#[]⟩),(.string ⟨#[]⟩),(.slice none 0 0),(.bool false)]):=⟨[.string ⟨#[]⟩,.int .i64 0,.string ⟨#[]⟩,.string ⟨#[]⟩,.slice none 0 0,.bool false],rfl,rfl,rfl,rfl,rfl,Rm.nil _ _,rfl,trivial⟩
theorem Zh:∃inf,Tryz.prog.info? 31=some inf∧inf.zero=some (.agg #[(.string ⟨#[]⟩),(.int .i64 0),(.string ⟨#[]⟩),(.string ⟨#[]⟩),(.slice none 0 0)])∧inf.size=5∧inf.bytes=80:=by
  have key:(Tryz.prog.info? 31).map (λi=>(i.zero,i.size,i.bytes))=some (some (.agg #[(.string ⟨#[]⟩),(.int .i64 0),(.string ⟨#[]⟩),(.string ⟨#[]⟩),(.slice none 0 0)]),5,80):=by kernel_rfl
  obtain⟨inf,h1,h2⟩:=Option.map_eq_some_iff.1 key;simp only[Prod.mk.injEq] at h2;exact⟨inf,h1,h2.1,h2.2.1,h2.2.2⟩
theorem Yr (parts:List (Nat×Value)):Tryz.prog.built 55 parts=Instr.fill (λi=>(#[(0,1)]:Array (Nat×Nat))[i]?) #[((.map none))] parts:=by kernel_rfl
theorem Q7 {n:Nat}{c:Cx}{l:Fr}{H:List Ent}{d:Option Nat}{ty:TypeId}{pos:String}{af:Array Edge}{g:Option (Nat×Bool)}{x0:Operand}{r0:Rp}(h0:ev l x0=some r0)(u0:r0.one=true):Bv Tryz.prog n c l H { dst:=d,op:=.build 55 #[(0,x0)],type:=ty,pos:=pos,after:=af,guard:=g } (Bz [r0]):=λa w Z ha _=>by
  have p0:=ha.ev h0;have c0:=BZ (r0.hone u0 Z _ p0);have hb:Tryz.prog.built 55 [(0,a.eval x0)]=some #[a.eval x0]:=by
    rw[Yr];generalize a.eval x0=v0 at *;simp[Instr.fill,c0]
  refine⟨.agg #[a.eval x0],⟨[a.eval x0],rfl,p0,trivial⟩,?_⟩;have:=run_build w 55 #[(0,a.eval x0)] _ (by simpa using hb);simp[execOp,this]
theorem Yq (parts:List (Nat×Value)):Tryz.prog.built 66 parts=Instr.fill (λi=>(#[(0,5),(5,1)]:Array (Nat×Nat))[i]?) #[(.string ⟨#[]⟩),(.int .i64 0),(.string ⟨#[]⟩),(.string ⟨#[]⟩),((.slice none 0 0)),(.bool false)] parts:=by kernel_rfl
theorem Q6 {n:Nat}{c:Cx}{l:Fr}{H:List Ent}{d:Option Nat}{ty:TypeId}{pos:String}{af:Array Edge}{g:Option (Nat×Bool)}{x0:Operand}{r0_0 r0_1 r0_2 r0_3 r0_4:Rp}(h0:ev l x0=some (Bz [r0_0,r0_1,r0_2,r0_3,r0_4])):Bv Tryz.prog n c l H { dst:=d,op:=.build 66 #[(0,x0)],type:=ty,pos:=pos,after:=af,guard:=g } (Bz [r0_0,r0_1,r0_2,r0_3,r0_4,rB false]):=λa w Z ha _=>by
  obtain⟨us0,e0,q0⟩:=ha.ev h0;obtain⟨y0_0,y0_1,y0_2,y0_3,y0_4,rfl,q0⟩:=Bf.d5 q0;have hb:Tryz.prog.built 66 [(0,a.eval x0)]=some #[y0_0,y0_1,y0_2,y0_3,y0_4,(.bool false)]:=by
    rw[Yq];simp[Instr.fill,e0,Value.cells]
  refine⟨.agg #[y0_0,y0_1,y0_2,y0_3,y0_4,(.bool false)],⟨[y0_0,y0_1,y0_2,y0_3,y0_4,(.bool false)],rfl,q0.1,q0.2.1,q0.2.2.1,q0.2.2.2.1,q0.2.2.2.2.1,rfl,trivial⟩,?_⟩;have:=run_build w 66 #[(0,a.eval x0)] _ (by simpa using hb);simp[execOp,this]
theorem YN  (r:Ba)(h:YO=some r):Fn Tryz.prog GE 8 [] [] (λR H=>∃u0:Nat,∃u0_0:Nat,R=rv (.pointer (some ⟨u0,0,none⟩))∧H=[.blk u0 [rv (.map (some u0_0))] 55,.map u0_0 (BC A7 r.fTimers)]):=by
 refine enter (n:=4) Tryz.func8 rfl Tryz.ntmps8 rfl (λw Z=>?_);refine Bb (l':=[]) (H':=[]) rfl rfl ?_;unfold YO at h;refine Ak (wv (r:=rv (.pointer none)) (Ac rfl) (By (Tr rfl (λb1=>?_))));refine wv (r:=Bz [rv (.map (some b1))]) (Q7 rfl rfl) (C1 rfl rfl (λb2=>?_));refine wa rfl (Ar (Ax ?_));obtain rfl:=Az h;exact Aw (BS Tryz.results8 (AJ rfl)) (sC (sC sN)) ⟨b2,b1,rfl,rfl⟩
theorem KK (hb:Nat)(ha:Nat)(q:Ba)(r:Bool×Ba)(h:Nk q=some r):Fn Tryz.prog GE 30 [rv (.pointer (some ⟨hb,0,none⟩))] [.blk hb [rv (.map (some ha))] 55,.map ha (BC A7 q.fTimers)] (λR H=>R=rB r.1∧H=[.blk hb [rv (.map (some ha))] 55,.map ha (BC A7 r.2.fTimers)]):=by
 refine enter (n:=12) Tryz.func30 rfl Tryz.ntmps30 rfl (λw Z=>?_);refine Bb (l':=[(0,rv (.pointer (some ⟨hb,0,none⟩)))]) (H':=[.blk hb [rv (.map (some ha))] 55,.map ha (BC A7 q.fTimers)]) rfl rfl ?_;unfold Nk at h;refine Ak (wv (r:=rB false) (Ac rfl) (Ar (AA [(2,rB true)] [.blk hb [rv (.map (some ha))] 55,.map ha (BC A7 q.fTimers)] ?_ ?_)))
 ·refine Aj (wm rfl (wv (r:=rB true) (TT ⟨_,Tryz.underlying25⟩ rfl) (wm rfl (AW (b:=true) rfl rfl rfl (wm rfl (AW (b:=true) rfl rfl rfl (wv (A6 rfl) (AW (b:=true) rfl rfl rfl (wv (Ad MU rfl MV rfl rfl) (AW (b:=true) rfl rfl rfl (wv (A0 (i:=0) MX rfl rfl rfl) (AW (b:=true) rfl rfl rfl (wv (r:=rB true) (TU (v:=some ha) NU rfl) (wv (r:=rB true) (As (b:=true) rfl rfl rfl) (wa rfl (Al ?_))))))))))))))));exact wt
 refine Ax ?_;obtain rfl:=Az h;exact Aw (BS Tryz.results30 (AJ rfl)) (sC (sC sN)) ⟨rfl,rfl⟩
theorem Sr (ha:Nat)(t:Ae)(now:Int)(r:Bool)(h:Ss t now=some r):Fn Tryz.prog GE 34 [Bz (Ao t),rv (.pointer (some ⟨ha,0,none⟩))] [.blk ha [rI .i64 now] 3] (λR H=>R=rB r∧H=[.blk ha [rI .i64 now] 3]):=by
 refine enter (n:=8) Tryz.func34 rfl Tryz.ntmps34 rfl (λw Z=>?_);refine Bb (l':=[(0,Bz (Ao t)),(1,rv (.pointer (some ⟨ha,0,none⟩)))]) (H':=[.blk ha [rI .i64 now] 3]) rfl rfl ?_;unfold Ss at h;refine Ak (C1 rfl rfl (λb1=>?_));refine wv (r:=rB false) (Ac rfl) (By (wv (Ad CQ rfl Cu rfl rfl) (wv (A0 (i:=0) Dd rfl rfl rfl) (wv (A0 (i:=1) Dd rfl rfl rfl) (wv (Cl rfl rfl) (wa rfl (Ar (Ax ?_))))))));obtain rfl:=Az h;exact Aw (BS Tryz.results34 (AJ rfl)) (sS (sC sN)) ⟨rfl,rfl⟩
theorem QP (F:Nat)(ha:Value)(hb:Nat)(ys:(List Ae))(now:Int)(r:Int)(h:LN F ys now=some r):Fn Tryz.prog GE 61 [rv ha,rv (.func (.func 34) #[] #[(.pointer (some ⟨hb,0,none⟩))])] [.row ha 31 5 (List.map Ao ys),.blk hb [rI .i64 now] 3] (λR H=>R=rI .i64 r∧H=[.row ha 31 5 (List.map Ao ys),.blk hb [rI .i64 now] 3]):=by
 refine enter (n:=19) Tryz.func61 rfl Tryz.ntmps61 rfl (λw Z=>?_);refine Bb (l':=[(0,rv ha),(1,rv (.func (.func 34) #[] #[(.pointer (some ⟨hb,0,none⟩))]))]) (H':=[.row ha 31 5 (List.map Ao ys),.blk hb [rI .i64 now] 3]) rfl rfl ?_;unfold LN at h;refine Ak (wv (r:=rI .i64 0) (Ac rfl) (Ar (Am (Ak (wm rfl (wv (C6 (ys:=ys) (enc:=Ao) (i:=0) GO rfl rfl) (wv (r:=rI .i64 0) (Au rfl) (Ar (AO ?_)))))))));obtain⟨hn,ho,hj⟩:=AL h;refine BA (S:=Nat×(Int)×(Unit)) (V:=(Unit)×(Unit)) 0 (λσ=>Cg (λσ=>Hn ys now σ) σ.1 σ.2.1=some hn) (λσ=>[(0,rv ha),(1,rv (.func (.func 34) #[] #[(.pointer (some ⟨hb,0,none⟩))])),(4,rI .i64 0),(7,rI .i64 (ys.length:Int)),(8,rI .i64 σ.2.1)]) (λσ=>[.row ha 31 5 (List.map Ao ys),.blk hb [rI .i64 now] 3]) (λσ=>σ.1) (F,0,()) ho (AQ.c5 rfl rfl rfl rfl rfl AQ.nil) (sC (sC sN)) (λσ=>Hm =some r) (λσ=>[(4,rI .i64 0)]) (λσ=>[.row ha 31 5 (List.map Ao ys),.blk hb [rI .i64 now] 3]) ?_ ?_
 ·rintro⟨h4,hd,⟨⟩⟩ hp;refine Bb (l':=[(0,rv ha),(1,rv (.func (.func 34) #[] #[(.pointer (some ⟨hb,0,none⟩))])),(4,rI .i64 0),(7,rI .i64 (ys.length:Int)),(8,rI .i64 hd)]) (H':=[.row ha 31 5 (List.map Ao ys),.blk hb [rI .i64 now] 3]) rfl rfl ?_;obtain⟨hq,rfl,hr,he,hg⟩:=CM hp;replace he:Hn ys now hd=some hr:=he;unfold Hn at he;refine Ak (wv (Cp rfl rfl) (Ar (Am (Ap (b:=decide (hd<(ys.length:Int))) rfl (λhh=>?_) (λhh=>?_)))))
  ·have hs:=AB hh he;refine At (AN (Am (AO (Ak (wm rfl (wa rfl (By (wm rfl (wm rfl (wm rfl ?_))))))))));obtain⟨hk,ht⟩:=Av hs;refine wv (r:=rv (E9 5 ha (Int.toNat hd) 0)) (G8 (i:=0) GO Cc rfl rfl rfl (BE hk)) (wv (r:=Bz (Ao (Ay ys hd))) (SH (enc:=Ao) (ys:=ys) (i:=0) (j:=hd) DY Cc rfl rfl hk rfl rfl) ?_);obtain⟨hl,hu,hm⟩:=AL ht;refine M9 (rs:=[Bz (Ao (Ay ys hd))]) (Hin:=[.blk hb [rI .i64 now] 3]) (Hr:=[.row ha 31 5 (List.map Ao ys)]) Tryz.call34 rfl rfl ((A9 (i:=1) rfl).trans (AaT _ (AaP _))) (Sr hb (Ay ys hd) now hl hu) rfl ?_;rintro _ _ ⟨rfl,rfl⟩;refine Ar (Ap (b:=hl) rfl (λhi=>?_) (λhi=>?_))
   ·have hw:=AB hi hm;refine Ak (wm rfl (wa rfl (Ar (Ax (A3 (Af (Af (Bc ?_))))))));have hx:=B1 hw hg hj;refine A3 (Af (Ca (H2:=[.row ha 31 5 (List.map Ao ys),.blk hb [rI .i64 now] 3]) ((A9 (i:=1) rfl).trans (AaT _ (AaP _))) ?_));obtain rfl:=Az hx;exact Aw (BS Tryz.results61 (AJ rfl)) (sC (sC sN)) ⟨rfl,rfl⟩
   ·have hy:=AC hi hm;refine At (AK (AN (Aj ?_)));obtain⟨hz,h0⟩:=Av hy;refine wv (Bi rfl rfl hz) (wm rfl (Al (Ca (H2:=[.row ha 31 5 (List.map Ao ys),.blk hb [rI .i64 now] 3]) ((A9 (i:=1) rfl).trans (AaT _ (AaP _))) ?_)));have h1:=Bk h0 hg;exact Aq (AG (hq,hd+1,()) ⟨h1,AaX _⟩ (AQ.c5 rfl rfl rfl rfl rfl AQ.nil) (sC (sC sN)))
  ·have h2:=AC hh he;refine B9 (A5 ?_);have h3:=Cj h2 hg hj;exact A5 (Br (AG ((),()) h3 (AQ.c rfl AQ.nil) (sC (sC sN))))
 ·rintro⟨⟨⟩,⟨⟩⟩ hf;refine CR (l':=[(4,rI .i64 0)]) (H':=[.row ha 31 5 (List.map Ao ys),.blk hb [rI .i64 now] 3]) rfl rfl ?_;replace hf:Hm =some r:=hf;unfold Hm at hf;refine Bm (AN (Ak (wv (r:=rI .i64 (-1)) (Ac rfl) (Ar (Ax ?_)))));obtain rfl:=Az hf;exact Aw (BS Tryz.results61 (AJ rfl)) (sC (sC sN)) ⟨rfl,rfl⟩
theorem Py (F:Nat)(hd:Value)(he:Nat)(ys:(List Ae))(now:Int)(r:(List Ae))(h:K6 F ys now=some r):Fn Tryz.prog GE 33 [rv hd,rv (.func (.func 34) #[] #[(.pointer (some ⟨he,0,none⟩))])] [.row hd 31 5 (List.map Ao ys),.blk he [rI .i64 now] 3] (λR H=>∃u0:Value,R=rv u0∧H=[.row u0 31 5 (List.map Ao r),.blk he [rI .i64 now] 3]):=by
 refine enter (n:=42) Tryz.func33 rfl Tryz.ntmps33 rfl (λw Z=>?_);refine Bb (l':=[(0,rv hd),(1,rv (.func (.func 34) #[] #[(.pointer (some ⟨he,0,none⟩))]))]) (H':=[.row hd 31 5 (List.map Ao ys),.blk he [rI .i64 now] 3]) rfl rfl ?_;unfold K6 at h;refine Ak (wv (r:=rv (.slice none 0 0)) (Ac rfl) (By (wm rfl (wm rfl ?_))));obtain⟨r1,e3,h2⟩:=AL h;refine Gx (Hr:=[]) Tryz.call61 (QP F hd he ys now r1 e3) rfl (AaP _) rfl ?_;rintro _ _ ⟨rfl,rfl⟩;refine wa rfl (Ar (Am (Ak (wm rfl (wv (B3 rfl rfl) (Ar (Ap (b:=decide (r1=(-1))) rfl (λc4=>?_) (λc4=>?_))))))))
 ·have h5:=AB c4 h2;refine Ak (wm rfl (wa rfl (Ar (Ax (Af ?_)))));obtain rfl:=Az h5;exact Aw (BS Tryz.results33 (AJ rfl)) (sC (sC sN)) ⟨hd,rfl,rfl⟩
 ·have h6:=AC c4 h2;refine At (AN (Am (Ak (wm rfl ?_))));obtain⟨g7,h8⟩:=Av h6;refine wv (Bi rfl rfl g7) (wa rfl (Ar (AO ?_)));obtain⟨hz,h0,h1⟩:=AL h8;refine BA (S:=Nat×(Int×Int×(List Ae))×(Unit)) (V:=(Int×(List Ae))×(Unit)) 0 (λσ=>Cg (λσ=>GI now σ.1 σ.2.1 σ.2.2) σ.1 σ.2.1=some hz) (λσ=>[(0,rv hd),(1,rv (.func (.func 34) #[] #[(.pointer (some ⟨he,0,none⟩))])),(4,rv (.slice none 0 0)),(5,rI .i64 σ.2.1.1),(6,rI .i64 σ.2.1.2.1)]) (λσ=>[.row hd 31 5 (List.map Ao σ.2.1.2.2),.blk he [rI .i64 now] 3]) (λσ=>σ.1) (F,(r1,r1+1,ys),()) h0 (AQ.c5 rfl rfl rfl rfl rfl AQ.nil) (sC (sC sN)) (λσ=>GH σ.1.1 σ.1.2=some r) (λσ=>[(0,rv hd),(4,rv (.slice none 0 0)),(5,rI .i64 σ.1.1)]) (λσ=>[.row hd 31 5 (List.map Ao σ.1.2),.blk he [rI .i64 now] 3]) ?_ ?_
  ·rintro⟨hU,⟨hf,ha,hb⟩,⟨⟩⟩ h3;refine Bb (l':=[(0,rv hd),(1,rv (.func (.func 34) #[] #[(.pointer (some ⟨he,0,none⟩))])),(4,rv (.slice none 0 0)),(5,rI .i64 hf),(6,rI .i64 ha)]) (H':=[.row hd 31 5 (List.map Ao hb),.blk he [rI .i64 now] 3]) rfl rfl ?_;obtain⟨h4,rfl,t145,hh,hr⟩:=CM h3;replace hh:GI now hf ha hb=some t145:=hh;unfold GI at hh;refine Am (Ak (wm rfl (wm rfl (wv (C6 (ys:=hb) (enc:=Ao) (i:=0) GO rfl rfl) (wv (Cp rfl rfl) (Ar (Ap (b:=decide (ha<(hb.length:Int))) rfl (λhn=>?_) (λhn=>?_))))))))
   ·have h7:=AB hn hh;refine At (AN (Dz (S:=(Int×Bool×Bool×(List Ae))×(Unit)) (λσ=>EH ha σ.1.1 σ.1.2.1 σ.1.2.2.1 σ.1.2.2.2=some t145) (λσ=>[(0,rv hd),(1,rv (.func (.func 34) #[] #[(.pointer (some ⟨he,0,none⟩))])),(4,rv (.slice none 0 0)),(5,rI .i64 σ.1.1),(6,rI .i64 ha),(16,rI .i64 ha),(17,rv hd),(18,rI .i64 (hb.length:Int)),(19,rB (decide (ha<(hb.length:Int)))),(22,rv hd),(23,rI .i64 ha),(25,Bz (Ao (Ay hb ha))),(26,rv (.func (.func 34) #[] #[(.pointer (some ⟨he,0,none⟩))])),(27,Bz (Ao (Ay hb ha))),(28,rB σ.1.2.1),(29,rB σ.1.2.2.1)]) (λσ=>[.blk he [rI .i64 now] 3,.row hd 31 5 (List.map Ao σ.1.2.2.2)]) ?_ ?_))
    ·refine AO (Ak (wm rfl (wm rfl ?_)));obtain⟨hs,h9⟩:=Av h7;refine wv (r:=rv (E9 5 hd (Int.toNat ha) 0)) (G8 (i:=0) GO Cc rfl rfl rfl (BE hs)) (wv (r:=Bz (Ao (Ay hb ha))) (SH (enc:=Ao) (ys:=hb) (i:=0) (j:=ha) DY Cc rfl rfl hs rfl rfl) (Cf (cs:=[rS ([]:Ah),rI .i64 0,rS ([]:Ah),rS ([]:Ah),rv (.slice none 0 0)]) JX rfl rfl (λho=>?_)));refine Bq (i:=0) Cc rfl rfl rfl (BM.c rfl) rfl rfl (cs':=[rS ((Ay hb ha).fID),rI .i64 ((Ay hb ha).fAt),rS ((Ay hb ha).fTenant),rS ((Ay hb ha).fSource),Bo 4 (List.map Ab ((Ay hb ha).fBody))]) rfl (H':=[.blk ho (Ao (Ay hb ha)) 31,.row hd 31 5 (List.map Ao hb),.blk he [rI .i64 now] 3]) rfl (By (wm rfl (wv (Bs (i:=0) DY Cc rfl rfl rfl rfl) ?_)));obtain⟨hg,hA,ht⟩:=AL h9;refine M9 (rs:=[Bz (Ao (Ay hb ha))]) (Hin:=[.blk he [rI .i64 now] 3]) (Hr:=[.blk ho (Ao (Ay hb ha)) 31,.row hd 31 5 (List.map Ao hb)]) Tryz.call34 rfl rfl ((A9 (i:=2) rfl).trans (AaT _ (AaP _))) (Sr he (Ay hb ha) now hg hA) rfl ?_;rintro _ _ ⟨rfl,rfl⟩;refine wv (BJ rfl) (Ar (Ap (b:=!hg) rfl (λhp=>?_) (λhp=>?_)))
     ·have hB:=AB hp ht;refine Ak (wm rfl (wm rfl (wv (Bs (i:=1) DY Cc rfl rfl rfl rfl) ?_)));obtain⟨hu,hC⟩:=Av hB;refine wv (r:=rv (E9 5 hd (Int.toNat hf) 0)) (G8 (i:=2) GO Cc rfl rfl rfl (BE hu)) (Xs (enc:=Ao) (ys:=hb) (y':=(Ay hb ha)) (i:=2) (j:=hf) Cc rfl rfl (BM.c rfl) rfl hu rfl rfl rfl (H':=[.blk he [rI .i64 now] 3,.blk ho (Ao (Ay hb ha)) 31,.row hd 31 5 (List.map Ao (List.set hb (Int.toNat hf) (Ay hb ha)))]) rfl ?_);obtain⟨hD,hE,hG⟩:=Ev hC;rw[← hE];refine Ar (Aj (wm rfl ?_));obtain⟨hH,hI⟩:=Av hG;exact wv (Bi rfl rfl hH) (wa rfl (Al (AK (Aq (AG ((hf+1,hg,!hg,hD),()) hI (AQ.c rfl (AQ.c5 rfl rfl rfl rfl rfl (AQ.c5 rfl rfl rfl rfl rfl (AQ.c5 rfl rfl rfl rfl rfl AQ.nil)))) (sC (sS (sC sN))))))))
     ·have hJ:=AC hp ht;exact At (AK (Aq (AG ((hf,hg,!hg,hb),()) hJ (AQ.c rfl (AQ.c5 rfl rfl rfl rfl rfl (AQ.c5 rfl rfl rfl rfl rfl (AQ.c5 rfl rfl rfl rfl rfl AQ.nil)))) (sC (sS (sC sN))))))
    ·rintro⟨⟨hq,hw,hx,hk⟩,⟨⟩⟩ hl;refine Bb (l':=[(0,rv hd),(1,rv (.func (.func 34) #[] #[(.pointer (some ⟨he,0,none⟩))])),(4,rv (.slice none 0 0)),(5,rI .i64 hq),(6,rI .i64 ha),(16,rI .i64 ha),(17,rv hd),(18,rI .i64 (hb.length:Int)),(19,rB (decide (ha<(hb.length:Int)))),(22,rv hd),(23,rI .i64 ha),(25,Bz (Ao (Ay hb ha))),(26,rv (.func (.func 34) #[] #[(.pointer (some ⟨he,0,none⟩))])),(27,Bz (Ao (Ay hb ha))),(28,rB hw),(29,rB hx)]) (H':=[.blk he [rI .i64 now] 3,.row hd 31 5 (List.map Ao hk)]) rfl rfl ?_;replace hl:EH ha hq hw hx hk=some t145:=hl;unfold EH at hl;refine Aj (wm rfl ?_);obtain⟨hK,hL⟩:=Av hl;refine wv (Bi rfl rfl hK) (wa rfl (Al (Ca (H2:=[.row hd 31 5 (List.map Ao hk),.blk he [rI .i64 now] 3]) ((A9 (i:=1) rfl).trans (AaT _ (AaP _))) ?_)));have hN:=Bk hL hr;exact Aq (AG (h4,(hq,ha+1,hk),()) ⟨hN,AaX _⟩ (AQ.c5 rfl rfl rfl rfl rfl AQ.nil) (sC (sC sN)))
   ·have hO:=AC hn hh;refine B9 (A5 ?_);have hP:=Cj hO hr h1;exact A5 (Br (AG ((hf,hb),()) hP (AQ.c rfl (AQ.c rfl (AQ.c rfl AQ.nil))) (sC (sC sN))))
  ·rintro⟨⟨hi,hj⟩,⟨⟩⟩ hm;refine CR (l':=[(0,rv hd),(4,rv (.slice none 0 0)),(5,rI .i64 hi)]) (H':=[.row hd 31 5 (List.map Ao hj),.blk he [rI .i64 now] 3]) rfl rfl ?_;replace hm:GH hi hj=some r:=hm;unfold GH at hm;refine Bm (AN (Ak (wm rfl (wm rfl ?_))));obtain⟨hy,hQ⟩:=Av hm;refine wv (r:=rv (No 5 hd (Int.toNat hi))) (YX (i:=0) GO Cc rfl rfl rfl hy) (OR (ys:=hj) (enc:=Ao) (i:=0) (z0:=Ae.mk ([]:Ah) 0 ([]:Ah) ([]:Ah) ([]:(List Aa))) GO JX rfl rfl rfl (by decide) (λZ=>⟨rfl,rfl,rfl,rfl,Rm.nil _ _,trivial⟩) rfl rfl rfl hy (H':=[.row hd 31 5 (List.map Ao (List.take (Int.toNat hi) hj++List.replicate (hj.length-Int.toNat hi) (Ae.mk ([]:Ah) 0 ([]:Ah) ([]:Ah) ([]:(List Aa))))),.blk he [rI .i64 now] 3]) rfl (By (wm rfl (wm rfl ?_))));obtain⟨hR,hS⟩:=Av hQ;refine Yz (i:=0) GO Cc rfl rfl rfl hR rfl (λhT=>?_);refine wa rfl (Ar (Ax ?_));obtain rfl:=Az hS;exact Aw (BS Tryz.results33 (AJ rfl)) (sC (sC sN)) ⟨hT,rfl,rfl⟩
theorem So (hb:Nat)(ha:Nat)(q:Ba)(r:(List Ae)×Ba)(h:Sq q=some r):Fn Tryz.prog GE 15 [rv (.pointer (some ⟨hb,0,none⟩))] [.blk hb [rv (.map (some ha))] 55,.map ha (BC A7 q.fTimers)] (λR H=>∃u0:Value,R=rv u0∧H=[.row u0 31 5 (List.map Ao r.1),.blk hb [rv (.map (some ha))] 55,.map ha (BC A7 r.2.fTimers)]):=by
 refine enter (n:=27) Tryz.func15 rfl Tryz.ntmps15 rfl (λw Z=>?_);refine Bb (l':=[(0,rv (.pointer (some ⟨hb,0,none⟩)))]) (H':=[.blk hb [rv (.map (some ha))] 55,.map ha (BC A7 q.fTimers)]) rfl rfl ?_;unfold Sq at h;refine Ak (wv (r:=rv (.slice none 0 0)) (Ac rfl) (Ar (Am (Ak (wm rfl ?_)))));obtain⟨r1,e3,h2⟩:=AL h;refine Gx (Hr:=[]) UH (KK hb ha q r1 e3) rfl (AaP _) rfl ?_;rintro _ _ ⟨rfl,rfl⟩;refine wv (BJ rfl) (Ar (Ap (b:=!r1.1) rfl (λc4=>?_) (λc4=>?_)))
 ·have h5:=AB c4 h2;refine Ak (wv (r:=rv (.slice none 0 0)) (Ac rfl) (Ar (Ax (Af (WK.nilrow (e:=31) (sz:=5) ?_)))));obtain rfl:=Az h5;exact Aw (BS Tryz.results15 (AJ rfl)) (sC (sC (sC sN))) ⟨(.slice none 0 0                               ),rfl,rfl⟩
 ·have h6:=AC c4 h2;refine At (AN (Ak (wv (r:=rv (.slice none 0 0)) (Ac rfl) (Ar (Am (Ak (wm rfl (wv (A6 rfl) (wv (Ad MU rfl MV rfl rfl) (wv (A0 (i:=0) MX rfl rfl rfl) (Xm (i:=1) NU rfl rfl rfl (λb7=>?_))))))))))));refine Ar (AO (WC.nilrow (e:=31) (sz:=5) (KB (H2:=[.blk hb [rv (.map (some ha))] 55,.mit ha b7 (BC A7 r1.2.fTimers) (BC A7 r1.2.fTimers) none,.row (.slice none 0 0                               ) 31 5 (List.map Ao ([]:List Ae))]) ((A9 (i:=1) rfl).trans (AaT _ ((A9 (i:=1) rfl).trans (AaT _ (AaP _))))) ?_)));have hq:=VW h6;refine BA (S:=(List (Ah×Ai))×((List Ae))×(Value)) (V:=((List Ae))×(Value)) 0 (λσ=>∀q:List (Ah×Ai),q.Perm σ.1→Bx (We (λp τ=>KL p.1 p.2 τ) q σ.2.1) (BL λν=>It r1 ν)=some r) (λσ=>[(2,rv (.slice none 0 0)),(3,rv σ.2.2),(13,rv (.pointer (some ⟨b7,0,none⟩)))]) (λσ=>[.blk hb [rv (.map (some ha))] 55,.mit ha b7 (BC A7 r1.2.fTimers) (BC A7 σ.1) none,.row σ.2.2 31 5 (List.map Ao σ.2.1)]) (λσ=>σ.1.length) (r1.2.fTimers,([]:List Ae),(.slice none 0 0                               )) hq (AQ.c rfl (AQ.c rfl (AQ.c rfl AQ.nil))) (sC (sC (sC sN))) (λσ=>It r1 σ.1=some r) (λσ=>[(2,rv (.slice none 0 0)),(3,rv σ.2),(13,rv (.pointer (some ⟨b7,0,none⟩)))]) (λσ=>[.blk hb [rv (.map (some ha))] 55,.map ha (BC A7 r1.2.fTimers),.row σ.2 31 5 (List.map Ao σ.1)]) ?_ ?_
  ·rintro⟨hl,he,hf⟩ hm;refine Bb (l':=[(2,rv (.slice none 0 0)),(3,rv hf),(13,rv (.pointer (some ⟨b7,0,none⟩)))]) (H':=[.blk hb [rv (.map (some ha))] 55,.mit ha b7 (BC A7 r1.2.fTimers) (BC A7 hl) none,.row hf 31 5 (List.map Ao he)]) rfl rfl (Ak (YK (enc:=A7) (ys:=hl) (i:=1) rfl rfl rfl (λhy=>?_) (λp hg hn=>?_)))
   ·have hr:It r1 he=some r:=XS hm hy;exact wv (AF rfl rfl) (Ar (Am (Ey rfl rfl (B9 (A5 (WK.unmit (i:=1) rfl (A5 (Br (AG (he,hf) hr (AQ.c rfl (AQ.c rfl (AQ.c rfl AQ.nil))) (sC (sC (sC sN))))))))))))
   ·obtain⟨hh,x16⟩:=p;obtain⟨hs,hi,ht⟩:=ZN hm hn;replace hi:KL hh x16 he=some hs:=hi;unfold KL at hi;refine YH (H':=[.blk hb [rv (.map (some ha))] 55,.mit ha b7 (BC A7 r1.2.fTimers) (BC A7 hg) (some (hh,A7 x16)),.row hf 31 5 (List.map Ao he)]) rfl (wv (AF rfl rfl) (Ar (Am (EX rfl rfl (At (AN (AO (Ak (wv (r:=C5 [rS hh,Bz (Hv x16)]) (XM (i:=1) rfl rfl) (wv (AF rfl rfl) (Cf (cs:=[rS ([]:Ah),rI .i64 0,rS ([]:Ah),rS ([]:Ah),rv (.slice none 0 0),rB false]) PE rfl rfl (λho=>?_))))))))))));refine Bq (i:=0) UD rfl rfl rfl (BM.c rfl) rfl rfl (cs':=[rS x16.fTimer.fID,rI .i64 x16.fTimer.fAt,rS x16.fTimer.fTenant,rS x16.fTimer.fSource,Bo 4 (List.map Ab x16.fTimer.fBody),rB x16.fTold]) rfl (H':=[.blk ho (Hv x16) 66,.blk hb [rv (.map (some ha))] 55,.mit ha b7 (BC A7 r1.2.fTimers) (BC A7 hg) (some (hh,A7 x16)),.row hf 31 5 (List.map Ao he)]) rfl (Ar (Aj (wm rfl (wv (Ad Tm rfl Cc rfl rfl) (wv (Bs (i:=0) DY Cc rfl rfl rfl rfl) ?_)))));obtain⟨hd,hu,hw⟩:=AL hi;refine Co Tryz.call38 (UW x16.fTimer hd hu) rfl (AY (ys:=([hd]:List Ae)) (enc:=Ao) (css:=[[rS hd.fID,rI .i64 hd.fAt,rS hd.fTenant,rS hd.fSource,Bo 4 (List.map Ab hd.fBody)]]) (xs:=[.tmp 21]) GO Cc JX rfl rfl rfl ⟨Gw.agg ⟨Up.refl _,Up.refl _,Up.refl _,Up.refl _,Up.refl _,trivial⟩,trivial⟩ rfl DA rfl rfl rfl (λhx=>?_));obtain⟨hz,h0⟩:=Av hw;obtain⟨inf,hinf⟩:=Zh;refine BV (xs:=he) (ys:=([hd]:List Ae)) (enc:=Ao) (i:=4) GO hinf.1 hinf.2.1 hinf.2.2.1 hinf.2.2.2 rfl rfl rfl rfl rfl (JW.w (i:=0) rfl rfl) DA Jw hz rfl (λhp=>?_);refine wa rfl (Al (AK (WK.uncur (i:=4) rfl (Ca (H2:=[.blk hb [rv (.map (some ha))] 55,.mit ha b7 (BC A7 r1.2.fTimers) (BC A7 hg) none,.row hp 31 5 (List.map Ao (he++([hd]:List Ae))),.row (.slice (some ⟨hx,0,none⟩) 1 1) 31 5 (List.map Ao ([hd]:List Ae)),.blk ho (Hv x16) 66]) ((A9 (i:=3) rfl).trans (AaT _ ((A9 (i:=3) rfl).trans (AaT _ (AaP _))))) ?_))));have h1:=Uf h0 ht;exact Aq (AG (hg,he++([hd]:List Ae),hp) ⟨h1,XA hn⟩ (AQ.c rfl (AQ.c rfl (AQ.c rfl AQ.nil))) (sC (sC (sC (sS (sS sN))))))
  ·rintro⟨hk,v55⟩ hj;refine CR (l':=[(2,rv (.slice none 0 0)),(3,rv v55),(13,rv (.pointer (some ⟨b7,0,none⟩)))]) (H':=[.blk hb [rv (.map (some ha))] 55,.map ha (BC A7 r1.2.fTimers),.row v55 31 5 (List.map Ao hk)]) rfl rfl ?_;replace hj:It r1 hk=some r:=hj;unfold It at hj;refine Bm (AN (Ak (wm rfl ?_)));obtain⟨h3,h4⟩:=Av hj;obtain⟨h7,h8⟩:=Av h4;refine Ci (rs:=[rv v55,rv (.func (.func 40) #[] #[])]) (Hin:=[.row v55 31 5 (List.map Ao hk)]) (Hr:=[.blk hb [rv (.map (some ha))] 55,.map ha (BC A7 r1.2.fTimers)]) Tryz.call39 rfl ((A9 (i:=2) rfl).trans (AaT _ (AaP _))) (X4 h3 h7) rfl ?_;rintro _ _ ⟨rfl,rfl⟩;refine By (wm rfl (wa rfl (Ar (Ax ?_))));obtain rfl:=Az h8;exact Aw (BS Tryz.results15 (AJ rfl)) (sC (sC (sC sN))) ⟨v55,rfl,rfl⟩
theorem UY (F:Nat)(hf:Nat)(he:Nat)(q:Ba)(now:Int)(r:(List Ae)×Ba)(h:Xz F q now=some r):Fn Tryz.prog GE 11 [rv (.pointer (some ⟨hf,0,none⟩)),rI .i64 now] [.blk hf [rv (.map (some he))] 55,.map he (BC A7 q.fTimers)] (λR H=>∃u0:Value,R=rv u0∧H=[.row u0 31 5 (List.map Ao r.1),.blk hf [rv (.map (some he))] 55,.map he (BC A7 r.2.fTimers)]):=by
 refine enter (n:=49) Tryz.func11 rfl Tryz.ntmps11 rfl (λw Z=>?_);refine Bb (l':=[(0,rv (.pointer (some ⟨hf,0,none⟩))),(1,rI .i64 now)]) (H':=[.blk hf [rv (.map (some he))] 55,.map he (BC A7 q.fTimers)]) rfl rfl ?_;unfold Xz at h;refine Ak (UN rfl (Ck rfl) rfl (λb1=>?_));refine wv (r:=rv (.slice none 0 0)) (Ac rfl) (Ar (Am (Ak (wm rfl ?_))));obtain⟨r2,e4,h3⟩:=AL h;refine Gx (Hr:=[.blk b1 [rI .i64 now] 3]) UH (KK hf he q r2 e4) rfl ((A9 (i:=1) rfl).trans (AaT _ ((A9 (i:=1) rfl).trans (AaT _ (AaP _))))) rfl ?_;rintro _ _ ⟨rfl,rfl⟩;refine wv (BJ rfl) (Ar (Ap (b:=!r2.1) rfl (λc5=>?_) (λc5=>?_)))
 ·have h6:=AB c5 h3;refine Ak (wv (r:=rv (.slice none 0 0)) (Ac rfl) (Ar (Ax (Af (WK.nilrow (e:=31) (sz:=5) ?_)))));obtain rfl:=Az h6;exact Aw (BS Tryz.results11 (AJ rfl)) (sC (sC (sC (sS sN)))) ⟨(.slice none 0 0                               ),rfl,rfl⟩
 ·have h7:=AC c5 h3;refine At (AN (Am (Ak (wm rfl (wv (A6 rfl) (wv (Ad MU rfl MV rfl rfl) (wv (A0 (i:=0) MX rfl rfl rfl) (Ci (rs:=[rv (.map (some he))]) (Hin:=[]) (Hr:=[.blk hf [rv (.map (some he))] 55,.map he (BC A7 r2.2.fTimers),.blk b1 [rI .i64 now] 3]) Tryz.call32 rfl (AaP _) (RL he) rfl ?_))))))));rintro _ _ ⟨b8,rfl,rfl⟩;obtain⟨g9,hq⟩:=Av h7;refine Ci (rs:=[rv (.func (.func 60) #[] #[(.pointer (some ⟨b8,0,none⟩))])]) (Hin:=[.blk b8 [rv (.map (some he))] 53,.map he (BC A7 r2.2.fTimers)]) (Hr:=[.blk hf [rv (.map (some he))] 55,.blk b1 [rI .i64 now] 3]) Tryz.call31 rfl ((A9 (i:=0) rfl).trans (AaT _ ((A9 (i:=1) rfl).trans (AaT _ (AaP _))))) (P0 A7 r2.2.fTimers b8 he g9) rfl ?_;rintro _ _ ⟨hh,ha,rfl,hr,rfl⟩;have hs:=VW hq ha hr;refine wv (C6 (ys:=ha) (enc:=eS) (i:=0) DW rfl rfl) (wv (r:=rI .i64 0) (Au rfl) (Ar (AO ?_)));obtain⟨ht,hu,hw⟩:=AL hs;refine BA (S:=Nat×(Int×(List (Ah×Ai)))×(Unit)) (V:=((List (Ah×Ai)))×(Unit)) 0 (λσ=>Cg (λσ=>MB now ha σ.1 σ.2) σ.1 σ.2.1=some ht) (λσ=>[(0,rv (.pointer (some ⟨hf,0,none⟩))),(3,rv (.pointer (some ⟨b1,0,none⟩))),(16,rv hh),(17,rI .i64 (ha.length:Int)),(18,rI .i64 σ.2.1.1)]) (λσ=>[.row hh 9 1 (List.map eS ha),.map he (BC A7 σ.2.1.2),.blk hf [rv (.map (some he))] 55,.blk b1 [rI .i64 now] 3]) (λσ=>σ.1) (F,(0,r2.2.fTimers),()) hu (AQ.c5 rfl rfl rfl rfl rfl AQ.nil) (sC (sS (sC (sC (sC sN))))) (λσ=>MA F now σ.1=some r) (λσ=>[(0,rv (.pointer (some ⟨hf,0,none⟩))),(3,rv (.pointer (some ⟨b1,0,none⟩)))]) (λσ=>[.map he (BC A7 σ.1),.blk hf [rv (.map (some he))] 55,.blk b1 [rI .i64 now] 3]) ?_ ?_
  ·rintro⟨hI,⟨hd,hb⟩,⟨⟩⟩ hx;refine Bb (l':=[(0,rv (.pointer (some ⟨hf,0,none⟩))),(3,rv (.pointer (some ⟨b1,0,none⟩))),(16,rv hh),(17,rI .i64 (ha.length:Int)),(18,rI .i64 hd)]) (H':=[.row hh 9 1 (List.map eS ha),.map he (BC A7 hb),.blk hf [rv (.map (some he))] 55,.blk b1 [rI .i64 now] 3]) rfl rfl ?_;obtain⟨hy,rfl,hz,hj,ho⟩:=CM hx;replace hj:MB now ha hd hb=some hz:=hj;unfold MB at hj;refine Ak (wv (Cp rfl rfl) (Ar (Am (Ap (b:=decide (hd<(ha.length:Int))) rfl (λhl=>?_) (λhl=>?_)))))
   ·have h0:=AB hl hj;refine At (AN (Am (AO (Ak ?_))));obtain⟨hp,h1⟩:=Av h0;refine wv (r:=rv (E9 1 hh (Int.toNat hd) 0)) (G8 (i:=0) DW CV rfl rfl rfl (BE hp)) (wv (r:=rS (Ay ha hd)) (GP (enc:=eS) (ys:=ha) (i:=0) (j:=hd) Dn rfl rfl hp rfl) (wa rfl (By (wm rfl (wv (A6 rfl) (wv (Ad MU rfl MV rfl rfl) (wv (A0 (i:=2) MX rfl rfl rfl) (wm rfl (wv (r:=Bz [rS (((Bg hb (Ay ha hd) (Ai.mk (Ae.mk ([]:Ah) 0 ([]:Ah) ([]:Ah) ([]:(List Aa))) false)).fTimer).fID),rI .i64 (((Bg hb (Ay ha hd) (Ai.mk (Ae.mk ([]:Ah) 0 ([]:Ah) ([]:Ah) ([]:(List Aa))) false)).fTimer).fAt),rS (((Bg hb (Ay ha hd) (Ai.mk (Ae.mk ([]:Ah) 0 ([]:Ah) ([]:Ah) ([]:(List Aa))) false)).fTimer).fTenant),rS (((Bg hb (Ay ha hd) (Ai.mk (Ae.mk ([]:Ah) 0 ([]:Ah) ([]:Ah) ([]:(List Aa))) false)).fTimer).fSource),Bo 4 (List.map Ab (((Bg hb (Ay ha hd) (Ai.mk (Ae.mk ([]:Ah) 0 ([]:Ah) ([]:Ah) ([]:(List Aa))) false)).fTimer).fBody)),rB ((Bg hb (Ay ha hd) (Ai.mk (Ae.mk ([]:Ah) 0 ([]:Ah) ([]:Ah) ([]:(List Aa))) false)).fTold)]) (VN (enc:=A7) (xs:=hb) (z:=Ai.mk (Ae.mk ([]:Ah) 0 ([]:Ah) ([]:Ah) ([]:(List Aa))) false) (i:=1) NU BP PE EN rfl rfl rfl) (Cf (cs:=[rS ([]:Ah),rI .i64 0,rS ([]:Ah),rS ([]:Ah),rv (.slice none 0 0),rB false]) PE rfl rfl (λhi=>?_)))))))))));refine Bq (i:=0) UD rfl rfl rfl (BM.c rfl) rfl rfl (cs':=[rS (((Bg hb (Ay ha hd) (Ai.mk (Ae.mk ([]:Ah) 0 ([]:Ah) ([]:Ah) ([]:(List Aa))) false)).fTimer).fID),rI .i64 (((Bg hb (Ay ha hd) (Ai.mk (Ae.mk ([]:Ah) 0 ([]:Ah) ([]:Ah) ([]:(List Aa))) false)).fTimer).fAt),rS (((Bg hb (Ay ha hd) (Ai.mk (Ae.mk ([]:Ah) 0 ([]:Ah) ([]:Ah) ([]:(List Aa))) false)).fTimer).fTenant),rS (((Bg hb (Ay ha hd) (Ai.mk (Ae.mk ([]:Ah) 0 ([]:Ah) ([]:Ah) ([]:(List Aa))) false)).fTimer).fSource),Bo 4 (List.map Ab (((Bg hb (Ay ha hd) (Ai.mk (Ae.mk ([]:Ah) 0 ([]:Ah) ([]:Ah) ([]:(List Aa))) false)).fTimer).fBody)),rB ((Bg hb (Ay ha hd) (Ai.mk (Ae.mk ([]:Ah) 0 ([]:Ah) ([]:Ah) ([]:(List Aa))) false)).fTold)]) rfl (H':=[.blk hi [rS (((Bg hb (Ay ha hd) (Ai.mk (Ae.mk ([]:Ah) 0 ([]:Ah) ([]:Ah) ([]:(List Aa))) false)).fTimer).fID),rI .i64 (((Bg hb (Ay ha hd) (Ai.mk (Ae.mk ([]:Ah) 0 ([]:Ah) ([]:Ah) ([]:(List Aa))) false)).fTimer).fAt),rS (((Bg hb (Ay ha hd) (Ai.mk (Ae.mk ([]:Ah) 0 ([]:Ah) ([]:Ah) ([]:(List Aa))) false)).fTimer).fTenant),rS (((Bg hb (Ay ha hd) (Ai.mk (Ae.mk ([]:Ah) 0 ([]:Ah) ([]:Ah) ([]:(List Aa))) false)).fTimer).fSource),Bo 4 (List.map Ab (((Bg hb (Ay ha hd) (Ai.mk (Ae.mk ([]:Ah) 0 ([]:Ah) ([]:Ah) ([]:(List Aa))) false)).fTimer).fBody)),rB ((Bg hb (Ay ha hd) (Ai.mk (Ae.mk ([]:Ah) 0 ([]:Ah) ([]:Ah) ([]:(List Aa))) false)).fTold)] 66,.row hh 9 1 (List.map eS ha),.map he (BC A7 hb),.blk hf [rv (.map (some he))] 55,.blk b1 [rI .i64 now] 3]) rfl (Ar (AA [(0,rv (.pointer (some ⟨hf,0,none⟩))),(3,rv (.pointer (some ⟨b1,0,none⟩))),(6,rS (Ay ha hd)),(7,rv (.pointer (some ⟨hi,0,none⟩))),(16,rv hh),(17,rI .i64 (ha.length:Int)),(18,rI .i64 hd)] [.blk hi [rS (((Bg hb (Ay ha hd) (Ai.mk (Ae.mk ([]:Ah) 0 ([]:Ah) ([]:Ah) ([]:(List Aa))) false)).fTimer).fID),rI .i64 (((Bg hb (Ay ha hd) (Ai.mk (Ae.mk ([]:Ah) 0 ([]:Ah) ([]:Ah) ([]:(List Aa))) false)).fTimer).fAt),rS (((Bg hb (Ay ha hd) (Ai.mk (Ae.mk ([]:Ah) 0 ([]:Ah) ([]:Ah) ([]:(List Aa))) false)).fTimer).fTenant),rS (((Bg hb (Ay ha hd) (Ai.mk (Ae.mk ([]:Ah) 0 ([]:Ah) ([]:Ah) ([]:(List Aa))) false)).fTimer).fSource),Bo 4 (List.map Ab (((Bg hb (Ay ha hd) (Ai.mk (Ae.mk ([]:Ah) 0 ([]:Ah) ([]:Ah) ([]:(List Aa))) false)).fTimer).fBody)),rB (((Bg hb (Ay ha hd) (Ai.mk (Ae.mk ([]:Ah) 0 ([]:Ah) ([]:Ah) ([]:(List Aa))) false)).fTold)||(decide ((((Bg hb (Ay ha hd) (Ai.mk (Ae.mk ([]:Ah) 0 ([]:Ah) ([]:Ah) ([]:(List Aa))) false)).fTimer).fAt)≤now)))] 66,.row hh 9 1 (List.map eS ha),.map he (BC A7 hb),.blk hf [rv (.map (some he))] 55,.blk b1 [rI .i64 now] 3] ?_ ?_))
    ·refine Aj (wv (Ad Tm rfl HO rfl rfl) (wv (A0 (i:=0) Sk rfl rfl rfl) (wm rfl (AH ((Bg hb (Ay ha hd) (Ai.mk (Ae.mk ([]:Ah) 0 ([]:Ah) ([]:Ah) ([]:(List Aa))) false)).fTold) (λhg=>?_) (λhg=>?_)))))
     ·refine wf hg (wf hg (wf hg (wf hg (wf hg (wv (r:=rB true) (As (b:=(Bg hb (Ay ha hd) (Ai.mk (Ae.mk ([]:Ah) 0 ([]:Ah) ([]:Ah) ([]:(List Aa))) false)).fTold) rfl hg rfl) (wv (Ad Tm rfl HO rfl rfl) (BD (i:=0) HO rfl rfl (Ck rfl) rfl rfl (cs':=[rS (((Bg hb (Ay ha hd) (Ai.mk (Ae.mk ([]:Ah) 0 ([]:Ah) ([]:Ah) ([]:(List Aa))) false)).fTimer).fID),rI .i64 (((Bg hb (Ay ha hd) (Ai.mk (Ae.mk ([]:Ah) 0 ([]:Ah) ([]:Ah) ([]:(List Aa))) false)).fTimer).fAt),rS (((Bg hb (Ay ha hd) (Ai.mk (Ae.mk ([]:Ah) 0 ([]:Ah) ([]:Ah) ([]:(List Aa))) false)).fTimer).fTenant),rS (((Bg hb (Ay ha hd) (Ai.mk (Ae.mk ([]:Ah) 0 ([]:Ah) ([]:Ah) ([]:(List Aa))) false)).fTimer).fSource),Bo 4 (List.map Ab (((Bg hb (Ay ha hd) (Ai.mk (Ae.mk ([]:Ah) 0 ([]:Ah) ([]:Ah) ([]:(List Aa))) false)).fTimer).fBody)),rB true]) rfl (H':=[.blk hi [rS (((Bg hb (Ay ha hd) (Ai.mk (Ae.mk ([]:Ah) 0 ([]:Ah) ([]:Ah) ([]:(List Aa))) false)).fTimer).fID),rI .i64 (((Bg hb (Ay ha hd) (Ai.mk (Ae.mk ([]:Ah) 0 ([]:Ah) ([]:Ah) ([]:(List Aa))) false)).fTimer).fAt),rS (((Bg hb (Ay ha hd) (Ai.mk (Ae.mk ([]:Ah) 0 ([]:Ah) ([]:Ah) ([]:(List Aa))) false)).fTimer).fTenant),rS (((Bg hb (Ay ha hd) (Ai.mk (Ae.mk ([]:Ah) 0 ([]:Ah) ([]:Ah) ([]:(List Aa))) false)).fTimer).fSource),Bo 4 (List.map Ab (((Bg hb (Ay ha hd) (Ai.mk (Ae.mk ([]:Ah) 0 ([]:Ah) ([]:Ah) ([]:(List Aa))) false)).fTimer).fBody)),rB true] 66,.row hh 9 1 (List.map eS ha),.map he (BC A7 hb),.blk hf [rv (.map (some he))] 55,.blk b1 [rI .i64 now] 3]) rfl (Al (H9 (H':=[.blk hi [rS (((Bg hb (Ay ha hd) (Ai.mk (Ae.mk ([]:Ah) 0 ([]:Ah) ([]:Ah) ([]:(List Aa))) false)).fTimer).fID),rI .i64 (((Bg hb (Ay ha hd) (Ai.mk (Ae.mk ([]:Ah) 0 ([]:Ah) ([]:Ah) ([]:(List Aa))) false)).fTimer).fAt),rS (((Bg hb (Ay ha hd) (Ai.mk (Ae.mk ([]:Ah) 0 ([]:Ah) ([]:Ah) ([]:(List Aa))) false)).fTimer).fTenant),rS (((Bg hb (Ay ha hd) (Ai.mk (Ae.mk ([]:Ah) 0 ([]:Ah) ([]:Ah) ([]:(List Aa))) false)).fTimer).fSource),Bo 4 (List.map Ab (((Bg hb (Ay ha hd) (Ai.mk (Ae.mk ([]:Ah) 0 ([]:Ah) ([]:Ah) ([]:(List Aa))) false)).fTimer).fBody)),rB (((Bg hb (Ay ha hd) (Ai.mk (Ae.mk ([]:Ah) 0 ([]:Ah) ([]:Ah) ([]:(List Aa))) false)).fTold)||(decide ((((Bg hb (Ay ha hd) (Ai.mk (Ae.mk ([]:Ah) 0 ([]:Ah) ([]:Ah) ([]:(List Aa))) false)).fTimer).fAt)≤now)))] 66,.row hh 9 1 (List.map eS ha),.map he (BC A7 hb),.blk hf [rv (.map (some he))] 55,.blk b1 [rI .i64 now] 3]) (by simp only[hg,AaW,Abc,Abm,AaZ,Abf,Abe,Abl,Abg,AaV,Abd,AaQ,AaN]) ?_)))))))));exact wt
     ·refine wo hg (wv (Ad Tm rfl Cc rfl rfl) (wo hg (wv (Ad CQ rfl Cu rfl rfl) (wo hg (wv (A0 (i:=0) Dd rfl rfl rfl) (wo hg (wv (A0 (i:=4) Dd rfl rfl rfl) (wo hg (wv (II rfl rfl) (D4 rfl hg rfl (wv (Ad Tm rfl HO rfl rfl) (BD (i:=0) HO rfl rfl (Ck rfl) rfl rfl (cs':=[rS (((Bg hb (Ay ha hd) (Ai.mk (Ae.mk ([]:Ah) 0 ([]:Ah) ([]:Ah) ([]:(List Aa))) false)).fTimer).fID),rI .i64 (((Bg hb (Ay ha hd) (Ai.mk (Ae.mk ([]:Ah) 0 ([]:Ah) ([]:Ah) ([]:(List Aa))) false)).fTimer).fAt),rS (((Bg hb (Ay ha hd) (Ai.mk (Ae.mk ([]:Ah) 0 ([]:Ah) ([]:Ah) ([]:(List Aa))) false)).fTimer).fTenant),rS (((Bg hb (Ay ha hd) (Ai.mk (Ae.mk ([]:Ah) 0 ([]:Ah) ([]:Ah) ([]:(List Aa))) false)).fTimer).fSource),Bo 4 (List.map Ab (((Bg hb (Ay ha hd) (Ai.mk (Ae.mk ([]:Ah) 0 ([]:Ah) ([]:Ah) ([]:(List Aa))) false)).fTimer).fBody)),rB (decide ((((Bg hb (Ay ha hd) (Ai.mk (Ae.mk ([]:Ah) 0 ([]:Ah) ([]:Ah) ([]:(List Aa))) false)).fTimer).fAt)≤now))]) rfl (H':=[.blk hi [rS (((Bg hb (Ay ha hd) (Ai.mk (Ae.mk ([]:Ah) 0 ([]:Ah) ([]:Ah) ([]:(List Aa))) false)).fTimer).fID),rI .i64 (((Bg hb (Ay ha hd) (Ai.mk (Ae.mk ([]:Ah) 0 ([]:Ah) ([]:Ah) ([]:(List Aa))) false)).fTimer).fAt),rS (((Bg hb (Ay ha hd) (Ai.mk (Ae.mk ([]:Ah) 0 ([]:Ah) ([]:Ah) ([]:(List Aa))) false)).fTimer).fTenant),rS (((Bg hb (Ay ha hd) (Ai.mk (Ae.mk ([]:Ah) 0 ([]:Ah) ([]:Ah) ([]:(List Aa))) false)).fTimer).fSource),Bo 4 (List.map Ab (((Bg hb (Ay ha hd) (Ai.mk (Ae.mk ([]:Ah) 0 ([]:Ah) ([]:Ah) ([]:(List Aa))) false)).fTimer).fBody)),rB (decide ((((Bg hb (Ay ha hd) (Ai.mk (Ae.mk ([]:Ah) 0 ([]:Ah) ([]:Ah) ([]:(List Aa))) false)).fTimer).fAt)≤now))] 66,.row hh 9 1 (List.map eS ha),.map he (BC A7 hb),.blk hf [rv (.map (some he))] 55,.blk b1 [rI .i64 now] 3]) rfl (Al (H9 (H':=[.blk hi [rS (((Bg hb (Ay ha hd) (Ai.mk (Ae.mk ([]:Ah) 0 ([]:Ah) ([]:Ah) ([]:(List Aa))) false)).fTimer).fID),rI .i64 (((Bg hb (Ay ha hd) (Ai.mk (Ae.mk ([]:Ah) 0 ([]:Ah) ([]:Ah) ([]:(List Aa))) false)).fTimer).fAt),rS (((Bg hb (Ay ha hd) (Ai.mk (Ae.mk ([]:Ah) 0 ([]:Ah) ([]:Ah) ([]:(List Aa))) false)).fTimer).fTenant),rS (((Bg hb (Ay ha hd) (Ai.mk (Ae.mk ([]:Ah) 0 ([]:Ah) ([]:Ah) ([]:(List Aa))) false)).fTimer).fSource),Bo 4 (List.map Ab (((Bg hb (Ay ha hd) (Ai.mk (Ae.mk ([]:Ah) 0 ([]:Ah) ([]:Ah) ([]:(List Aa))) false)).fTimer).fBody)),rB (((Bg hb (Ay ha hd) (Ai.mk (Ae.mk ([]:Ah) 0 ([]:Ah) ([]:Ah) ([]:(List Aa))) false)).fTold)||(decide ((((Bg hb (Ay ha hd) (Ai.mk (Ae.mk ([]:Ah) 0 ([]:Ah) ([]:Ah) ([]:(List Aa))) false)).fTimer).fAt)≤now)))] 66,.row hh 9 1 (List.map eS ha),.map he (BC A7 hb),.blk hf [rv (.map (some he))] 55,.blk b1 [rI .i64 now] 3]) (by simp only[hg,AaW,Abc,Abm,AaZ,Abf,Abe,Abl,Abg,AaV,Abd,AaQ,AaN]) ?_))))))))))))));exact wt
    refine Ha 6 [0,3,6,7,16,17,18] [⟨[],rv (.pointer (some ⟨hf,0,none⟩)),none,none,none⟩,⟨[0],rv (.pointer (some ⟨hf,0,none⟩)),none,none,none⟩,⟨[1],rv (.pointer (some ⟨hf,0,none⟩)),none,none,none⟩,⟨[2],rv (.map (some he)),none,none,none⟩,⟨[],rS (Ay ha hd),none,none,none⟩,⟨[],Bz [rS (((Bg hb (Ay ha hd) (Ai.mk (Ae.mk ([]:Ah) 0 ([]:Ah) ([]:Ah) ([]:(List Aa))) false)).fTimer).fID),rI .i64 (((Bg hb (Ay ha hd) (Ai.mk (Ae.mk ([]:Ah) 0 ([]:Ah) ([]:Ah) ([]:(List Aa))) false)).fTimer).fAt),rS (((Bg hb (Ay ha hd) (Ai.mk (Ae.mk ([]:Ah) 0 ([]:Ah) ([]:Ah) ([]:(List Aa))) false)).fTimer).fTenant),rS (((Bg hb (Ay ha hd) (Ai.mk (Ae.mk ([]:Ah) 0 ([]:Ah) ([]:Ah) ([]:(List Aa))) false)).fTimer).fSource),Bo 4 (List.map Ab (((Bg hb (Ay ha hd) (Ai.mk (Ae.mk ([]:Ah) 0 ([]:Ah) ([]:Ah) ([]:(List Aa))) false)).fTimer).fBody)),rB (((Bg hb (Ay ha hd) (Ai.mk (Ae.mk ([]:Ah) 0 ([]:Ah) ([]:Ah) ([]:(List Aa))) false)).fTold)||(decide ((((Bg hb (Ay ha hd) (Ai.mk (Ae.mk ([]:Ah) 0 ([]:Ah) ([]:Ah) ([]:(List Aa))) false)).fTimer).fAt)≤now)))],none,none,none⟩] ?_ (λβ=>?_)
    ·refine DE (Au rfl) (DE (A6 rfl) (DE (Ad MU rfl MV rfl rfl) (Y2 (A0 (i:=3) MX rfl rfl rfl) (DE (Au rfl) (Y2 (Bs (i:=0) Tryz.isAgg66 UD rfl rfl rfl rfl) ?_)))));exact XH
    refine HZ (H1:=[.blk hi [rS (((Bg hb (Ay ha hd) (Ai.mk (Ae.mk ([]:Ah) 0 ([]:Ah) ([]:Ah) ([]:(List Aa))) false)).fTimer).fID),rI .i64 (((Bg hb (Ay ha hd) (Ai.mk (Ae.mk ([]:Ah) 0 ([]:Ah) ([]:Ah) ([]:(List Aa))) false)).fTimer).fAt),rS (((Bg hb (Ay ha hd) (Ai.mk (Ae.mk ([]:Ah) 0 ([]:Ah) ([]:Ah) ([]:(List Aa))) false)).fTimer).fTenant),rS (((Bg hb (Ay ha hd) (Ai.mk (Ae.mk ([]:Ah) 0 ([]:Ah) ([]:Ah) ([]:(List Aa))) false)).fTimer).fSource),Bo 4 (List.map Ab (((Bg hb (Ay ha hd) (Ai.mk (Ae.mk ([]:Ah) 0 ([]:Ah) ([]:Ah) ([]:(List Aa))) false)).fTimer).fBody)),rB (((Bg hb (Ay ha hd) (Ai.mk (Ae.mk ([]:Ah) 0 ([]:Ah) ([]:Ah) ([]:(List Aa))) false)).fTold)||(decide ((((Bg hb (Ay ha hd) (Ai.mk (Ae.mk ([]:Ah) 0 ([]:Ah) ([]:Ah) ([]:(List Aa))) false)).fTimer).fAt)≤now)))] 66,.row hh 9 1 (List.map eS ha),.map he (BC A7 hb),.blk hf [rv (.map (some he))] 55,.blk b1 [rI .i64 now] 3]) [38,39,40,41,42,43,0,3,6,7,16,17,18] ?_;refine Sm (enc:=A7) (xs:=hb) (v:=(Ai.mk ((Bg hb (Ay ha hd) (Ai.mk (Ae.mk ([]:Ah) 0 ([]:Ah) ([]:Ah) ([]:(List Aa))) false)).fTimer) (((Bg hb (Ay ha hd) (Ai.mk (Ae.mk ([]:Ah) 0 ([]:Ah) ([]:Ah) ([]:(List Aa))) false)).fTold)||(decide ((((Bg hb (Ay ha hd) (Ai.mk (Ae.mk ([]:Ah) 0 ([]:Ah) ([]:Ah) ([]:(List Aa))) false)).fTimer).fAt)≤now))))) (i:=2) NU BP rfl rfl rfl rfl (H':=[.blk hi [rS (((Bg hb (Ay ha hd) (Ai.mk (Ae.mk ([]:Ah) 0 ([]:Ah) ([]:Ah) ([]:(List Aa))) false)).fTimer).fID),rI .i64 (((Bg hb (Ay ha hd) (Ai.mk (Ae.mk ([]:Ah) 0 ([]:Ah) ([]:Ah) ([]:(List Aa))) false)).fTimer).fAt),rS (((Bg hb (Ay ha hd) (Ai.mk (Ae.mk ([]:Ah) 0 ([]:Ah) ([]:Ah) ([]:(List Aa))) false)).fTimer).fTenant),rS (((Bg hb (Ay ha hd) (Ai.mk (Ae.mk ([]:Ah) 0 ([]:Ah) ([]:Ah) ([]:(List Aa))) false)).fTimer).fSource),Bo 4 (List.map Ab (((Bg hb (Ay ha hd) (Ai.mk (Ae.mk ([]:Ah) 0 ([]:Ah) ([]:Ah) ([]:(List Aa))) false)).fTimer).fBody)),rB (((Bg hb (Ay ha hd) (Ai.mk (Ae.mk ([]:Ah) 0 ([]:Ah) ([]:Ah) ([]:(List Aa))) false)).fTold)||(decide ((((Bg hb (Ay ha hd) (Ai.mk (Ae.mk ([]:Ah) 0 ([]:Ah) ([]:Ah) ([]:(List Aa))) false)).fTimer).fAt)≤now)))] 66,.row hh 9 1 (List.map eS ha),.map he (BC A7 (mset hb (Ay ha hd) (Ai.mk ((Bg hb (Ay ha hd) (Ai.mk (Ae.mk ([]:Ah) 0 ([]:Ah) ([]:Ah) ([]:(List Aa))) false)).fTimer) (((Bg hb (Ay ha hd) (Ai.mk (Ae.mk ([]:Ah) 0 ([]:Ah) ([]:Ah) ([]:(List Aa))) false)).fTold)||(decide ((((Bg hb (Ay ha hd) (Ai.mk (Ae.mk ([]:Ah) 0 ([]:Ah) ([]:Ah) ([]:(List Aa))) false)).fTimer).fAt)≤now)))))),.blk hf [rv (.map (some he))] 55,.blk b1 [rI .i64 now] 3]) rfl (Al (AK (AN (Aj ?_))));obtain⟨h2,h4⟩:=Av h1;refine wv (Bi rfl rfl h2) (wm rfl (Al ?_));have h5:=Bk h4 ho;exact Aq (AG (hy,(hd+1,mset hb (Ay ha hd) (Ai.mk ((Bg hb (Ay ha hd) (Ai.mk (Ae.mk ([]:Ah) 0 ([]:Ah) ([]:Ah) ([]:(List Aa))) false)).fTimer) (((Bg hb (Ay ha hd) (Ai.mk (Ae.mk ([]:Ah) 0 ([]:Ah) ([]:Ah) ([]:(List Aa))) false)).fTold)||(decide ((((Bg hb (Ay ha hd) (Ai.mk (Ae.mk ([]:Ah) 0 ([]:Ah) ([]:Ah) ([]:(List Aa))) false)).fTimer).fAt)≤now))))),()) ⟨h5,AaX _⟩ (AQ.c5 rfl rfl rfl rfl rfl AQ.nil) (sS (sC (sC (sC (sC sN))))))
   ·have h8:=AC hl hj;refine B9 (A5 ?_);have h9:=Cj h8 ho hw;exact A5 (Br (AG (hb,()) h9 (AQ.c rfl (AQ.c rfl AQ.nil)) (sS (sC (sC (sC sN))))))
  ·rintro⟨hm,⟨⟩⟩ hk;refine CR (l':=[(0,rv (.pointer (some ⟨hf,0,none⟩))),(3,rv (.pointer (some ⟨b1,0,none⟩)))]) (H':=[.map he (BC A7 hm),.blk hf [rv (.map (some he))] 55,.blk b1 [rI .i64 now] 3]) rfl rfl ?_;replace hk:MA F now hm=some r:=hk;unfold MA at hk;refine Bm (AN (Ak (wm rfl ?_)));obtain⟨hn,hA,hB⟩:=AL hk;refine Gx (Hr:=[.blk b1 [rI .i64 now] 3]) Tryz.call15 (So hf he (Ba.mk hm) hn hA) rfl ((A9 (i:=1) rfl).trans (AaT _ (AaP _))) rfl ?_;rintro _ _ ⟨hC,rfl,rfl⟩;refine wv (r:=rv (.func (.func 34) #[] #[(.pointer (some ⟨b1,0,none⟩))])) (Kw rfl) ?_;obtain⟨hD,hE,hG⟩:=AL hB;refine Gx (Hr:=[.blk hf [rv (.map (some he))] 55,.map he (BC A7 hn.2.fTimers)]) Tryz.call33 (Py F hC b1 hn.1 now hD hE) rfl ((A9 (i:=0) rfl).trans (AaT _ ((A9 (i:=2) rfl).trans (AaT _ (AaP _))))) rfl ?_;rintro _ _ ⟨hH,rfl,rfl⟩;refine wa rfl (Ar (Ax ?_));obtain rfl:=Az hG;exact Aw (BS Tryz.results11 (AJ rfl)) (sC (sS (sC (sC sN)))) ⟨hH,rfl,rfl⟩
theorem OS (F:Nat)(ha:Nat)(hb:Nat)(q:Ba)(t:Ae)(now:Int)(r:Int×Ba)(h:T4 F q t now=some r):Fn Tryz.prog GE 25 [rv (.pointer (some ⟨ha,0,none⟩)),Bz (Ao t),rI .i64 now] [.blk ha [rv (.map (some hb))] 55,.map hb (BC A7 q.fTimers)] (λR H=>R=rI .i64 r.1∧H=[.blk ha [rv (.map (some hb))] 55,.map hb (BC A7 r.2.fTimers)]):=by
 refine enter (n:=56) Tryz.func25 rfl Tryz.ntmps25 rfl (λw Z=>?_);refine Bb (l':=[(0,rv (.pointer (some ⟨ha,0,none⟩))),(1,Bz (Ao t)),(2,rI .i64 now)]) (H':=[.blk ha [rv (.map (some hb))] 55,.map hb (BC A7 q.fTimers)]) rfl rfl ?_;unfold T4 at h;refine Ak (C1 rfl rfl (λb1=>?_));refine wv (r:=rI .i64 0) (Ac rfl) (Ar (Am (Ak (wm rfl ?_))));obtain⟨r2,e4,h3⟩:=AL h;refine Gx (Hr:=[.blk b1 (Ao t) 31]) UH (KK ha hb q r2 e4) rfl ((A9 (i:=1) rfl).trans (AaT _ ((A9 (i:=1) rfl).trans (AaT _ (AaP _))))) rfl ?_;rintro _ _ ⟨rfl,rfl⟩;refine wv (BJ rfl) (Ar (Ap (b:=!r2.1) rfl (λc5=>?_) (λc5=>?_)))
 ·have h6:=AB c5 h3;refine Ak (wv (r:=rI .i64 10) (Ac rfl) (Ar (Ax (Af ?_))));obtain rfl:=Az h6;exact Aw (BS Tp (AJ rfl)) (sC (sC (sS sN))) ⟨rfl,rfl⟩
 ·have h7:=AC c5 h3;refine At (AN (Am (Ak (wv (Bs (i:=2) DY Cc rfl rfl rfl rfl) ?_))));obtain⟨r8,hn,h9⟩:=AL h7;refine Co Tryz.call44 (PX F t r8 hn) rfl (wa rfl (By (wm rfl (wv (CF rfl rfl) (Ar (Ap (b:=!decide (r8=0)) rfl (λhf=>?_) (λhf=>?_)))))))
  ·have ho:=AB hf h9;refine Ak (wm rfl (wa rfl (Ar (Ax (Af ?_)))));obtain rfl:=Az ho;exact Aw (BS Tp (AJ rfl)) (sC (sC (sS sN))) ⟨rfl,rfl⟩
  ·have hp:=AC hf h9;refine At (AN (Am (Ha 12 [0,2,4] [⟨[],rv (.pointer (some ⟨ha,0,none⟩)),none,none,none⟩,⟨[0],rv (.pointer (some ⟨ha,0,none⟩)),none,none,none⟩,⟨[1],rv (.pointer (some ⟨ha,0,none⟩)),none,none,none⟩,⟨[2],rv (.map (some hb)),none,none,none⟩,⟨[],rv (.pointer (some ⟨b1,0,none⟩)),none,none,none⟩,⟨[4],rS t.fID,none,none,none⟩,⟨[3,5],C5 [Bz [rS (((Bg r2.2.fTimers t.fID (Ai.mk (Ae.mk ([]:Ah) 0 ([]:Ah) ([]:Ah) ([]:(List Aa))) false)).fTimer).fID),rI .i64 (((Bg r2.2.fTimers t.fID (Ai.mk (Ae.mk ([]:Ah) 0 ([]:Ah) ([]:Ah) ([]:(List Aa))) false)).fTimer).fAt),rS (((Bg r2.2.fTimers t.fID (Ai.mk (Ae.mk ([]:Ah) 0 ([]:Ah) ([]:Ah) ([]:(List Aa))) false)).fTimer).fTenant),rS (((Bg r2.2.fTimers t.fID (Ai.mk (Ae.mk ([]:Ah) 0 ([]:Ah) ([]:Ah) ([]:(List Aa))) false)).fTimer).fSource),Bo 4 (List.map Ab (((Bg r2.2.fTimers t.fID (Ai.mk (Ae.mk ([]:Ah) 0 ([]:Ah) ([]:Ah) ([]:(List Aa))) false)).fTimer).fBody)),rB ((Bg r2.2.fTimers t.fID (Ai.mk (Ae.mk ([]:Ah) 0 ([]:Ah) ([]:Ah) ([]:(List Aa))) false)).fTold)],rB (GQ r2.2.fTimers t.fID)],none,none,none⟩,⟨[6],C5 [Bz [rS (((Bg r2.2.fTimers t.fID (Ai.mk (Ae.mk ([]:Ah) 0 ([]:Ah) ([]:Ah) ([]:(List Aa))) false)).fTimer).fID),rI .i64 (((Bg r2.2.fTimers t.fID (Ai.mk (Ae.mk ([]:Ah) 0 ([]:Ah) ([]:Ah) ([]:(List Aa))) false)).fTimer).fAt),rS (((Bg r2.2.fTimers t.fID (Ai.mk (Ae.mk ([]:Ah) 0 ([]:Ah) ([]:Ah) ([]:(List Aa))) false)).fTimer).fTenant),rS (((Bg r2.2.fTimers t.fID (Ai.mk (Ae.mk ([]:Ah) 0 ([]:Ah) ([]:Ah) ([]:(List Aa))) false)).fTimer).fSource),Bo 4 (List.map Ab (((Bg r2.2.fTimers t.fID (Ai.mk (Ae.mk ([]:Ah) 0 ([]:Ah) ([]:Ah) ([]:(List Aa))) false)).fTimer).fBody)),rB ((Bg r2.2.fTimers t.fID (Ai.mk (Ae.mk ([]:Ah) 0 ([]:Ah) ([]:Ah) ([]:(List Aa))) false)).fTold)],rB (GQ r2.2.fTimers t.fID)],none,none,none⟩,⟨[7],Bz [rS (((Bg r2.2.fTimers t.fID (Ai.mk (Ae.mk ([]:Ah) 0 ([]:Ah) ([]:Ah) ([]:(List Aa))) false)).fTimer).fID),rI .i64 (((Bg r2.2.fTimers t.fID (Ai.mk (Ae.mk ([]:Ah) 0 ([]:Ah) ([]:Ah) ([]:(List Aa))) false)).fTimer).fAt),rS (((Bg r2.2.fTimers t.fID (Ai.mk (Ae.mk ([]:Ah) 0 ([]:Ah) ([]:Ah) ([]:(List Aa))) false)).fTimer).fTenant),rS (((Bg r2.2.fTimers t.fID (Ai.mk (Ae.mk ([]:Ah) 0 ([]:Ah) ([]:Ah) ([]:(List Aa))) false)).fTimer).fSource),Bo 4 (List.map Ab (((Bg r2.2.fTimers t.fID (Ai.mk (Ae.mk ([]:Ah) 0 ([]:Ah) ([]:Ah) ([]:(List Aa))) false)).fTimer).fBody)),rB ((Bg r2.2.fTimers t.fID (Ai.mk (Ae.mk ([]:Ah) 0 ([]:Ah) ([]:Ah) ([]:(List Aa))) false)).fTold)],none,none,none⟩,⟨[7],rB (GQ r2.2.fTimers t.fID),none,none,none⟩,⟨[],rv undef,some ([rS ([]:Ah),rI .i64 0,rS ([]:Ah),rS ([]:Ah),rv (.slice none 0 0),rB false],66),some (11,[rS (((Bg r2.2.fTimers t.fID (Ai.mk (Ae.mk ([]:Ah) 0 ([]:Ah) ([]:Ah) ([]:(List Aa))) false)).fTimer).fID),rI .i64 (((Bg r2.2.fTimers t.fID (Ai.mk (Ae.mk ([]:Ah) 0 ([]:Ah) ([]:Ah) ([]:(List Aa))) false)).fTimer).fAt),rS (((Bg r2.2.fTimers t.fID (Ai.mk (Ae.mk ([]:Ah) 0 ([]:Ah) ([]:Ah) ([]:(List Aa))) false)).fTimer).fTenant),rS (((Bg r2.2.fTimers t.fID (Ai.mk (Ae.mk ([]:Ah) 0 ([]:Ah) ([]:Ah) ([]:(List Aa))) false)).fTimer).fSource),Bo 4 (List.map Ab (((Bg r2.2.fTimers t.fID (Ai.mk (Ae.mk ([]:Ah) 0 ([]:Ah) ([]:Ah) ([]:(List Aa))) false)).fTimer).fBody)),rB ((Bg r2.2.fTimers t.fID (Ai.mk (Ae.mk ([]:Ah) 0 ([]:Ah) ([]:Ah) ([]:(List Aa))) false)).fTold)]),none⟩,⟨[8],rv undef,none,none,some 10⟩] ?_ (λβ=>?_))))
   ·refine DE (Au rfl) (DE (A6 rfl) (DE (Ad MU rfl MV rfl rfl) (Y2 (A0 (i:=0) MX rfl rfl rfl) (DE (Ad CQ rfl CV rfl rfl) (Y2 (A0 (i:=2) Dn rfl rfl rfl) (Y2 (SF (enc:=A7) (xs:=r2.2.fTimers) (z:=Ai.mk (Ae.mk ([]:Ah) 0 ([]:Ah) ([]:Ah) ([]:(List Aa))) false) (i:=1) NU BP PE EN rfl rfl rfl) (DE (Au rfl) (DE (AF rfl rfl) (DE (AF rfl rfl) (oal (WW (cs:=[rS ([]:Ah),rI .i64 0,rS ([]:Ah),rS ([]:Ah),rv (.slice none 0 0),rB false]) PE rfl) (oas (fun {hj hh}=>Q0 (DR (i:=0) UD rfl rfl rfl (BM.c rfl) rfl rfl (cs':=[rS (((Bg r2.2.fTimers t.fID (Ai.mk (Ae.mk ([]:Ah) 0 ([]:Ah) ([]:Ah) ([]:(List Aa))) false)).fTimer).fID),rI .i64 (((Bg r2.2.fTimers t.fID (Ai.mk (Ae.mk ([]:Ah) 0 ([]:Ah) ([]:Ah) ([]:(List Aa))) false)).fTimer).fAt),rS (((Bg r2.2.fTimers t.fID (Ai.mk (Ae.mk ([]:Ah) 0 ([]:Ah) ([]:Ah) ([]:(List Aa))) false)).fTimer).fTenant),rS (((Bg r2.2.fTimers t.fID (Ai.mk (Ae.mk ([]:Ah) 0 ([]:Ah) ([]:Ah) ([]:(List Aa))) false)).fTimer).fSource),Bo 4 (List.map Ab (((Bg r2.2.fTimers t.fID (Ai.mk (Ae.mk ([]:Ah) 0 ([]:Ah) ([]:Ah) ([]:(List Aa))) false)).fTimer).fBody)),rB ((Bg r2.2.fTimers t.fID (Ai.mk (Ae.mk ([]:Ah) 0 ([]:Ah) ([]:Ah) ([]:(List Aa))) false)).fTold)]) rfl (H':=.blk hj [rS (((Bg r2.2.fTimers t.fID (Ai.mk (Ae.mk ([]:Ah) 0 ([]:Ah) ([]:Ah) ([]:(List Aa))) false)).fTimer).fID),rI .i64 (((Bg r2.2.fTimers t.fID (Ai.mk (Ae.mk ([]:Ah) 0 ([]:Ah) ([]:Ah) ([]:(List Aa))) false)).fTimer).fAt),rS (((Bg r2.2.fTimers t.fID (Ai.mk (Ae.mk ([]:Ah) 0 ([]:Ah) ([]:Ah) ([]:(List Aa))) false)).fTimer).fTenant),rS (((Bg r2.2.fTimers t.fID (Ai.mk (Ae.mk ([]:Ah) 0 ([]:Ah) ([]:Ah) ([]:(List Aa))) false)).fTimer).fSource),Bo 4 (List.map Ab (((Bg r2.2.fTimers t.fID (Ai.mk (Ae.mk ([]:Ah) 0 ([]:Ah) ([]:Ah) ([]:(List Aa))) false)).fTimer).fBody)),rB ((Bg r2.2.fTimers t.fID (Ai.mk (Ae.mk ([]:Ah) 0 ([]:Ah) ([]:Ah) ([]:(List Aa))) false)).fTold)] 66::hh) rfl)) ?_)))))))))));exact XH
   refine HZ (H1:=[.blk ha [rv (.map (some hb))] 55,.map hb (BC A7 r2.2.fTimers),.blk b1 (Ao t) 31,.blk (β 10) [rS (((Bg r2.2.fTimers t.fID (Ai.mk (Ae.mk ([]:Ah) 0 ([]:Ah) ([]:Ah) ([]:(List Aa))) false)).fTimer).fID),rI .i64 (((Bg r2.2.fTimers t.fID (Ai.mk (Ae.mk ([]:Ah) 0 ([]:Ah) ([]:Ah) ([]:(List Aa))) false)).fTimer).fAt),rS (((Bg r2.2.fTimers t.fID (Ai.mk (Ae.mk ([]:Ah) 0 ([]:Ah) ([]:Ah) ([]:(List Aa))) false)).fTimer).fTenant),rS (((Bg r2.2.fTimers t.fID (Ai.mk (Ae.mk ([]:Ah) 0 ([]:Ah) ([]:Ah) ([]:(List Aa))) false)).fTimer).fSource),Bo 4 (List.map Ab (((Bg r2.2.fTimers t.fID (Ai.mk (Ae.mk ([]:Ah) 0 ([]:Ah) ([]:Ah) ([]:(List Aa))) false)).fTimer).fBody)),rB ((Bg r2.2.fTimers t.fID (Ai.mk (Ae.mk ([]:Ah) 0 ([]:Ah) ([]:Ah) ([]:(List Aa))) false)).fTold)] 66]) [19,20,21,22,23,24,25,18,26,27,8,0,2,4] ?_;generalize β 10=hj;refine wa rfl (Ar (Am (AO ?_)));obtain⟨g15,hk⟩:=Av hp;refine AA [(0,rv (.pointer (some ⟨ha,0,none⟩))),(4,rv (.pointer (some ⟨b1,0,none⟩))),(9,rB (GQ r2.2.fTimers t.fID)),(28,rB ((!(ov (Jj now)))||(decide (t.fAt<now))))] [.blk ha [rv (.map (some hb))] 55,.map hb (BC A7 r2.2.fTimers),.blk b1 (Ao t) 31] ?_ ?_
   ·refine Aj (wm rfl (Co Tryz.call58 (Sn now (ov (Jj now)) (Gr g15)) rfl (wv (BJ rfl) (wm rfl (AH (!(ov (Jj now))) (λhd=>?_) (λhd=>?_))))))
    ·refine wf hd (wf hd (wf hd (wf hd (wv (r:=rB true) (As (b:=!(ov (Jj now))) rfl hd rfl) (wa rfl (Al ?_))))));exact BO hd
    ·refine wo hd (wv (Ad CQ rfl Cu rfl rfl) (wo hd (wv (A0 (i:=2) Dd rfl rfl rfl) (wo hd (wm rfl (wo hd (wv (Cp rfl rfl) (D4 rfl hd rfl (wa rfl (Al ?_))))))))));exact BO hd
   refine Ap (b:=((!(ov (Jj now)))||(decide (t.fAt<now)))) rfl (λhg=>?_) (λhg=>?_)
   ·have hq:=AB hg hk;refine Ak (wv (r:=rI .i64 2) (Ac rfl) (Ar (Ax (A3 (Af ?_)))));obtain rfl:=Az hq;exact Aw (BS Tp (AJ rfl)) (sC (sC (sS sN))) ⟨rfl,rfl⟩
   ·have hl:=AC hg hk;refine Ak (wm rfl (wa rfl (Ar (Ap (b:=GQ r2.2.fTimers t.fID) rfl (λc21=>?_) (λc21=>?_)))))
    ·have hr:=AB c21 hl;refine Ak (wv (r:=rI .i64 6) (Ac rfl) (Ar (Ax (A3 (Af ?_)))));obtain rfl:=Az hr;exact Aw (BS Tp (AJ rfl)) (sC (sC (sS sN))) ⟨rfl,rfl⟩
    ·have hm:=AC c21 hl;refine Ak (wm rfl (wv (A6 rfl) (wv (Ad MU rfl MV rfl rfl) (wv (A0 (i:=0) MX rfl rfl rfl) (wv (r:=rI .i64 (r2.2.fTimers.length:Int)) (YY (N:=r2.2.fTimers.length) (i:=1) NU rfl rfl (Js _ _)) (wv (Gs rfl rfl) (wa rfl (Ar (Ap (b:=decide (256≤(r2.2.fTimers.length:Int))) rfl (λhi=>?_) (λhi=>?_))))))))))
     ·have hs:=AB hi hm;refine Ak (wv (r:=rI .i64 3) (Ac rfl) (Ar (Ax (A3 (Af ?_)))));obtain rfl:=Az hs;exact Aw (BS Tp (AJ rfl)) (sC (sC (sS sN))) ⟨rfl,rfl⟩
     ·have ht:=AC hi hm;refine At (AK (AN (Am ?_)));obtain⟨he,hu,hw⟩:=AL ht;refine Ha 9 [0,4] [⟨[],rv (.pointer (some ⟨ha,0,none⟩)),none,none,none⟩,⟨[0],rv (.pointer (some ⟨ha,0,none⟩)),none,none,none⟩,⟨[1],rv (.pointer (some ⟨ha,0,none⟩)),none,none,none⟩,⟨[2],rv (.map (some hb)),none,none,none⟩,⟨[],rv (.pointer (some ⟨b1,0,none⟩)),none,none,none⟩,⟨[4],rS t.fID,none,none,none⟩,⟨[],Bz (Ao t),none,none,none⟩,⟨[6],Bz (Ao he),none,none,none⟩,⟨[7],Bz [rS he.fID,rI .i64 he.fAt,rS he.fTenant,rS he.fSource,Bo 4 (List.map Ab he.fBody),rB false],none,none,none⟩] ?_ (λβ=>?_)
      ·refine DE (Au rfl) (DE (A6 rfl) (DE (Ad MU rfl MV rfl rfl) (Y2 (A0 (i:=0) MX rfl rfl rfl) (DE (Ad CQ rfl CV rfl rfl) (Y2 (A0 (i:=2) Dn rfl rfl rfl) (Y2 (Bs (i:=2) DY Cc rfl rfl rfl rfl) (oac (N1 Tryz.call38 (UW t he hu) rfl) (DE (Q6 rfl) ?_))))))));exact XH
      refine HZ (H1:=[.blk ha [rv (.map (some hb))] 55,.map hb (BC A7 r2.2.fTimers),.blk b1 (Ao t) 31]) [47,48,49,50,51,52,53,54,55,0,4] ?_;refine Sm (enc:=A7) (xs:=r2.2.fTimers) (v:=(Ai.mk he false)) (i:=1) NU BP rfl rfl rfl rfl (H':=[.blk ha [rv (.map (some hb))] 55,.map hb (BC A7 (mset r2.2.fTimers t.fID (Ai.mk he false))),.blk b1 (Ao t) 31]) rfl (By (wv (r:=rI .i64 0) (Ac rfl) (Ar (Ax ?_))));obtain rfl:=Az hw;exact Aw (BS Tp (AJ rfl)) (sC (sC (sS sN))) ⟨rfl,rfl⟩
theorem UZ (hb:Nat)(ha:Nat)(q:Ba)(id:Ah)(r:Int×Ba)(h:X1 q id=some r):Fn Tryz.prog GE 27 [rv (.pointer (some ⟨hb,0,none⟩)),rS id] [.blk hb [rv (.map (some ha))] 55,.map ha (BC A7 q.fTimers)] (λR H=>R=rI .i64 r.1∧H=[.blk hb [rv (.map (some ha))] 55,.map ha (BC A7 r.2.fTimers)]):=by
 refine enter (n:=26) Tryz.func27 rfl Tryz.ntmps27 rfl (λw Z=>?_);refine Bb (l':=[(0,rv (.pointer (some ⟨hb,0,none⟩))),(1,rS id)]) (H':=[.blk hb [rv (.map (some ha))] 55,.map ha (BC A7 q.fTimers)]) rfl rfl ?_;unfold X1 at h;refine Ak (wv (r:=rI .i64 0) (Ac rfl) (Ar (Am (Ak (wm rfl ?_)))));obtain⟨r1,e3,h2⟩:=AL h;refine Gx (Hr:=[]) UH (KK hb ha q r1 e3) rfl (AaP _) rfl ?_;rintro _ _ ⟨rfl,rfl⟩;refine wv (BJ rfl) (Ar (Ap (b:=!r1.1) rfl (λc4=>?_) (λc4=>?_)))
 ·have h5:=AB c4 h2;refine Ak (wv (r:=rI .i64 10) (Ac rfl) (Ar (Ax (Af ?_))));obtain rfl:=Az h5;exact Aw (BS Tryz.results27 (AJ rfl)) (sC (sC sN)) ⟨rfl,rfl⟩
 ·have h6:=AC c4 h2;refine At (AN (Am (Ak (wm rfl (wv (A6 rfl) (wv (Ad MU rfl MV rfl rfl) (wv (A0 (i:=0) MX rfl rfl rfl) (wm rfl (wv (r:=C5 [Bz [rS (((Bg r1.2.fTimers id (Ai.mk (Ae.mk ([]:Ah) 0 ([]:Ah) ([]:Ah) ([]:(List Aa))) false)).fTimer).fID),rI .i64 (((Bg r1.2.fTimers id (Ai.mk (Ae.mk ([]:Ah) 0 ([]:Ah) ([]:Ah) ([]:(List Aa))) false)).fTimer).fAt),rS (((Bg r1.2.fTimers id (Ai.mk (Ae.mk ([]:Ah) 0 ([]:Ah) ([]:Ah) ([]:(List Aa))) false)).fTimer).fTenant),rS (((Bg r1.2.fTimers id (Ai.mk (Ae.mk ([]:Ah) 0 ([]:Ah) ([]:Ah) ([]:(List Aa))) false)).fTimer).fSource),Bo 4 (List.map Ab (((Bg r1.2.fTimers id (Ai.mk (Ae.mk ([]:Ah) 0 ([]:Ah) ([]:Ah) ([]:(List Aa))) false)).fTimer).fBody)),rB ((Bg r1.2.fTimers id (Ai.mk (Ae.mk ([]:Ah) 0 ([]:Ah) ([]:Ah) ([]:(List Aa))) false)).fTold)],rB (GQ r1.2.fTimers id)]) (SF (enc:=A7) (xs:=r1.2.fTimers) (z:=Ai.mk (Ae.mk ([]:Ah) 0 ([]:Ah) ([]:Ah) ([]:(List Aa))) false) (i:=1) NU BP PE EN rfl rfl rfl) (wm rfl (wv (AF rfl rfl) (wv (AF rfl rfl) (Cf (cs:=[rS ([]:Ah),rI .i64 0,rS ([]:Ah),rS ([]:Ah),rv (.slice none 0 0),rB false]) PE rfl rfl (λb7=>?_))))))))))))));refine Bq (i:=0) UD rfl rfl rfl (BM.c rfl) rfl rfl (cs':=[rS (((Bg r1.2.fTimers id (Ai.mk (Ae.mk ([]:Ah) 0 ([]:Ah) ([]:Ah) ([]:(List Aa))) false)).fTimer).fID),rI .i64 (((Bg r1.2.fTimers id (Ai.mk (Ae.mk ([]:Ah) 0 ([]:Ah) ([]:Ah) ([]:(List Aa))) false)).fTimer).fAt),rS (((Bg r1.2.fTimers id (Ai.mk (Ae.mk ([]:Ah) 0 ([]:Ah) ([]:Ah) ([]:(List Aa))) false)).fTimer).fTenant),rS (((Bg r1.2.fTimers id (Ai.mk (Ae.mk ([]:Ah) 0 ([]:Ah) ([]:Ah) ([]:(List Aa))) false)).fTimer).fSource),Bo 4 (List.map Ab (((Bg r1.2.fTimers id (Ai.mk (Ae.mk ([]:Ah) 0 ([]:Ah) ([]:Ah) ([]:(List Aa))) false)).fTimer).fBody)),rB ((Bg r1.2.fTimers id (Ai.mk (Ae.mk ([]:Ah) 0 ([]:Ah) ([]:Ah) ([]:(List Aa))) false)).fTold)]) rfl (H':=[.blk b7 [rS (((Bg r1.2.fTimers id (Ai.mk (Ae.mk ([]:Ah) 0 ([]:Ah) ([]:Ah) ([]:(List Aa))) false)).fTimer).fID),rI .i64 (((Bg r1.2.fTimers id (Ai.mk (Ae.mk ([]:Ah) 0 ([]:Ah) ([]:Ah) ([]:(List Aa))) false)).fTimer).fAt),rS (((Bg r1.2.fTimers id (Ai.mk (Ae.mk ([]:Ah) 0 ([]:Ah) ([]:Ah) ([]:(List Aa))) false)).fTimer).fTenant),rS (((Bg r1.2.fTimers id (Ai.mk (Ae.mk ([]:Ah) 0 ([]:Ah) ([]:Ah) ([]:(List Aa))) false)).fTimer).fSource),Bo 4 (List.map Ab (((Bg r1.2.fTimers id (Ai.mk (Ae.mk ([]:Ah) 0 ([]:Ah) ([]:Ah) ([]:(List Aa))) false)).fTimer).fBody)),rB ((Bg r1.2.fTimers id (Ai.mk (Ae.mk ([]:Ah) 0 ([]:Ah) ([]:Ah) ([]:(List Aa))) false)).fTold)] 66,.blk hb [rv (.map (some ha))] 55,.map ha (BC A7 r1.2.fTimers)]) rfl (wa rfl (By (wm rfl (wv (BJ rfl) (Ar (Ap (b:=!(GQ r1.2.fTimers id)) rfl (λc8=>?_) (λc8=>?_)))))))
  ·have h9:=AB c8 h6;refine Ak (wv (r:=rI .i64 5) (Ac rfl) (Ar (Ax (Af ?_))));obtain rfl:=Az h9;exact Aw (BS Tryz.results27 (AJ rfl)) (sS (sC (sC sN))) ⟨rfl,rfl⟩
  ·have hd:=AC c8 h6;refine At (AN (Ak (wm rfl (wv (A6 rfl) (wv (Ad MU rfl MV rfl rfl) (wv (A0 (i:=1) MX rfl rfl rfl) (wm rfl (Xt (enc:=A7) (xs:=r1.2.fTimers) (i:=2) NU BP rfl rfl rfl (H':=[.blk b7 [rS (((Bg r1.2.fTimers id (Ai.mk (Ae.mk ([]:Ah) 0 ([]:Ah) ([]:Ah) ([]:(List Aa))) false)).fTimer).fID),rI .i64 (((Bg r1.2.fTimers id (Ai.mk (Ae.mk ([]:Ah) 0 ([]:Ah) ([]:Ah) ([]:(List Aa))) false)).fTimer).fAt),rS (((Bg r1.2.fTimers id (Ai.mk (Ae.mk ([]:Ah) 0 ([]:Ah) ([]:Ah) ([]:(List Aa))) false)).fTimer).fTenant),rS (((Bg r1.2.fTimers id (Ai.mk (Ae.mk ([]:Ah) 0 ([]:Ah) ([]:Ah) ([]:(List Aa))) false)).fTimer).fSource),Bo 4 (List.map Ab (((Bg r1.2.fTimers id (Ai.mk (Ae.mk ([]:Ah) 0 ([]:Ah) ([]:Ah) ([]:(List Aa))) false)).fTimer).fBody)),rB ((Bg r1.2.fTimers id (Ai.mk (Ae.mk ([]:Ah) 0 ([]:Ah) ([]:Ah) ([]:(List Aa))) false)).fTold)] 66,.blk hb [rv (.map (some ha))] 55,.map ha (BC A7 (mdel r1.2.fTimers id))]) rfl (By (wv (r:=rI .i64 0) (Ac rfl) (Ar (Ax ?_))))))))))));obtain rfl:=Az hd;exact Aw (BS Tryz.results27 (AJ rfl)) (sS (sC (sC sN))) ⟨rfl,rfl⟩
theorem T5 (hd:Nat)(hb:Nat)(q:Ba)(id:Ah)(r:Int×Ba)(h:OT q id=some r):Fn Tryz.prog GE 28 [rv (.pointer (some ⟨hd,0,none⟩)),rS id] [.blk hd [rv (.map (some hb))] 55,.map hb (BC A7 q.fTimers)] (λR H=>R=rI .i64 r.1∧H=[.blk hd [rv (.map (some hb))] 55,.map hb (BC A7 r.2.fTimers)]):=by
 refine enter (n:=19) Tryz.func28 rfl Tryz.ntmps28 rfl (λw Z=>?_);refine Bb (l':=[(0,rv (.pointer (some ⟨hd,0,none⟩))),(1,rS id)]) (H':=[.blk hd [rv (.map (some hb))] 55,.map hb (BC A7 q.fTimers)]) rfl rfl ?_;unfold OT at h;refine Ak (wv (r:=rI .i64 0) (Ac rfl) (Ar (Am (Dz (S:=(Bool×(List (Ah×Ai)))×(Unit)) (λσ=>HE id σ.1.1 σ.1.2=some r) (λσ=>[(0,rv (.pointer (some ⟨hd,0,none⟩))),(1,rS id),(4,rI .i64 0),(15,rB σ.1.1)]) (λσ=>[.blk hd [rv (.map (some hb))] 55,.map hb (BC A7 σ.1.2)]) ?_ ?_))))
 ·refine Aj (wm rfl ?_);obtain⟨r9,hh,hg⟩:=AL h;refine Gx (Hr:=[]) UH (KK hd hb q r9 hh) rfl (AaP _) rfl ?_;rintro _ _ ⟨rfl,rfl⟩;refine wm rfl (AH (r9.1) (λha=>?_) (λha=>?_))
  ·have hi:=AB ha hg;exact wo ha (wm rfl (wo ha (wv (A6 rfl) (wo ha (wv (Ad MU rfl MV rfl rfl) (wo ha (wv (A0 (i:=0) MX rfl rfl rfl) (wo ha (wm rfl (wo ha (wv (r:=Bz [rS (((Bg r9.2.fTimers id (Ai.mk (Ae.mk ([]:Ah) 0 ([]:Ah) ([]:Ah) ([]:(List Aa))) false)).fTimer).fID),rI .i64 (((Bg r9.2.fTimers id (Ai.mk (Ae.mk ([]:Ah) 0 ([]:Ah) ([]:Ah) ([]:(List Aa))) false)).fTimer).fAt),rS (((Bg r9.2.fTimers id (Ai.mk (Ae.mk ([]:Ah) 0 ([]:Ah) ([]:Ah) ([]:(List Aa))) false)).fTimer).fTenant),rS (((Bg r9.2.fTimers id (Ai.mk (Ae.mk ([]:Ah) 0 ([]:Ah) ([]:Ah) ([]:(List Aa))) false)).fTimer).fSource),Bo 4 (List.map Ab (((Bg r9.2.fTimers id (Ai.mk (Ae.mk ([]:Ah) 0 ([]:Ah) ([]:Ah) ([]:(List Aa))) false)).fTimer).fBody)),rB ((Bg r9.2.fTimers id (Ai.mk (Ae.mk ([]:Ah) 0 ([]:Ah) ([]:Ah) ([]:(List Aa))) false)).fTold)]) (VN (enc:=A7) (xs:=r9.2.fTimers) (z:=Ai.mk (Ae.mk ([]:Ah) 0 ([]:Ah) ([]:Ah) ([]:(List Aa))) false) (i:=1) NU BP PE EN rfl rfl rfl) (wo ha (wv (r:=rB ((Bg r9.2.fTimers id (Ai.mk (Ae.mk ([]:Ah) 0 ([]:Ah) ([]:Ah) ([]:(List Aa))) false)).fTold)) (XL Tm rfl Sk rfl rfl) (Gk rfl ha rfl (Al (Aq (AG (((Bg r9.2.fTimers id (Ai.mk (Ae.mk ([]:Ah) 0 ([]:Ah) ([]:Ah) ([]:(List Aa))) false)).fTold,r9.2.fTimers),()) hi (AQ.c rfl (AQ.c rfl (AQ.c rfl (AQ.c rfl AQ.nil)))) (sC (sC sN)))))))))))))))))))
  ·have hj:=AC ha hg;exact wf ha (wf ha (wf ha (wf ha (wf ha (wf ha (wf ha (wv (r:=rB false) (A4 (b:=r9.1) rfl ha rfl) (Al (Aq (AG ((false,r9.2.fTimers),()) hj (AQ.c rfl (AQ.c rfl (AQ.c rfl (AQ.c rfl AQ.nil)))) (sC (sC sN))))))))))))
 ·rintro⟨⟨x7,x8⟩,⟨⟩⟩ he;refine Bb (l':=[(0,rv (.pointer (some ⟨hd,0,none⟩))),(1,rS id),(4,rI .i64 0),(15,rB x7)]) (H':=[.blk hd [rv (.map (some hb))] 55,.map hb (BC A7 x8)]) rfl rfl ?_;replace he:HE id x7 x8=some r:=he;unfold HE at he;refine Ap (b:=x7) rfl (λhf=>?_) (λhf=>?_)
  ·have hk:=AB hf he;refine Ak (wv (r:=rI .i64 10) (Ac rfl) (Ar (Ax (Af ?_))));obtain rfl:=Az hk;exact Aw (BS Tryz.results28 (AJ rfl)) (sC (sC sN)) ⟨rfl,rfl⟩
  ·have hl:=AC hf he;refine At (AN (Ak (wm rfl (wm rfl ?_))));obtain⟨hm,hn,ho⟩:=AL hl;refine Gx (Hr:=[]) Tryz.call27 (UZ hd hb (Ba.mk x8) id hm hn) rfl (AaP _) rfl ?_;rintro _ _ ⟨rfl,rfl⟩;refine wa rfl (Ar (Ax ?_));obtain rfl:=Az ho;exact Aw (BS Tryz.results28 (AJ rfl)) (sC (sC sN)) ⟨rfl,rfl⟩
theorem Xy (hb:Nat)(ha:Nat)(q:Ba)(r:Int×Bool×Ba)(h:UX q=some r):Fn Tryz.prog GE 17 [rv (.pointer (some ⟨hb,0,none⟩))] [.blk hb [rv (.map (some ha))] 55,.map ha (BC A7 q.fTimers)] (λR H=>R=C5 [rI .i64 r.1,rB r.2.1]∧H=[.blk hb [rv (.map (some ha))] 55,.map ha (BC A7 r.2.2.fTimers)]):=by
 refine enter (n:=14) Tryz.func17 rfl Tryz.ntmps17 rfl (λw Z=>?_);refine Bb (l':=[(0,rv (.pointer (some ⟨hb,0,none⟩)))]) (H':=[.blk hb [rv (.map (some ha))] 55,.map ha (BC A7 q.fTimers)]) rfl rfl ?_;unfold UX at h;refine Ak (wv (r:=rI .i64 0) (Ac rfl) (wv (r:=rB false) (Ac rfl) (By (wm rfl ?_))));obtain⟨r1,e3,h2⟩:=AL h;refine Gx (Hr:=[]) Tryz.call15 (So hb ha q r1 e3) rfl (AaP _) rfl ?_;rintro _ _ ⟨v4,rfl,rfl⟩;refine wa rfl (Ar (Am (Ak (wm rfl (wv (C6 (ys:=r1.1) (enc:=Ao) (i:=0) GO rfl rfl) (wv (B3 rfl rfl) (Ar (Ap (b:=decide ((r1.1.length:Int)=0)) rfl (λc5=>?_) (λc5=>?_)))))))))
 ·have h6:=AB c5 h2;refine Ak (wv (r:=rI .i64 0) (Ac rfl) (wv (r:=rB false) (Ac rfl) (Ar (Ax (Af ?_)))));obtain rfl:=Az h6;exact Aw (Dg Tryz.results17 (AJ rfl) (AJ rfl)) (sS (sC (sC sN))) ⟨rfl,rfl⟩
 ·have h7:=AC c5 h2;refine At (AN (Ak (wm rfl ?_)));obtain⟨g8,h9⟩:=Av h7;refine wv (r:=rv (E9 5 v4 (Int.toNat 0) 0)) (G8 (i:=0) GO Cc rfl rfl rfl (BE g8)) (wv (r:=rv (E9 5 v4 (Int.toNat 0) 1)) (Eo (k:=0) CQ rfl Cu rfl (BE g8) rfl rfl rfl) (wv (r:=rI .i64 ((Ay r1.1 0).fAt)) (GP (enc:=Ao) (ys:=r1.1) (i:=0) (j:=0) Dd rfl rfl g8 rfl) (wa rfl (wv (r:=rB true) (Ac rfl) (Ar (Ax ?_))))));obtain rfl:=Az h9;exact Aw (Dg Tryz.results17 (AJ rfl) (AJ rfl)) (sS (sC (sC sN))) ⟨rfl,rfl⟩
end Go.Proofs.YtkoiaconljdbeaaGreatDoor.Q
namespace Go.Proofs.YtkoiaconljdbeaaGreatDoor
open Go
set_option linter.unusedVariables false
structure Kh where
 fTimer:Ae
 fReturned:Bool
 deriving DecidableEq,Inhabited
structure UC where
 fMade:Bool
 fTimers:(List Kh)
 deriving DecidableEq,Inhabited
def L7 (F:Nat)(t:Ae):Option (Int):=
 Bx (Wq F t.fID) λr2=>Bj (!r2) (some 4) (Bj (((decide (t.fAt<0))||(decide (1073741824<t.fAt)))) (some 2) (AX ((Es F t.fTenant).isSome)<|AX (imp (!(!(ov (Es F t.fTenant)))) ((Es F t.fSource).isSome))<|Bj (((!(ov (Es F t.fTenant)))||(!(ov (Es F t.fSource))))) (some 4) (Bx (Kt F t.fBody) λha=>some ha)))
def E2 (a:Ae)(b:Ae)(ha:Int):Option (Stp (Int) (Out (Bool) (Unit))):=
 Bj (decide (ha<(a.fBody.length:Int))) (AX (CH ha (a.fBody.length:Int))<|AX (CH ha (b.fBody.length:Int))<|Bj (!(decide (((Ay a.fBody ha).fKind)=((Ay b.fBody ha).fKind))&&decide (((Ay a.fBody ha).fInt)=((Ay b.fBody ha).fInt))&&decide (((Ay a.fBody ha).fStr)=((Ay b.fBody ha).fStr))&&decide (((Ay a.fBody ha).fN)=((Ay b.fBody ha).fN)))) (some (.out (.ret false))) (AX (Bw .i64 (ha+1))<|some (.next (ha+1)))) (some (.out (.go ())))
def JF :Option (Bool):=
 some true
def Nu (F:Nat)(a:Ae)(b:Ae):Option (Bool):=
 Bj (((!decide (a.fID=b.fID))||((!decide (a.fAt=b.fAt))||((!decide (a.fTenant=b.fTenant))||((!decide (a.fSource=b.fSource))||(!decide ((a.fBody.length:Int)=(b.fBody.length:Int)))))))) (some false) (Bx (Cg (λσ=>E2 a b σ) F 0) (BL λν=>JF ))
def E1 (F:Nat)(a:(List Ae))(b:(List Ae))(ha:Int):Option (Stp (Int) (Out (Bool) (Unit))):=
 Bj (decide (ha<(a.length:Int))) (AX (CH ha (a.length:Int))<|AX (CH ha (b.length:Int))<|Bx (Nu F (Ay a ha) (Ay b ha)) λhb=>Bj (!hb) (some (.out (.ret false))) (AX (Bw .i64 (ha+1))<|some (.next (ha+1)))) (some (.out (.go ())))
def JE :Option (Bool):=
 some true
def Eg (F:Nat)(a:(List Ae))(b:(List Ae)):Option (Bool):=
 Bj (!decide ((a.length:Int)=(b.length:Int))) (some false) (Bx (Cg (λσ=>E1 F a b σ) F 0) (BL λν=>JE ))
def E0 (t:Ae)(ha:Int):Option (Stp (Int) (Out (Bool) (Unit))):=
 Bj (decide (ha<(t.fBody.length:Int))) (AX (CH ha (t.fBody.length:Int))<|Bj (decide (5000<(((Ay t.fBody ha).fStr).length:Int))) (some (.out (.ret false))) (AX (Bw .i64 (ha+1))<|some (.next (ha+1)))) (some (.out (.go ())))
def JD :Option (Bool):=
 some true
def HH (F:Nat)(t:Ae):Option (Bool):=
 Bj (((decide (300<(t.fID.length:Int)))||((decide (300<(t.fTenant.length:Int)))||((decide (300<(t.fSource.length:Int)))||(decide (300<(t.fBody.length:Int))))))) (some false) (Bx (Cg (λσ=>E0 t σ) F 0) (BL λν=>JD ))
end Go.Proofs.YtkoiaconljdbeaaGreatDoor
namespace Go.Proofs.YtkoiaconljdbeaaGreatDoor.Q
open Go Go.RowKit
set_option linter.unusedVariables false
set_option linter.unusedSimpArgs false
set_option maxRecDepth 100000
set_option maxHeartbeats 4000000
theorem WX {a0 b0:Int}{a1 b1:Int}{a2 b2:Ah}{a3 b3:Int}(w:World):(Op.equalIn 10000 78 (.agg #[.int .i64 a0,.int .i64 a1,.string (B a2),.int .i64 a3]) (.agg #[.int .i64 b0,.int .i64 b1,.string (B b2),.int .i64 b3])).run Tryz.prog w = .ok (decide (a0=b0)&&decide (a1=b1)&&decide (a2=b2)&&decide (a3=b3)) w:=by
  have hS:Tryz.prog.underlying 78=some (.struct (Tryz.prog.fieldsOf 78)):=by kernel_rfl
  have hp:Tryz.prog.stoodInHeld 78=false:=by kernel_rfl
  have u3:=P9;have ia3:=Dd;have so3:=Cu;have u9:=BP;have ia9:=Dn;have so9:=CV;have ha:=Tryz.underlying76;have hb:=Ex;have hd:=DX;rw[show(10000:Nat)=9999+1 from rfl,run_equalIn_agg w 9999 78 _ _ hS hp];simp only[Program.fieldsOf,B5]
  go_simp
  simp only[Ew]
  by_cases h0:a0=b0<;>by_cases h1:a1=b1<;>by_cases h2:a2=b2<;>by_cases h3:a3=b3<;>simp[h0,h1,h2,h3]
theorem Q8 {n:Nat}{c:Cx}{l:Fr}{H:List Ent}{d:Option Nat}{ty rty:TypeId}{pos:String}{af:Array Edge}{g:Option (Nat×Bool)}{x y:Operand}{a0 b0:Int}{a1 b1:Int}{a2 b2:Ah}{a3 b3:Int}(hx:ev l x=some (Bz [rI .i64 a0,rI .i64 a1,rS a2,rI .i64 a3]))(hy:ev l y=some (Bz [rI .i64 b0,rI .i64 b1,rS b2,rI .i64 b3])):Bv Tryz.prog n c l H { dst:=d,op:=.binOp .neq 78 x y rty,type:=ty,pos:=pos,after:=af,guard:=g } (rB (!(decide (a0=b0)&&decide (a1=b1)&&decide (a2=b2)&&decide (a3=b3)))):=λa w Z ha hw=>by
  obtain⟨us,e1,q1⟩:=ha.ev hx;obtain⟨vs,e2,q2⟩:=ha.ev hy;have k1:=Bf.eq_rv (us:=[.int .i64 a0,.int .i64 a1,.string (B a2),.int .i64 a3]) q1;have k2:=Bf.eq_rv (us:=[.int .i64 b0,.int .i64 b1,.string (B b2),.int .i64 b3]) q2;subst k1;subst k2;have hm:Tryz.prog.eqGuardType Tryz.prog.depth 78=false:=by kernel_rfl
  have hb:=WX (a0:=a0) (a1:=a1) (a2:=a2) (a3:=a3) (b0:=b0) (b1:=b1) (b2:=b2) (b3:=b3) w;refine⟨.bool (!(decide (a0=b0)&&decide (a1=b1)&&decide (a2=b2)&&decide (a3=b3))),rfl,?_⟩;have hg:=run_eqGuard_agg (P:=Tryz.prog) w .neq 78 x y #[.int .i64 a0,.int .i64 a1,.string (B a2),.int .i64 a3] #[.int .i64 b0,.int .i64 b1,.string (B b2),.int .i64 b3] hm;simp only[execOp,e1,e2,Sem.run_bind,hg,Result.andThen_ok,run_neq_struct,hb,Sem.run_pure]
theorem Qc (F:Nat)(t:Ae)(r:Int)(h:L7 F t=some r):Fn Tryz.prog GE 48 [Bz (Ao t)] [] (λR H=>R=rI .i64 r∧H=[]):=by
 refine enter (n:=28) Tryz.func48 rfl Tryz.ntmps48 rfl (λw Z=>?_);refine Bb (l':=[(0,Bz (Ao t))]) (H':=[]) rfl rfl ?_;unfold L7 at h;refine Ak (C1 rfl rfl (λb1=>?_));refine wv (r:=rI .i64 0) (Ac rfl) (Ar (Am (Ak (wv (Ad CQ rfl CV rfl rfl) (wv (A0 (i:=0) Dn rfl rfl rfl) ?_)))));obtain⟨r2,e4,h3⟩:=AL h;refine Co Tryz.call76 (Zj F t.fID r2 e4) rfl (wv (BJ rfl) (Ar (Ap (b:=!r2) rfl (λc5=>?_) (λc5=>?_))))
 ·have h6:=AB c5 h3;refine Ak (wv (r:=rI .i64 4) (Ac rfl) (Ar (Ax (Af ?_))));obtain rfl:=Az h6;exact Aw (BS Xg (AJ rfl)) (sS sN) ⟨rfl,rfl⟩
 ·have h7:=AC c5 h3;refine At (AN (Am (AA [(1,rv (.pointer (some ⟨b1,0,none⟩))),(14,rB ((decide (t.fAt<0))||(decide (1073741824<t.fAt))))] [.blk b1 (Ao t) 31] ?_ ?_)))
  ·refine Aj (wv (Ad CQ rfl Cu rfl rfl) (wv (A0 (i:=0) Dd rfl rfl rfl) (wv (Cp rfl rfl) (wm rfl (AH (decide (t.fAt<0)) (λc8=>?_) (λc8=>?_))))))
   ·refine wf c8 (wf c8 (wf c8 (wv (r:=rB true) (As (b:=decide (t.fAt<0)) rfl c8 rfl) (Al ?_))));exact BO c8
   ·refine wo c8 (wv (Ad CQ rfl Cu rfl rfl) (wo c8 (wv (A0 (i:=0) Dd rfl rfl rfl) (wo c8 (wv (Cl rfl rfl) (D4 rfl c8 rfl (Al ?_)))))));exact BO c8
  refine Ap (b:=((decide (t.fAt<0))||(decide (1073741824<t.fAt)))) rfl (λc9=>?_) (λc9=>?_)
  ·have he:=AB c9 h7;refine Ak (wv (r:=rI .i64 2) (Ac rfl) (Ar (Ax (Af ?_))));obtain rfl:=Az he;exact Aw (BS Xg (AJ rfl)) (sS sN) ⟨rfl,rfl⟩
  ·have hf:=AC c9 h7;refine At (AN (Am ?_));obtain⟨hg,hh⟩:=Av hf;obtain⟨hi,hd⟩:=Av hh;refine AA [(1,rv (.pointer (some ⟨b1,0,none⟩))),(24,rB ((!(ov (Es F t.fTenant)))||(!(ov (Es F t.fSource)))))] [.blk b1 (Ao t) 31] ?_ ?_
   ·refine Aj (wv (Ad CQ rfl CV rfl rfl) (wv (A0 (i:=0) Dn rfl rfl rfl) (Co Tryz.call77 (QQ F t.fTenant (ov (Es F t.fTenant)) (Gr hg)) rfl (wv (BJ rfl) (wm rfl (AH (!(ov (Es F t.fTenant))) (λha=>?_) (λha=>?_)))))))
    ·refine wf ha (wf ha (wf ha (wf ha (wv (r:=rB true) (As (b:=!(ov (Es F t.fTenant))) rfl ha rfl) (Al ?_)))));exact BO ha
    ·refine wo ha (wv (Ad CQ rfl CV rfl rfl) (wo ha (wv (A0 (i:=0) Dn rfl rfl rfl) (wo ha (Co Tryz.call77 (QQ F t.fSource (ov (Es F t.fSource)) (Gr (C4 hi ha))) rfl (wo ha (wv (BJ rfl) (D4 rfl ha rfl (Al ?_)))))))));exact BO ha
   refine Ap (b:=((!(ov (Es F t.fTenant)))||(!(ov (Es F t.fSource))))) rfl (λhb=>?_) (λhb=>?_)
   ·have hj:=AB hb hd;refine Ak (wv (r:=rI .i64 4) (Ac rfl) (Ar (Ax (Af ?_))));obtain rfl:=Az hj;exact Aw (BS Xg (AJ rfl)) (sS sN) ⟨rfl,rfl⟩
   ·have hk:=AC hb hd;refine At (AN (Ak (wv (Ad CQ rfl Ds rfl rfl) (wv (A0 (i:=0) GK rfl rfl rfl) ?_))));obtain⟨hl,hm,hn⟩:=AL hk;refine Co Tryz.call78 (Nx F t.fBody hl hm) rfl (wa rfl (Ar (Ax ?_)));obtain rfl:=Az hn;exact Aw (BS Xg (AJ rfl)) (sS sN) ⟨rfl,rfl⟩
theorem Vr (F:Nat)(a:Ae)(b:Ae)(r:Bool)(h:Nu F a b=some r):Fn Tryz.prog GE 29 [Bz (Ao a),Bz (Ao b)] [] (λR H=>R=rB r∧H=[]):=by
 refine enter (n:=59) Tryz.func29 rfl Tryz.ntmps29 rfl (λw Z=>?_);refine Bb (l':=[(0,Bz (Ao a)),(1,Bz (Ao b))]) (H':=[]) rfl rfl ?_;unfold Nu at h;refine Ak (C1 rfl rfl (λb1=>?_));refine C1 rfl rfl (λb2=>?_);refine wv (r:=rB false) (Ac rfl) (Ar (Am (AA [(2,rv (.pointer (some ⟨b1,0,none⟩))),(3,rv (.pointer (some ⟨b2,0,none⟩))),(40,rB ((!decide (a.fID=b.fID))||((!decide (a.fAt=b.fAt))||((!decide (a.fTenant=b.fTenant))||((!decide (a.fSource=b.fSource))||(!decide ((a.fBody.length:Int)=(b.fBody.length:Int))))))))] [.blk b2 (Ao b) 31,.blk b1 (Ao a) 31] ?_ ?_)))
 ·refine Aj (wv (Ad CQ rfl CV rfl rfl) (wv (A0 (i:=1) Dn rfl rfl rfl) (wv (Ad CQ rfl CV rfl rfl) (wv (A0 (i:=0) Dn rfl rfl rfl) (wv (IW rfl rfl) (wm rfl (AH (!decide (a.fID=b.fID)) (λc3=>?_) (λc3=>?_))))))))
  ·refine wf c3 (wf c3 (wf c3 (wf c3 (wf c3 (wv (r:=rB true) (As (b:=!decide (a.fID=b.fID)) rfl c3 rfl) (wm rfl (An (b:=true) rfl rfl rfl rfl (An (b:=true) rfl rfl rfl rfl (An (b:=true) rfl rfl rfl rfl (An (b:=true) rfl rfl rfl rfl (An (b:=true) rfl rfl rfl rfl (wv (r:=rB true) (As (b:=true) rfl rfl rfl) (wm rfl (An (b:=true) rfl rfl rfl rfl (An (b:=true) rfl rfl rfl rfl (An (b:=true) rfl rfl rfl rfl (An (b:=true) rfl rfl rfl rfl (An (b:=true) rfl rfl rfl rfl (wv (r:=rB true) (As (b:=true) rfl rfl rfl) (wm rfl (An (b:=true) rfl rfl rfl rfl (An (b:=true) rfl rfl rfl rfl (An (b:=true) rfl rfl rfl rfl ?_)))))))))))))))))))))));refine An (b:=true) rfl rfl rfl rfl (An (b:=true) rfl rfl rfl rfl (An (b:=true) rfl rfl rfl rfl (An (b:=true) rfl rfl rfl rfl (wv (r:=rB true) (As (b:=true) rfl rfl rfl) (Al ?_)))));exact BO c3
  ·refine wo c3 (wv (Ad CQ rfl Cu rfl rfl) (wo c3 (wv (A0 (i:=1) Dd rfl rfl rfl) (wo c3 (wv (Ad CQ rfl Cu rfl rfl) (wo c3 (wv (A0 (i:=0) Dd rfl rfl rfl) (wo c3 (wv (CF rfl rfl) (D4 rfl c3 rfl (wm rfl (AH (!decide (a.fAt=b.fAt)) (λc4=>?_) (λc4=>?_)))))))))))))
   ·refine wf c4 (wf c4 (wf c4 (wf c4 (wf c4 (wv (r:=rB true) (As (b:=!decide (a.fAt=b.fAt)) rfl c4 rfl) (wm rfl (An (b:=true) rfl rfl rfl rfl (An (b:=true) rfl rfl rfl rfl (An (b:=true) rfl rfl rfl rfl (An (b:=true) rfl rfl rfl rfl (An (b:=true) rfl rfl rfl rfl (wv (r:=rB true) (As (b:=true) rfl rfl rfl) (wm rfl (An (b:=true) rfl rfl rfl rfl (An (b:=true) rfl rfl rfl rfl (An (b:=true) rfl rfl rfl rfl (An (b:=true) rfl rfl rfl rfl (An (b:=true) rfl rfl rfl rfl (An (b:=true) rfl rfl rfl rfl (An (b:=true) rfl rfl rfl rfl (wv (r:=rB true) (As (b:=true) rfl rfl rfl) (Al ?_))))))))))))))))))))));exact BO (And.intro c3 c4)
   ·refine wo c4 (wv (Ad CQ rfl CV rfl rfl) (wo c4 (wv (A0 (i:=1) Dn rfl rfl rfl) (wo c4 (wv (Ad CQ rfl CV rfl rfl) (wo c4 (wv (A0 (i:=0) Dn rfl rfl rfl) (wo c4 (wv (IW rfl rfl) (D4 rfl c4 rfl (wm rfl (AH (!decide (a.fTenant=b.fTenant)) (λc5=>?_) (λc5=>?_)))))))))))))
    ·refine wf c5 (wf c5 (wf c5 (wf c5 (wf c5 (wv (r:=rB true) (As (b:=!decide (a.fTenant=b.fTenant)) rfl c5 rfl) (wm rfl (An (b:=true) rfl rfl rfl rfl (An (b:=true) rfl rfl rfl rfl (An (b:=true) rfl rfl rfl rfl (An (b:=true) rfl rfl rfl rfl (An (b:=true) rfl rfl rfl rfl (An (b:=true) rfl rfl rfl rfl (An (b:=true) rfl rfl rfl rfl (wv (r:=rB true) (As (b:=true) rfl rfl rfl) (Al ?_)))))))))))))));exact BO (And.intro c3 (And.intro c4 c5))
    ·refine wo c5 (wv (Ad CQ rfl CV rfl rfl) (wo c5 (wv (A0 (i:=1) Dn rfl rfl rfl) (wo c5 (wv (Ad CQ rfl CV rfl rfl) (wo c5 (wv (A0 (i:=0) Dn rfl rfl rfl) (wo c5 (wv (IW rfl rfl) (D4 rfl c5 rfl (wm rfl (AH (!decide (a.fSource=b.fSource)) (λc6=>?_) (λc6=>?_)))))))))))))
     ·refine wf c6 (wf c6 (wf c6 (wf c6 (wf c6 (wf c6 (wf c6 (wv (r:=rB true) (As (b:=!decide (a.fSource=b.fSource)) rfl c6 rfl) (Al ?_))))))));exact BO (And.intro c3 (And.intro c4 (And.intro c5 c6)))
     ·refine wo c6 (wv (Ad CQ rfl Ds rfl rfl) (wo c6 (wv (A0 (i:=1) GK rfl rfl rfl) (wo c6 (wv (BT (ys:=a.fBody) (enc:=Ab) BN rfl) (wo c6 (wv (Ad CQ rfl Ds rfl rfl) (wo c6 (wv (A0 (i:=0) GK rfl rfl rfl) (wo c6 (wv (BT (ys:=b.fBody) (enc:=Ab) BN rfl) (wo c6 (wv (CF rfl rfl) (D4 rfl c6 rfl (Al ?_)))))))))))))));exact BO (And.intro c3 (And.intro c4 (And.intro c5 c6)))
 refine Ap (b:=((!decide (a.fID=b.fID))||((!decide (a.fAt=b.fAt))||((!decide (a.fTenant=b.fTenant))||((!decide (a.fSource=b.fSource))||(!decide ((a.fBody.length:Int)=(b.fBody.length:Int)))))))) rfl (λc7=>?_) (λc7=>?_)
 ·have h8:=AB c7 h;refine Ak (wv (r:=rB false) (Ac rfl) (Ar (Ax (Af ?_))));obtain rfl:=Az h8;exact Aw (BS Tryz.results29 (AJ rfl)) (sS (sS sN)) ⟨rfl,rfl⟩
 ·have h9:=AC c7 h;refine At (AN (Am (Ak (wv (Ad CQ rfl Ds rfl rfl) (wv (A0 (i:=1) GK rfl rfl rfl) (wv (BT (ys:=a.fBody) (enc:=Ab) BN rfl) (wv (r:=rI .i64 0) (Au rfl) (Ar (AO ?_)))))))));obtain⟨hj,hk,hh⟩:=AL h9;refine BA (S:=Nat×(Int)×(Unit)) (V:=(Unit)×(Unit)) 0 (λσ=>Cg (λσ=>E2 a b σ) σ.1 σ.2.1=some hj) (λσ=>[(2,rv (.pointer (some ⟨b1,0,none⟩))),(3,rv (.pointer (some ⟨b2,0,none⟩))),(43,rI .i64 (a.fBody.length:Int)),(44,rI .i64 σ.2.1)]) (λσ=>[.blk b2 (Ao b) 31,.blk b1 (Ao a) 31]) (λσ=>σ.1) (F,0,()) hk (AQ.c rfl (AQ.c rfl (AQ.c rfl (AQ.c rfl AQ.nil)))) (sC (sC sN)) (λσ=>JF =some r) (λσ=>[]) (λσ=>[]) ?_ ?_
  ·rintro⟨h1,ha,⟨⟩⟩ hl;refine Bb (l':=[(2,rv (.pointer (some ⟨b1,0,none⟩))),(3,rv (.pointer (some ⟨b2,0,none⟩))),(43,rI .i64 (a.fBody.length:Int)),(44,rI .i64 ha)]) (H':=[.blk b2 (Ao b) 31,.blk b1 (Ao a) 31]) rfl rfl ?_;obtain⟨hm,rfl,hn,hb,he⟩:=CM hl;replace hb:E2 a b ha=some hn:=hb;unfold E2 at hb;refine Ak (wv (Cp rfl rfl) (Ar (Am (Ap (b:=decide (ha<(a.fBody.length:Int))) rfl (λhf=>?_) (λhf=>?_)))))
   ·have ho:=AB hf hb;refine At (AN (Am (AO (Ak (wm rfl (wa rfl (Ar (Am ?_))))))));obtain⟨hp,hq⟩:=Av ho;obtain⟨hr,hi⟩:=Av hq;refine DI [2,3,5,43,44] [⟨[],rv (.pointer (some ⟨b1,4,none⟩)),0⟩,⟨[0],Bo 4 (List.map Ab a.fBody),1⟩,⟨[],rI .i64 ha,0⟩,⟨[1,2],PA (Ab (Ay a.fBody ha)),0⟩,⟨[3],Bz (Ab (Ay a.fBody ha)),0⟩,⟨[],rv (.pointer (some ⟨b2,4,none⟩)),0⟩,⟨[5],Bo 4 (List.map Ab b.fBody),1⟩,⟨[],rI .i64 ha,0⟩,⟨[6,7],PA (Ab (Ay b.fBody ha)),0⟩,⟨[8],Bz (Ab (Ay b.fBody ha)),0⟩,⟨[4,9],rB (!(decide (((Ay a.fBody ha).fKind)=((Ay b.fBody ha).fKind))&&decide (((Ay a.fBody ha).fInt)=((Ay b.fBody ha).fInt))&&decide (((Ay a.fBody ha).fStr)=((Ay b.fBody ha).fStr))&&decide (((Ay a.fBody ha).fN)=((Ay b.fBody ha).fN)))),0⟩] [47,48,49,50,51,52,53,54,55,56,57,2,3,43,44] ?_ ?_
    ·refine oq (Ad CQ rfl Ds rfl rfl) (of (A0 (i:=1) GK rfl rfl rfl) (oq (Au rfl) (oq (BY (enc:=Ab) (ys:=a.fBody) BN Cb rfl rfl hp) (oq (DQ L2 Cb rfl rfl rfl) (oq (Ad CQ rfl Ds rfl rfl) (of (A0 (i:=0) GK rfl rfl rfl) (oq (Au rfl) (oq (BY (enc:=Ab) (ys:=b.fBody) BN Cb rfl rfl hr) (oq (DQ L2 Cb rfl rfl rfl) (oq (Q8 rfl rfl) ?_))))))))));exact CL
    refine AN (Ap (b:=!(decide (((Ay a.fBody ha).fKind)=((Ay b.fBody ha).fKind))&&decide (((Ay a.fBody ha).fInt)=((Ay b.fBody ha).fInt))&&decide (((Ay a.fBody ha).fStr)=((Ay b.fBody ha).fStr))&&decide (((Ay a.fBody ha).fN)=((Ay b.fBody ha).fN)))) rfl (λhg=>?_) (λhg=>?_))
    ·have hs:=AB hg hi;refine Ak (wv (r:=rB false) (Ac rfl) (Ar (Ax (A3 (Af (Af (Bc ?_)))))));have ht:=B1 hs he hh;refine A3 (Af ?_);obtain rfl:=Az ht;exact Aw (BS Tryz.results29 (AJ rfl)) (sS (sS sN)) ⟨rfl,rfl⟩
    ·have hu:=AC hg hi;refine At (AK (AN (Aj ?_)));obtain⟨hw,hx⟩:=Av hu;refine wv (Bi rfl rfl hw) (wm rfl (Al ?_));have hy:=Bk hx he;exact Aq (AG (hm,ha+1,()) ⟨hy,AaX _⟩ (AQ.c rfl (AQ.c rfl (AQ.c rfl (AQ.c rfl AQ.nil)))) (sC (sC sN)))
   ·have hz:=AC hf hb;refine B9 (A5 ?_);have h0:=Cj hz he hh;exact A5 (Br (AG ((),()) h0 AQ.nil (sS (sS sN))))
  ·rintro⟨⟨⟩,⟨⟩⟩ hd;refine CR (l':=[]) (H':=[]) rfl rfl ?_;replace hd:JF =some r:=hd;unfold JF at hd;refine Bm (AN (Ak (wv (r:=rB true) (Ac rfl) (Ar (Ax ?_)))));obtain rfl:=Az hd;exact Aw (BS Tryz.results29 (AJ rfl)) sN ⟨rfl,rfl⟩
theorem Qf (F:Nat)(a:(List Ae))(b:(List Ae))(r:Bool)(h:Eg F a b=some r):Fn Tryz.prog GE 10 [Bo 5 (List.map Ao a),Bo 5 (List.map Ao b)] [] (λR H=>R=rB r∧H=[]):=by
 refine enter (n:=27) Tryz.func10 rfl Tryz.ntmps10 rfl (λw Z=>?_);refine Bb (l':=[(0,Bo 5 (List.map Ao a)),(1,Bo 5 (List.map Ao b))]) (H':=[]) rfl rfl ?_;unfold Eg at h;refine Ak (wv (r:=rB false) (Ac rfl) (Ar (Am (Ak (wm rfl (wv (BT (ys:=a) (enc:=Ao) GO rfl) (wm rfl (wv (BT (ys:=b) (enc:=Ao) GO rfl) (wv (CF rfl rfl) (Ar (Ap (b:=!decide ((a.length:Int)=(b.length:Int))) rfl (λc1=>?_) (λc1=>?_))))))))))))
 ·have h2:=AB c1 h;refine Ak (wv (r:=rB false) (Ac rfl) (Ar (Ax (Af ?_))));obtain rfl:=Az h2;exact Aw (BS Tryz.results10 (AJ rfl)) sN ⟨rfl,rfl⟩
 ·have h3:=AC c1 h;refine At (AN (Am (Ak (wm rfl (wv (BT (ys:=a) (enc:=Ao) GO rfl) (wv (r:=rI .i64 0) (Au rfl) (Ar (AO ?_))))))));obtain⟨hk,hl,hh⟩:=AL h3;refine BA (S:=Nat×(Int)×(Unit)) (V:=(Unit)×(Unit)) 0 (λσ=>Cg (λσ=>E1 F a b σ) σ.1 σ.2.1=some hk) (λσ=>[(0,Bo 5 (List.map Ao a)),(1,Bo 5 (List.map Ao b)),(12,rI .i64 (a.length:Int)),(13,rI .i64 σ.2.1)]) (λσ=>[]) (λσ=>σ.1) (F,0,()) hl (AQ.c rfl (AQ.c rfl (AQ.c rfl (AQ.c rfl AQ.nil)))) sN (λσ=>JE =some r) (λσ=>[]) (λσ=>[]) ?_ ?_
  ·rintro⟨h6,ha,⟨⟩⟩ hm;refine Bb (l':=[(0,Bo 5 (List.map Ao a)),(1,Bo 5 (List.map Ao b)),(12,rI .i64 (a.length:Int)),(13,rI .i64 ha)]) (H':=[]) rfl rfl ?_;obtain⟨hn,rfl,ho,hb,he⟩:=CM hm;replace hb:E1 F a b ha=some ho:=hb;unfold E1 at hb;refine Ak (wv (Cp rfl rfl) (Ar (Am (Ap (b:=decide (ha<(a.length:Int))) rfl (λhf=>?_) (λhf=>?_)))))
   ·have hp:=AB hf hb;refine At (AN (Am (AO (Ak (wm rfl (wa rfl (Ar (Am ?_))))))));obtain⟨hq,hr⟩:=Av hp;obtain⟨hs,ht⟩:=Av hr;refine Ha 8 [0,1,5,12,13] [⟨[],Bo 5 (List.map Ao a),none,none,none⟩,⟨[],rI .i64 ha,none,none,none⟩,⟨[0,1],PA (Ao (Ay a ha)),none,none,none⟩,⟨[2],Bz (Ao (Ay a ha)),none,none,none⟩,⟨[],Bo 5 (List.map Ao b),none,none,none⟩,⟨[],rI .i64 ha,none,none,none⟩,⟨[4,5],PA (Ao (Ay b ha)),none,none,none⟩,⟨[6],Bz (Ao (Ay b ha)),none,none,none⟩] ?_ (λβ=>?_)
    ·refine DE (Au rfl) (DE (Au rfl) (DE (BY (enc:=Ao) (ys:=a) GO Cc rfl rfl hq) (DE (DQ DY Cc rfl rfl rfl) (DE (Au rfl) (DE (Au rfl) (DE (BY (enc:=Ao) (ys:=b) GO Cc rfl rfl hs) (DE (DQ DY Cc rfl rfl rfl) ?_)))))));exact XH
    refine HZ (H1:=[]) [16,17,18,19,20,21,22,23,0,1,5,12,13] ?_;obtain⟨hi,hu,hj⟩:=AL ht;refine Co Tryz.call29 (Vr F (Ay a ha) (Ay b ha) hi hu) rfl (wv (BJ rfl) (Ar (Ap (b:=!hi) rfl (λhg=>?_) (λhg=>?_))))
    ·have hw:=AB hg hj;refine Ak (wv (r:=rB false) (Ac rfl) (Ar (Ax (A3 (Af (Af (Bc ?_)))))));have hx:=B1 hw he hh;refine A3 (Af ?_);obtain rfl:=Az hx;exact Aw (BS Tryz.results10 (AJ rfl)) sN ⟨rfl,rfl⟩
    ·have hy:=AC hg hj;refine At (AK (AN (Aj ?_)));obtain⟨hz,h0⟩:=Av hy;refine wv (Bi rfl rfl hz) (wm rfl (Al ?_));have h1:=Bk h0 he;exact Aq (AG (hn,ha+1,()) ⟨h1,AaX _⟩ (AQ.c rfl (AQ.c rfl (AQ.c rfl (AQ.c rfl AQ.nil)))) sN)
   ·have h4:=AC hf hb;refine B9 (A5 ?_);have h5:=Cj h4 he hh;exact A5 (Br (AG ((),()) h5 AQ.nil sN))
  ·rintro⟨⟨⟩,⟨⟩⟩ hd;refine CR (l':=[]) (H':=[]) rfl rfl ?_;replace hd:JE =some r:=hd;unfold JE at hd;refine Bm (AN (Ak (wv (r:=rB true) (Ac rfl) (Ar (Ax ?_)))));obtain rfl:=Az hd;exact Aw (BS Tryz.results10 (AJ rfl)) sN ⟨rfl,rfl⟩
theorem Vp (F:Nat)(t:Ae)(r:Bool)(h:HH F t=some r):Fn Tryz.prog GE 19 [Bz (Ao t)] [] (λR H=>R=rB r∧H=[]):=by
 refine enter (n:=41) Tryz.func19 rfl Tryz.ntmps19 rfl (λw Z=>?_);refine Bb (l':=[(0,Bz (Ao t))]) (H':=[]) rfl rfl ?_;unfold HH at h;refine Ak (C1 rfl rfl (λb1=>?_));refine wv (r:=rB false) (Ac rfl) (Ar (Am (AA [(1,rv (.pointer (some ⟨b1,0,none⟩))),(25,rB ((decide (300<(t.fID.length:Int)))||((decide (300<(t.fTenant.length:Int)))||((decide (300<(t.fSource.length:Int)))||(decide (300<(t.fBody.length:Int)))))))] [.blk b1 (Ao t) 31] ?_ ?_)))
 ·refine Aj (wv (Ad CQ rfl CV rfl rfl) (wv (A0 (i:=0) Dn rfl rfl rfl) (wv (Bd BP rfl) (wv (Cl rfl rfl) (wm rfl (AH (decide (300<(t.fID.length:Int))) (λc2=>?_) (λc2=>?_)))))))
  ·refine wf c2 (wf c2 (wf c2 (wf c2 (wv (r:=rB true) (As (b:=decide (300<(t.fID.length:Int))) rfl c2 rfl) (wm rfl (An (b:=true) rfl rfl rfl rfl (An (b:=true) rfl rfl rfl rfl (An (b:=true) rfl rfl rfl rfl (An (b:=true) rfl rfl rfl rfl (wv (r:=rB true) (As (b:=true) rfl rfl rfl) (wm rfl (An (b:=true) rfl rfl rfl rfl (An (b:=true) rfl rfl rfl rfl (An (b:=true) rfl rfl rfl rfl (An (b:=true) rfl rfl rfl rfl (wv (r:=rB true) (As (b:=true) rfl rfl rfl) (Al ?_)))))))))))))))));exact BO c2
  ·refine wo c2 (wv (Ad CQ rfl CV rfl rfl) (wo c2 (wv (A0 (i:=0) Dn rfl rfl rfl) (wo c2 (wv (Bd BP rfl) (wo c2 (wv (Cl rfl rfl) (D4 rfl c2 rfl (wm rfl (AH (decide (300<(t.fTenant.length:Int))) (λc3=>?_) (λc3=>?_)))))))))))
   ·refine wf c3 (wf c3 (wf c3 (wf c3 (wv (r:=rB true) (As (b:=decide (300<(t.fTenant.length:Int))) rfl c3 rfl) (wm rfl (An (b:=true) rfl rfl rfl rfl (An (b:=true) rfl rfl rfl rfl (An (b:=true) rfl rfl rfl rfl (An (b:=true) rfl rfl rfl rfl (wv (r:=rB true) (As (b:=true) rfl rfl rfl) (Al ?_)))))))))));exact BO (And.intro c2 c3)
   ·refine wo c3 (wv (Ad CQ rfl CV rfl rfl) (wo c3 (wv (A0 (i:=0) Dn rfl rfl rfl) (wo c3 (wv (Bd BP rfl) (wo c3 (wv (Cl rfl rfl) (D4 rfl c3 rfl (wm rfl (AH (decide (300<(t.fSource.length:Int))) (λc4=>?_) (λc4=>?_)))))))))))
    ·refine wf c4 (wf c4 (wf c4 (wf c4 (wv (r:=rB true) (As (b:=decide (300<(t.fSource.length:Int))) rfl c4 rfl) (Al ?_)))));exact BO (And.intro c2 (And.intro c3 c4))
    ·refine wo c4 (wv (Ad CQ rfl Ds rfl rfl) (wo c4 (wv (A0 (i:=0) GK rfl rfl rfl) (wo c4 (wv (BT (ys:=t.fBody) (enc:=Ab) BN rfl) (wo c4 (wv (Cl rfl rfl) (D4 rfl c4 rfl (Al ?_)))))))));exact BO (And.intro c2 (And.intro c3 c4))
 refine Ap (b:=((decide (300<(t.fID.length:Int)))||((decide (300<(t.fTenant.length:Int)))||((decide (300<(t.fSource.length:Int)))||(decide (300<(t.fBody.length:Int))))))) rfl (λc5=>?_) (λc5=>?_)
 ·have h6:=AB c5 h;refine Ak (wv (r:=rB false) (Ac rfl) (Ar (Ax (Af ?_))));obtain rfl:=Az h6;exact Aw (BS Tryz.results19 (AJ rfl)) (sS sN) ⟨rfl,rfl⟩
 ·have h7:=AC c5 h;refine At (AN (Am (Ak (wv (Ad CQ rfl Ds rfl rfl) (wv (A0 (i:=0) GK rfl rfl rfl) (wv (BT (ys:=t.fBody) (enc:=Ab) BN rfl) (wv (r:=rI .i64 0) (Au rfl) (Ar (AO ?_)))))))));obtain⟨hi,hj,hg⟩:=AL h7;refine BA (S:=Nat×(Int)×(Unit)) (V:=(Unit)×(Unit)) 0 (λσ=>Cg (λσ=>E0 t σ) σ.1 σ.2.1=some hi) (λσ=>[(1,rv (.pointer (some ⟨b1,0,none⟩))),(28,rI .i64 (t.fBody.length:Int)),(29,rI .i64 σ.2.1)]) (λσ=>[.blk b1 (Ao t) 31]) (λσ=>σ.1) (F,0,()) hj (AQ.c rfl (AQ.c rfl (AQ.c rfl AQ.nil))) (sC sN) (λσ=>JD =some r) (λσ=>[]) (λσ=>[]) ?_ ?_
  ·rintro⟨hy,ha,⟨⟩⟩ hk;refine Bb (l':=[(1,rv (.pointer (some ⟨b1,0,none⟩))),(28,rI .i64 (t.fBody.length:Int)),(29,rI .i64 ha)]) (H':=[.blk b1 (Ao t) 31]) rfl rfl ?_;obtain⟨hl,rfl,hm,hb,he⟩:=CM hk;replace hb:E0 t ha=some hm:=hb;unfold E0 at hb;refine Ak (wv (Cp rfl rfl) (Ar (Am (Ap (b:=decide (ha<(t.fBody.length:Int))) rfl (λhf=>?_) (λhf=>?_)))))
   ·have hn:=AB hf hb;refine At (AN (Am (AO (Ak (wm rfl (wa rfl (By (wv (Ad CQ rfl Ds rfl rfl) (wv (A0 (i:=0) GK rfl rfl rfl) (wm rfl ?_))))))))));obtain⟨ho,hh⟩:=Av hn;refine wv (BY (enc:=Ab) (ys:=t.fBody) BN Cb rfl rfl ho) (wv (Ce B5 rfl CV rfl rfl) (wv (BQ Dn rfl rfl) (wv (Bd BP rfl) (wv (Cl rfl rfl) (Ar (Ap (b:=decide (5000<(((Ay t.fBody ha).fStr).length:Int))) rfl (λc51=>?_) (λc51=>?_)))))))
    ·have hp:=AB c51 hh;refine Ak (wv (r:=rB false) (Ac rfl) (Ar (Ax (A3 (Af (Af (Bc ?_)))))));have hq:=B1 hp he hg;refine A3 (Af ?_);obtain rfl:=Az hq;exact Aw (BS Tryz.results19 (AJ rfl)) (sS sN) ⟨rfl,rfl⟩
    ·have hr:=AC c51 hh;refine At (AK (AN (Aj ?_)));obtain⟨hs,ht⟩:=Av hr;refine wv (Bi rfl rfl hs) (wm rfl (Al ?_));have hu:=Bk ht he;exact Aq (AG (hl,ha+1,()) ⟨hu,AaX _⟩ (AQ.c rfl (AQ.c rfl (AQ.c rfl AQ.nil))) (sC sN))
   ·have hw:=AC hf hb;refine B9 (A5 ?_);have hx:=Cj hw he hg;exact A5 (Br (AG ((),()) hx AQ.nil (sS sN)))
  ·rintro⟨⟨⟩,⟨⟩⟩ hd;refine CR (l':=[]) (H':=[]) rfl rfl ?_;replace hd:JD =some r:=hd;unfold JD at hd;refine Bm (AN (Ak (wv (r:=rB true) (Ac rfl) (Ar (Ax ?_)))));obtain rfl:=Az hd;exact Aw (BS Tryz.results19 (AJ rfl)) sN ⟨rfl,rfl⟩
end Go.Proofs.YtkoiaconljdbeaaGreatDoor.Q
namespace Go.Proofs.YtkoiaconljdbeaaGreatDoor
open Go
set_option linter.unusedVariables false
structure Yu where
 fKind:Int
 fNow:Int
 fTimer:Ae
 deriving DecidableEq,Inhabited
def Z4 (id:Ah)(n:Int):Option (Ae):=
 some (Ae.mk id n ([116]:Ah) ([115]:Ah) ([(Aa.mk 1 0 ([]:Ah) 0)]:List Aa))
def Ig (F:Nat) :Option (Bool):=
 Bx (YO) λr1=>Bx (Z4 ([98]:Ah) 5) λr6=>Bx (T4 F r1 r6 0) λr9=>AX (!(!decide (r9.1=0)))<|Bx (Z4 ([97]:Ah) 5) λhi=>Bx (T4 F r9.2 hi 0) λhe=>AX (!(!decide (he.1=0)))<|Bx (Z4 ([99]:Ah) 3) λhj=>Bx (T4 F he.2 hj 0) λhf=>AX (!(!decide (hf.1=0)))<|Bx (Xz F hf.2 4) λha=>Bx (Xz F ha.2 5) λhb=>Bx (UX hb.2) λhd=>AX (!(!decide ((ha.1.length:Int)=1)))<|AX (CH 0 (ha.1.length:Int))<|AX (!(!decide (((Ay ha.1 0).fID)=([99]:Ah))))<|AX (!(!decide ((hb.1.length:Int)=3)))<|AX (CH 1 (hb.1.length:Int))<|AX (!(!decide (((Ay hb.1 1).fID)=([97]:Ah))))<|AX (!(!decide (hd.1=3)))<|AX (!(!hd.2.1))<|Bx (X1 hd.2.2 ([99]:Ah)) λhg=>AX (decide (hg.1=0))<|Bx (OT hg.2 ([97]:Ah)) λhh=>AX (decide (hh.1=10))<|Bx (Z4 ([100]:Ah) 3) λhk=>Bx (T4 F hh.2 hk 4) λhl=>some (decide (hl.1=2))
end Go.Proofs.YtkoiaconljdbeaaGreatDoor
namespace Go.Proofs.YtkoiaconljdbeaaGreatDoor.Q
open Go Go.RowKit
set_option linter.unusedVariables false
set_option linter.unusedSimpArgs false
set_option maxRecDepth 100000
set_option maxHeartbeats 4000000
theorem Tf (parts:List (Nat×Value)):Tryz.prog.built 31 parts=Instr.fill (λi=>(#[(0,1),(1,1),(2,1),(3,1),(4,1)]:Array (Nat×Nat))[i]?) #[(.string ⟨#[]⟩),(.int .i64 0),(.string ⟨#[]⟩),(.string ⟨#[]⟩),((.slice none 0 0))] parts:=by kernel_rfl
theorem E8 {n:Nat}{c:Cx}{l:Fr}{H:List Ent}{d:Option Nat}{ty:TypeId}{pos:String}{af:Array Edge}{g:Option (Nat×Bool)}{x0:Operand}{r0:Rp}(h0:ev l x0=some r0)(u0:r0.one=true){x1:Operand}{r1:Rp}(h1:ev l x1=some r1)(u1:r1.one=true){x2:Operand}{r2:Rp}(h2:ev l x2=some r2)(u2:r2.one=true){x3:Operand}{r3:Rp}(h3:ev l x3=some r3)(u3:r3.one=true){x4:Operand}{r4:Rp}(h4:ev l x4=some r4)(u4:r4.one=true):Bv Tryz.prog n c l H { dst:=d,op:=.build 31 #[(0,x0),(1,x1),(2,x2),(3,x3),(4,x4)],type:=ty,pos:=pos,after:=af,guard:=g } (Bz [r0,r1,r2,r3,r4]):=λa w Z ha _=>by
  have p0:=ha.ev h0;have c0:=BZ (r0.hone u0 Z _ p0);have p1:=ha.ev h1;have c1:=BZ (r1.hone u1 Z _ p1);have p2:=ha.ev h2;have c2:=BZ (r2.hone u2 Z _ p2);have p3:=ha.ev h3;have c3:=BZ (r3.hone u3 Z _ p3);have p4:=ha.ev h4;have c4:=BZ (r4.hone u4 Z _ p4);have hb:Tryz.prog.built 31 [(0,a.eval x0),(1,a.eval x1),(2,a.eval x2),(3,a.eval x3),(4,a.eval x4)]=some #[a.eval x0,a.eval x1,a.eval x2,a.eval x3,a.eval x4]:=by
    rw[Tf];generalize a.eval x0=v0 at *;generalize a.eval x1=v1 at *;generalize a.eval x2=v2 at *;generalize a.eval x3=v3 at *;generalize a.eval x4=v4 at *;simp[Instr.fill,c0,c1,c2,c3,c4]
  refine⟨.agg #[a.eval x0,a.eval x1,a.eval x2,a.eval x3,a.eval x4],⟨[a.eval x0,a.eval x1,a.eval x2,a.eval x3,a.eval x4],rfl,p0,p1,p2,p3,p4,trivial⟩,?_⟩;have:=run_build w 31 #[(0,a.eval x0),(1,a.eval x1),(2,a.eval x2),(3,a.eval x3),(4,a.eval x4)] _ (by simpa using hb);simp[execOp,this]
theorem SO (id:Ah)(n:Int)(r:Ae)(h:Z4 id n=some r):Fn Tryz.prog GE 26 [rS id,rI .i64 n] [] (λR H=>R=Bz (Ao r)∧H=[]):=by
 refine enter (n:=10) Tryz.func26 rfl Tryz.ntmps26 rfl (λw Z=>?_);refine Bb (l':=[(0,rS id),(1,rI .i64 n)]) (H':=[]) rfl rfl ?_;unfold Z4 at h;refine Ak (Cf (cs:=[rS ([]:Ah),rI .i64 0,rS ([]:Ah),rS ([]:Ah),rv (.slice none 0 0)]) JX rfl rfl (λb1=>?_));refine By (wm rfl (wm rfl (wv (r:=Bz [rI .i64 1,rI .i64 0,rS ([]:Ah),rI .i64 0]) (DF rfl rfl) (AY (ys:=([(Aa.mk 1 0 ([]:Ah) 0)]:List Aa)) (enc:=Ab) (css:=[[rI .i64 1,rI .i64 0,rS ([]:Ah),rI .i64 0]]) (xs:=[.tmp 7]) BN Cb EA rfl rfl rfl ⟨Gw.agg ⟨Up.refl _,Up.refl _,Up.refl _,Up.refl _,trivial⟩,trivial⟩ rfl AU rfl rfl rfl (λb2=>?_)))));refine wv (r:=Bz [rS id,rI .i64 n,rS ([116]:Ah),rS ([115]:Ah),rv (.slice (some ⟨b2,0,none⟩) 1 1)]) (E8 rfl rfl rfl rfl rfl rfl rfl rfl rfl rfl) (Bq (i:=1) Cc rfl rfl rfl ⟨(Ck rfl),(Ck rfl),(Ck rfl),(Ck rfl),(E6 (i:=0) rfl),trivial⟩ rfl rfl (cs':=[rS id,rI .i64 n,rS ([116]:Ah),rS ([115]:Ah),rv (.slice (some ⟨b2,0,none⟩) 1 1)]) rfl (H':=[.row (.slice (some ⟨b2,0,none⟩) 1 1) 78 4 (List.map Ab ([(Aa.mk 1 0 ([]:Ah) 0)]:List Aa)),.blk b1 [rS id,rI .i64 n,rS ([116]:Ah),rS ([115]:Ah),rv (.slice (some ⟨b2,0,none⟩) 1 1)] 31]) rfl (Ar (Ax (WK.freeze (i:=0) rfl (WK.upBlk (i:=1) (cs':=[rS id,rI .i64 n,rS ([116]:Ah),rS ([115]:Ah),Bo 4 (List.map Ab ([(Aa.mk 1 0 ([]:Ah) 0)]:List Aa))]) rfl ⟨Up.refl _,Up.refl _,Up.refl _,Up.refl _,Up.fact (i:=0) rfl,trivial⟩ ?_)))));obtain rfl:=Az h;exact Aw (BS Tryz.results26 (GV (i:=1) DY Cc rfl rfl rfl)) (sS (sS sN)) ⟨rfl,rfl⟩
theorem Jv (F:Nat)  (r:Bool)(h:Ig F=some r):Fn Tryz.prog GE 7 [] [] (λR H=>R=rB r∧H=[]):=by
 refine enter (n:=80) Tryz.func7 rfl Tryz.ntmps7 rfl (λw Z=>?_);refine Bb (l':=[]) (H':=[]) rfl rfl ?_;unfold Ig at h;refine Ak (wv (r:=rB false) (Ac rfl) (By ?_));obtain⟨r1,e3,h2⟩:=AL h;refine Gx (Hr:=[]) Tryz.call8 (YN r1 e3) rfl (AaP _) rfl ?_;rintro _ _ ⟨b4,b5,rfl,rfl⟩;refine wa rfl (Ar (Am (Ak (wm rfl (wv (r:=rB false) (VM ⟨_,Tryz.underlying25⟩ rfl) (wm rfl (AW (b:=false) rfl rfl rfl (wm rfl (AW (b:=false) rfl rfl rfl ?_)))))))));obtain⟨r6,e8,h7⟩:=AL h2;refine Co Tryz.call26 (SO ([98]:Ah) 5 r6 e8) rfl (AW (b:=false) rfl rfl rfl ?_);obtain⟨r9,hx,hy⟩:=AL h7;refine Gx (Hr:=[]) Tryz.call25 (OS F b4 b5 r1 r6 0 r9 hx) rfl (AaP _) rfl ?_;rintro _ _ ⟨rfl,rfl⟩;refine AW (b:=false) rfl rfl rfl (wv (CF rfl rfl) (wv (r:=rB (!decide (r9.1=0))) (A4 (b:=false) rfl rfl rfl) (wm rfl ?_)));obtain⟨hh,hz⟩:=Av hy;refine AW (b:=!decide (r9.1=0)) rfl rfl (Bool.not_eq_eq_eq_not.1 hh) (wm rfl (AW (b:=!decide (r9.1=0)) rfl rfl (Bool.not_eq_eq_eq_not.1 hh) ?_));obtain⟨hr,h0,h1⟩:=AL hz;refine Co Tryz.call26 (SO ([97]:Ah) 5 hr h0) rfl (AW (b:=!decide (r9.1=0)) rfl rfl (Bool.not_eq_eq_eq_not.1 hh) ?_);obtain⟨hd,h3,h4⟩:=AL h1;refine Gx (Hr:=[]) Tryz.call25 (OS F b4 b5 r9.2 hr 0 hd h3) rfl (AaP _) rfl ?_;rintro _ _ ⟨rfl,rfl⟩;refine AW (b:=!decide (r9.1=0)) rfl rfl (Bool.not_eq_eq_eq_not.1 hh) (wv (CF rfl rfl) (wv (r:=rB (!decide (hd.1=0))) (A4 (b:=!decide (r9.1=0)) rfl (Bool.not_eq_eq_eq_not.1 hh) rfl) (wm rfl ?_)));obtain⟨hi,h5⟩:=Av h4;refine AW (b:=!decide (hd.1=0)) rfl rfl (Bool.not_eq_eq_eq_not.1 hi) (wm rfl (AW (b:=!decide (hd.1=0)) rfl rfl (Bool.not_eq_eq_eq_not.1 hi) ?_));obtain⟨hs,h6,h8⟩:=AL h5;refine Co Tryz.call26 (SO ([99]:Ah) 3 hs h6) rfl (AW (b:=!decide (hd.1=0)) rfl rfl (Bool.not_eq_eq_eq_not.1 hi) ?_);obtain⟨hk,h9,hA⟩:=AL h8;refine Gx (Hr:=[]) Tryz.call25 (OS F b4 b5 hd.2 hs 0 hk h9) rfl (AaP _) rfl ?_;rintro _ _ ⟨rfl,rfl⟩;refine AW (b:=!decide (hd.1=0)) rfl rfl (Bool.not_eq_eq_eq_not.1 hi) (wv (CF rfl rfl) (wv (r:=rB (!decide (hk.1=0))) (A4 (b:=!decide (hd.1=0)) rfl (Bool.not_eq_eq_eq_not.1 hi) rfl) (Ar ?_)));obtain⟨hB,hC⟩:=Av hA;refine Ey (b:=!decide (hk.1=0)) rfl (Bool.not_eq_eq_eq_not.1 hB) (At (AN (Ak (wm rfl ?_))));obtain⟨ha,hD,hE⟩:=AL hC;refine Gx (Hr:=[]) Tryz.call11 (UY F b4 b5 hk.2 4 ha hD) rfl (AaP _) rfl ?_;rintro _ _ ⟨v33,rfl,rfl⟩;refine wa rfl (By (wm rfl ?_));obtain⟨hb,hG,hH⟩:=AL hE;refine Gx (Hr:=[.row v33 31 5 (List.map Ao ha.1)]) Tryz.call11 (UY F b4 b5 ha.2 5 hb hG) rfl ((A9 (i:=1) rfl).trans (AaT _ ((A9 (i:=1) rfl).trans (AaT _ (AaP _))))) rfl ?_;rintro _ _ ⟨v37,rfl,rfl⟩;refine wa rfl (By (wm rfl ?_));obtain⟨he,hI,hJ⟩:=AL hH;refine Gx (Hr:=[.row v37 31 5 (List.map Ao hb.1),.row v33 31 5 (List.map Ao ha.1)]) Tryz.call17 (Xy b4 b5 hb.2 he hI) rfl ((A9 (i:=1) rfl).trans (AaT _ ((A9 (i:=1) rfl).trans (AaT _ (AaP _))))) rfl ?_;rintro _ _ ⟨rfl,rfl⟩;refine wm rfl (wv (AF rfl rfl) (wv (AF rfl rfl) (wa rfl (wa rfl (Ar (Am (Ak (wm rfl (wv (C6 (ys:=ha.1) (enc:=Ao) (i:=3) GO rfl rfl) (wv (CF rfl rfl) (wm rfl ?_)))))))))));obtain⟨hf,hK⟩:=Av hJ;refine AW (b:=!decide ((ha.1.length:Int)=1)) rfl rfl (Bool.not_eq_eq_eq_not.1 hf) (wm rfl (AW (b:=!decide ((ha.1.length:Int)=1)) rfl rfl (Bool.not_eq_eq_eq_not.1 hf) ?_));obtain⟨hn,hL⟩:=Av hK;refine wv (r:=rv (E9 5 v33 (Int.toNat 0) 0)) (G8 (i:=3) GO Cc rfl rfl rfl (BE hn)) (AW (b:=!decide ((ha.1.length:Int)=1)) rfl rfl (Bool.not_eq_eq_eq_not.1 hf) (wv (r:=rv (E9 5 v33 (Int.toNat 0) 0)) (Eo (k:=3) CQ rfl CV rfl (BE hn) rfl rfl rfl) (AW (b:=!decide ((ha.1.length:Int)=1)) rfl rfl (Bool.not_eq_eq_eq_not.1 hf) (wv (r:=rS ((Ay ha.1 0).fID)) (GP (enc:=Ao) (ys:=ha.1) (i:=3) (j:=0) Dn rfl rfl hn rfl) (AW (b:=!decide ((ha.1.length:Int)=1)) rfl rfl (Bool.not_eq_eq_eq_not.1 hf) (wv (IW rfl rfl) (wv (r:=rB (!decide (((Ay ha.1 0).fID)=([99]:Ah)))) (A4 (b:=!decide ((ha.1.length:Int)=1)) rfl (Bool.not_eq_eq_eq_not.1 hf) rfl) (wm rfl ?_))))))));obtain⟨hl,hN⟩:=Av hL;refine AW (b:=!decide (((Ay ha.1 0).fID)=([99]:Ah))) rfl rfl (Bool.not_eq_eq_eq_not.1 hl) (wm rfl (AW (b:=!decide (((Ay ha.1 0).fID)=([99]:Ah))) rfl rfl (Bool.not_eq_eq_eq_not.1 hl) (wv (C6 (ys:=hb.1) (enc:=Ao) (i:=2) GO rfl rfl) (AW (b:=!decide (((Ay ha.1 0).fID)=([99]:Ah))) rfl rfl (Bool.not_eq_eq_eq_not.1 hl) (wv (CF rfl rfl) (wv (r:=rB (!decide ((hb.1.length:Int)=3))) (A4 (b:=!decide (((Ay ha.1 0).fID)=([99]:Ah))) rfl (Bool.not_eq_eq_eq_not.1 hl) rfl) (wm rfl ?_)))))));obtain⟨hg,hO⟩:=Av hN;refine AW (b:=!decide ((hb.1.length:Int)=3)) rfl rfl (Bool.not_eq_eq_eq_not.1 hg) (wm rfl (AW (b:=!decide ((hb.1.length:Int)=3)) rfl rfl (Bool.not_eq_eq_eq_not.1 hg) ?_));obtain⟨ho,hP⟩:=Av hO;refine wv (r:=rv (E9 5 v37 (Int.toNat 1) 0)) (G8 (i:=2) GO Cc rfl rfl rfl (BE ho)) (AW (b:=!decide ((hb.1.length:Int)=3)) rfl rfl (Bool.not_eq_eq_eq_not.1 hg) (wv (r:=rv (E9 5 v37 (Int.toNat 1) 0)) (Eo (k:=2) CQ rfl CV rfl (BE ho) rfl rfl rfl) (AW (b:=!decide ((hb.1.length:Int)=3)) rfl rfl (Bool.not_eq_eq_eq_not.1 hg) (wv (r:=rS ((Ay hb.1 1).fID)) (GP (enc:=Ao) (ys:=hb.1) (i:=2) (j:=1) Dn rfl rfl ho rfl) (AW (b:=!decide ((hb.1.length:Int)=3)) rfl rfl (Bool.not_eq_eq_eq_not.1 hg) (wv (IW rfl rfl) (wv (r:=rB (!decide (((Ay hb.1 1).fID)=([97]:Ah)))) (A4 (b:=!decide ((hb.1.length:Int)=3)) rfl (Bool.not_eq_eq_eq_not.1 hg) rfl) (wm rfl ?_))))))));obtain⟨hp,hQ⟩:=Av hP;refine AW (b:=!decide (((Ay hb.1 1).fID)=([97]:Ah))) rfl rfl (Bool.not_eq_eq_eq_not.1 hp) (wm rfl (AW (b:=!decide (((Ay hb.1 1).fID)=([97]:Ah))) rfl rfl (Bool.not_eq_eq_eq_not.1 hp) (wv (CF rfl rfl) (wv (r:=rB (!decide (he.1=3))) (A4 (b:=!decide (((Ay hb.1 1).fID)=([97]:Ah))) rfl (Bool.not_eq_eq_eq_not.1 hp) rfl) (wm rfl ?_)))));obtain⟨hq,hR⟩:=Av hQ;refine AW (b:=!decide (he.1=3)) rfl rfl (Bool.not_eq_eq_eq_not.1 hq) (wm rfl (AW (b:=!decide (he.1=3)) rfl rfl (Bool.not_eq_eq_eq_not.1 hq) (wv (BJ rfl) (wv (r:=rB (!he.2.1)) (A4 (b:=!decide (he.1=3)) rfl (Bool.not_eq_eq_eq_not.1 hq) rfl) (Ar ?_)))));obtain⟨hS,hT⟩:=Av hR;refine Ey (b:=!he.2.1) rfl (Bool.not_eq_eq_eq_not.1 hS) (At (AN (Ak (wm rfl ?_))));obtain⟨ht,hU,hV⟩:=AL hT;refine Gx (Hr:=[.row v37 31 5 (List.map Ao hb.1),.row v33 31 5 (List.map Ao ha.1)]) Tryz.call27 (UZ b4 b5 he.2.2 ([99]:Ah) ht hU) rfl (AaP _) rfl ?_;rintro _ _ ⟨rfl,rfl⟩;refine wv (B3 rfl rfl) (wm rfl ?_);obtain⟨hm,hW⟩:=Av hV;refine wo hm (wm rfl (wo hm ?_));obtain⟨hu,hX,hY⟩:=AL hW;refine Gx (Hr:=[.row v37 31 5 (List.map Ao hb.1),.row v33 31 5 (List.map Ao ha.1)]) Tryz.call28 (T5 b4 b5 ht.2 ([97]:Ah) hu hX) rfl (AaP _) rfl ?_;rintro _ _ ⟨rfl,rfl⟩;refine wo hm (wv (B3 rfl rfl) (Gk rfl hm rfl (wm rfl ?_)));obtain⟨hj,hZ⟩:=Av hY;refine wo hj (wm rfl (wo hj ?_));obtain⟨hw,ga,gb⟩:=AL hZ;refine Co Tryz.call26 (SO ([100]:Ah) 3 hw ga) rfl (wo hj ?_);obtain⟨gc,gd,ge⟩:=AL gb;refine Gx (Hr:=[.row v37 31 5 (List.map Ao hb.1),.row v33 31 5 (List.map Ao ha.1)]) Tryz.call25 (OS F b4 b5 hu.2 hw 4 gc gd) rfl (AaP _) rfl ?_;rintro _ _ ⟨rfl,rfl⟩;refine wo hj (wv (B3 rfl rfl) (Gk rfl hj rfl (wa rfl (Ar (Ax ?_)))));obtain rfl:=Az ge;exact Aw (BS Tryz.results7 (AJ rfl)) (sS (sS (sS (sS sN)))) ⟨rfl,rfl⟩
end Go.Proofs.YtkoiaconljdbeaaGreatDoor.Q
namespace Go.Proofs.YtkoiaconljdbeaaGreatDoor
open Go
set_option linter.unusedVariables false
def GN (fields:(List Ah))(hb:(List Int))(ha:Int):Option (Stp ((List Int)×Int) (Out (Ah×Int) ((List Int)))):=
 Bj (decide (ha<(fields.length:Int))) (AX (CH ha (fields.length:Int))<|Bj (decide (4000<((Ay fields ha).length:Int))) (some (.out (.ret (([]:Ah),3)))) (AX (DC 1 (hb.length+([IntKind.wrap .u8 (K1 .i64 ((Ay fields ha).length:Int) 8),IntKind.wrap .u8 ((Ay fields ha).length:Int)]:List Int).length))<|AX (DC 1 ((hb++([IntKind.wrap .u8 (K1 .i64 ((Ay fields ha).length:Int) 8),IntKind.wrap .u8 ((Ay fields ha).length:Int)]:List Int)).length+(Ay fields ha).length))<|AX (Bw .i64 (ha+1))<|some (.next ((hb++([IntKind.wrap .u8 (K1 .i64 ((Ay fields ha).length:Int) 8),IntKind.wrap .u8 ((Ay fields ha).length:Int)]:List Int))++Dt (Ay fields ha),ha+1)))) (some (.out (.go hb)))
def Lu (ha:(List Int)):Option (Ah×Int):=
 some (PB ha,0)
def QU (F:Nat)(fields:(List Ah)):Option (Ah×Int):=
 Bj (decide (64<(fields.length:Int))) (some (([]:Ah),3)) (Bx (Cg (λσ=>GN fields σ.1 σ.2) F (([IntKind.wrap .u8 (fields.length:Int)]:List Int),0)) (BL λν=>Lu ν))
def DO (ha:Int):Option ((List Ah)×Int):=
 some (([]:List Ah),ha)
def CC (s:Ah)(ha:Ah)(hb:(List Ah))(hh:Int)(hd:Int):Option (Stp (Ah×(List Ah)×Int×Int) (Out ((List Ah)×Int) (Ah×(List Ah)))):=
 Bj (decide (hd<(AT s 0))) (Bj (decide ((ha.length:Int)<2)) (Bx (DO 14) λhe=>some (.out (.ret he))) (AX (CH 0 (ha.length:Int))<|AX (Bw .i64 (AT ha 0))<|AX (CH 1 (ha.length:Int))<|AX (Bw .i64 (AT ha 1))<|AX (Hp 2 (ha.length:Int))<|Bj (decide (4000<(Lz .i64 (Gl .i64 (AT ha 0) 8) (AT ha 1)))) (Bx (DO 13) λhf=>some (.out (.ret hf))) (Bj (decide (((List.drop (Int.toNat 2) ha).length:Int)<(Lz .i64 (Gl .i64 (AT ha 0) 8) (AT ha 1)))) (Bx (DO 14) λhg=>some (.out (.ret hg))) (AX (Hp (Lz .i64 (Gl .i64 (AT ha 0) 8) (AT ha 1)) ((List.drop (Int.toNat 2) ha).length:Int))<|AX (DC 16 (hb.length+([List.take (Int.toNat (Lz .i64 (Gl .i64 (AT ha 0) 8) (AT ha 1))) (List.drop (Int.toNat 2) ha)]:List Ah).length))<|AX (Bw .i64 (hd+1))<|some (.next (List.drop (Int.toNat (Lz .i64 (Gl .i64 (AT ha 0) 8) (AT ha 1))) (List.drop (Int.toNat 2) ha),hb++([List.take (Int.toNat (Lz .i64 (Gl .i64 (AT ha 0) 8) (AT ha 1))) (List.drop (Int.toNat 2) ha)]:List Ah),Lz .i64 (Gl .i64 (AT ha 0) 8) (AT ha 1),hd+1)))))) (some (.out (.go (ha,hb))))
def ET (hb:Ah)(ha:(List Ah)):Option ((List Ah)×Int):=
 Bj (!decide (hb=([]:Ah))) (DO 13) (AX (Hp (ha.length:Int) (ha.length:Int))<|some (List.take (Int.toNat (ha.length:Int)) ha,0))
def Lt (F:Nat)(s:Ah):Option ((List Ah)×Int):=
 Bj (decide (s=([]:Ah))) (DO 14) (AX (CH 0 (s.length:Int))<|AX (Bw .i64 (AT s 0))<|AX (Hp 1 (s.length:Int))<|Bj (decide (64<(AT s 0))) (DO 13) (Bx (Cg (λσ=>CC s σ.1 σ.2.1 σ.2.2.1 σ.2.2.2) F (List.drop (Int.toNat 1) s,([]:List Ah),0,0)) (BL λν=>ET ν.1 ν.2)))
def Gd (fields:(List Ah))(hb:(List Int))(ha:Int):Option (Stp ((List Int)×Int) (Out (Ah×Int) ((List Int)))):=
 Bj (decide (ha<(fields.length:Int))) (AX (CH ha (fields.length:Int))<|Bj (decide (4000<((Ay fields ha).length:Int))) (some (.out (.ret (([]:Ah),3)))) (AX (Bw .i64 (Int.tdiv ((Ay fields ha).length:Int) 256))<|AX (DC 1 (hb.length+([IntKind.wrap .u8 (Int.tdiv ((Ay fields ha).length:Int) 256),IntKind.wrap .u8 (Int.tmod ((Ay fields ha).length:Int) 256)]:List Int).length))<|AX (DC 1 ((hb++([IntKind.wrap .u8 (Int.tdiv ((Ay fields ha).length:Int) 256),IntKind.wrap .u8 (Int.tmod ((Ay fields ha).length:Int) 256)]:List Int)).length+(Ay fields ha).length))<|AX (Bw .i64 (ha+1))<|some (.next ((hb++([IntKind.wrap .u8 (Int.tdiv ((Ay fields ha).length:Int) 256),IntKind.wrap .u8 (Int.tmod ((Ay fields ha).length:Int) 256)]:List Int))++Dt (Ay fields ha),ha+1)))) (some (.out (.go hb)))
def JI (ha:(List Int)):Option (Ah×Int):=
 some (PB ha,0)
def Ny (F:Nat)(fields:(List Ah)):Option (Ah×Int):=
 Bj (decide (64<(fields.length:Int))) (some (([]:Ah),3)) (Bx (Cg (λσ=>Gd fields σ.1 σ.2) F (([IntKind.wrap .u8 (fields.length:Int)]:List Int),0)) (BL λν=>JI ν))
def Cs (s:Ah)(hb:(List Ah))(ha:Int)(hd:Int):Option (Stp ((List Ah)×Int×Int) (Out ((List Ah)×Int) ((List Ah)×Int))):=
 Bj (decide (hd<(AT s 0))) (AX (Bw .i64 ((s.length:Int)-ha))<|Bj (decide (((s.length:Int)-ha)<2)) (some (.out (.ret (([]:List Ah),14)))) (AX (CH ha (s.length:Int))<|AX (Bw .i64 (AT s ha))<|AX (Bw .i64 ((AT s ha)*256))<|AX (Bw .i64 (ha+1))<|AX (CH (ha+1) (s.length:Int))<|AX (Bw .i64 (AT s (ha+1)))<|AX (Bw .i64 (((AT s ha)*256)+(AT s (ha+1))))<|Bj (decide (4000<(((AT s ha)*256)+(AT s (ha+1))))) (some (.out (.ret (([]:List Ah),13)))) (AX (Bw .i64 (((s.length:Int)-ha)-2))<|Bj (decide ((((s.length:Int)-ha)-2)<(((AT s ha)*256)+(AT s (ha+1))))) (some (.out (.ret (([]:List Ah),14)))) (AX (Bw .i64 (ha+2))<|AX (Bw .i64 ((ha+2)+(((AT s ha)*256)+(AT s (ha+1)))))<|AX (Hp (ha+2) ((ha+2)+(((AT s ha)*256)+(AT s (ha+1)))))<|AX (Hp ((ha+2)+(((AT s ha)*256)+(AT s (ha+1)))) (s.length:Int))<|AX (DC 16 (hb.length+([List.take (Int.toNat ((ha+2)+(((AT s ha)*256)+(AT s (ha+1))))-Int.toNat (ha+2)) (List.drop (Int.toNat (ha+2)) s)]:List Ah).length))<|AX (Bw .i64 (hd+1))<|some (.next (hb++([List.take (Int.toNat ((ha+2)+(((AT s ha)*256)+(AT s (ha+1))))-Int.toNat (ha+2)) (List.drop (Int.toNat (ha+2)) s)]:List Ah),(ha+2)+(((AT s ha)*256)+(AT s (ha+1))),hd+1)))))) (some (.out (.go (hb,ha))))
def Ej (s:Ah)(ha:(List Ah))(hb:Int):Option ((List Ah)×Int):=
 Bj (decide (hb<(s.length:Int))) (some (([]:List Ah),13)) (some (ha,0))
def Jq (F:Nat)(s:Ah):Option ((List Ah)×Int):=
 Bj (decide ((s.length:Int)<1)) (some (([]:List Ah),14)) (AX (CH 0 (s.length:Int))<|Bj (decide (64<(AT s 0))) (some (([]:List Ah),13)) (AX (Bw .i64 (AT s 0))<|Bx (Cg (λσ=>Cs s σ.1 σ.2.1 σ.2.2) F (([]:List Ah),1,0)) (BL λν=>Ej s ν.1 ν.2)))
end Go.Proofs.YtkoiaconljdbeaaGreatDoor
namespace Go.Proofs.YtkoiaconljdbeaaGreatDoor.Q
open Go Go.RowKit
set_option linter.unusedVariables false
set_option linter.unusedSimpArgs false
section
variable {P : Program} {n : Nat} {c : Cx} {l : Fr} {H : List Ent} {d : Option Nat} {x y : Operand} {t t' ty : TypeId} {pos : String} {af : Array Edge} {g : Option (Nat × Bool)} {k k' : IntKind} {p q : Int}
theorem Aaw (hx:ev l x=some (rI k p))(hy:ev l y=some (rI k q)):Bv P n c l H { dst:=d,op:=.binOp .or t x y t',type:=ty,pos:=pos,after:=af,guard:=g } (rI k (Lz k p q)):=λa w Z ha _=>CZ<|by
 simp[execOp,ha.eval hx,ha.eval hy,B0,binOp,Op.intBits,Lz]
theorem ZJ (hx:ev l x=some (rI k p))(hy:ev l y=some (rI k' q))(h0:decide (0≤q)=true):Bv P n c l H { dst:=d,op:=.binOp .shl t x y t',type:=ty,pos:=pos,after:=af,guard:=g } (rI k (Gl k p q)):=λa w Z ha _=>CZ<|by
 have h1 : ¬ q<0:=by have:=Abo h0;omega
 simp[execOp,ha.eval hx,ha.eval hy,B0,binOp,Op.shift,Gl,h1]
theorem ZI (hx:ev l x=some (rI k p))(hy:ev l y=some (rI k' q))(h0:decide (0≤q)=true):Bv P n c l H { dst:=d,op:=.binOp .shr t x y t',type:=ty,pos:=pos,after:=af,guard:=g } (rI k (K1 k p q)):=λa w Z ha _=>CZ<|by
 have h1 : ¬ q<0:=by have:=Abo h0;omega
 simp[execOp,ha.eval hx,ha.eval hy,B0,binOp,Op.shift,K1,h1]
end
section
variable {P : Program} {n : Nat} {c : Cx} {ops : Array Oper} {Q : Exit → Act → World → Prop} {rest : List Oper} {l : Fr} {H H' : List Ent} {d : Nat} {d' : Option Nat} {x y : Operand} {t ty e : TypeId} {pos : String} {af : Array Edge} {g : Option (Nat × Bool)} {k : IntKind} {b i len : Nat} {j : Int}
end
set_option maxRecDepth 100000
set_option maxHeartbeats 4000000
theorem Y4:∃inf,Tryz.prog.info? 9=some inf∧inf.zero=some (.string ⟨#[]⟩)∧inf.size=1∧inf.bytes=16:=by
  have key:(Tryz.prog.info? 9).map (λi=>(i.zero,i.size,i.bytes))=some (some (.string ⟨#[]⟩),1,16):=by kernel_rfl
  obtain⟨inf,h1,h2⟩:=Option.map_eq_some_iff.1 key;simp only[Prod.mk.injEq] at h2;exact⟨inf,h1,h2.1,h2.2.1,h2.2.2⟩
theorem Yi (F:Nat)(fields:(List Ah))(r:Ah×Int)(h:QU F fields=some r):Fn Tryz.prog GE 46 [Bo 1 (List.map eS fields)] [] (λR H=>R=C5 [rS r.1,rI .i64 r.2]∧H=[]):=by
 refine enter (n:=39) Tryz.func46 rfl Tryz.ntmps46 rfl (λw Z=>?_);refine Bb (l':=[(0,Bo 1 (List.map eS fields))]) (H':=[]) rfl rfl ?_;unfold QU at h;refine Ak (wv (r:=rS ([]:Ah)) (Ac rfl) (wv (r:=rI .i64 0) (Ac rfl) (Ar (Am (Ak (wm rfl (wv (BT (ys:=fields) (enc:=eS) DW rfl) (wv (Cl rfl rfl) (Ar (Ap (b:=decide (64<(fields.length:Int))) rfl (λc1=>?_) (λc1=>?_)))))))))))
 ·have h2:=AB c1 h;refine Ak (wv (r:=rS ([]:Ah)) (Ac rfl) (wv (r:=rI .i64 3) (Ac rfl) (Ar (Ax (Af ?_)))));obtain rfl:=Az h2;exact Aw (Dg Tryz.results46 (AJ rfl) (AJ rfl)) sN ⟨rfl,rfl⟩
 ·have h3:=AC c1 h;refine At (AN (Ak (wm rfl (wv (BT (ys:=fields) (enc:=eS) DW rfl) (wv (r:=rI .u8 (IntKind.wrap .u8 (fields.length:Int))) (Gf ⟨_,P9⟩ P8 rfl) (AY (ys:=([IntKind.wrap .u8 (fields.length:Int)]:List Int)) (enc:=Bp) (css:=[[rI .u8 (IntKind.wrap .u8 (fields.length:Int))]]) (xs:=[.tmp 12]) EB YG YF rfl rfl rfl ⟨Gw.one rfl (Up.refl _),trivial⟩ rfl Dr rfl rfl rfl (λb4=>?_)))))));refine wa rfl (Ar (Am (Ak (wm rfl (wv (BT (ys:=fields) (enc:=eS) DW rfl) (wv (r:=rI .i64 0) (Au rfl) (Ar (AO ?_))))))));obtain⟨hm,hn,hj⟩:=AL h3;refine BA (S:=Nat×((List Int)×Int)×(Value)) (V:=((List Int))×(Value)) 0 (λσ=>Cg (λσ=>GN fields σ.1 σ.2) σ.1 σ.2.1=some hm) (λσ=>[(2,rS ([]:Ah)),(3,rI .i64 0),(4,rv σ.2.2),(14,Bo 1 (List.map eS fields)),(15,rI .i64 (fields.length:Int)),(16,rI .i64 σ.2.1.2)]) (λσ=>[.row σ.2.2 5 1 (List.map Bp σ.2.1.1)]) (λσ=>σ.1) (F,(([IntKind.wrap .u8 (fields.length:Int)]:List Int),0),(.slice (some ⟨b4,0,none⟩) 1 1)) hn (AQ.c rfl (AQ.c5 rfl rfl rfl rfl rfl AQ.nil)) (sC sN) (λσ=>Lu σ.1=some r) (λσ=>[(2,rS ([]:Ah)),(3,rI .i64 0),(4,rv σ.2)]) (λσ=>[.row σ.2 5 1 (List.map Bp σ.1)]) ?_ ?_
  ·rintro⟨h9,⟨hb,ha⟩,hg⟩ ho;refine Bb (l':=[(2,rS ([]:Ah)),(3,rI .i64 0),(4,rv hg),(14,Bo 1 (List.map eS fields)),(15,rI .i64 (fields.length:Int)),(16,rI .i64 ha)]) (H':=[.row hg 5 1 (List.map Bp hb)]) rfl rfl ?_;obtain⟨hp,rfl,hq,hd,hh⟩:=CM ho;replace hd:GN fields hb ha=some hq:=hd;unfold GN at hd;refine Ak (wv (Cp rfl rfl) (Ar (Am (Ap (b:=decide (ha<(fields.length:Int))) rfl (λhi=>?_) (λhi=>?_)))))
   ·have hr:=AB hi hd;refine At (AN (Am (AO (Ak ?_))));obtain⟨hs,hk⟩:=Av hr;refine wv (BY (enc:=eS) (ys:=fields) DW CV rfl rfl hs) (wv (BQ Dn rfl rfl) (wa rfl (Ar (Am (Ak (wm rfl (wv (Bd BP rfl) (wv (Cl rfl rfl) (Ar (Ap (b:=decide (4000<((Ay fields ha).length:Int))) rfl (λc75=>?_) (λc75=>?_)))))))))))
    ·have ht:=AB c75 hk;refine Ak (wv (r:=rS ([]:Ah)) (Ac rfl) (wv (r:=rI .i64 3) (Ac rfl) (Ar (Ax (Af (A3 (Af (Af (Bc ?_)))))))));have hu:=B1 ht hh hj;refine A3 (Af ?_);obtain rfl:=Az hu;exact Aw (Dg Tryz.results46 (AJ rfl) (AJ rfl)) (sS sN) ⟨rfl,rfl⟩
    ·have hw:=AC c75 hk;refine At (AN (Ak (wm rfl (wm rfl (wv (Bd BP rfl) (wv (r:=rI .i64 (K1 .i64 ((Ay fields ha).length:Int) 8)) (ZI rfl rfl (by decide)) (wv (r:=rI .u8 (IntKind.wrap .u8 (K1 .i64 ((Ay fields ha).length:Int) 8))) (Gf ⟨_,P9⟩ P8 rfl) (wm rfl (wv (Bd BP rfl) (wv (r:=rI .u8 (IntKind.wrap .u8 ((Ay fields ha).length:Int))) (Gf ⟨_,P9⟩ P8 rfl) (AY (ys:=([IntKind.wrap .u8 (K1 .i64 ((Ay fields ha).length:Int) 8),IntKind.wrap .u8 ((Ay fields ha).length:Int)]:List Int)) (enc:=Bp) (css:=[[rI .u8 (IntKind.wrap .u8 (K1 .i64 ((Ay fields ha).length:Int) 8))],[rI .u8 (IntKind.wrap .u8 ((Ay fields ha).length:Int))]]) (xs:=[.tmp 27,.tmp 30]) EB YG YF rfl rfl rfl ⟨Gw.one rfl (Up.refl _),Gw.one rfl (Up.refl _),trivial⟩ rfl Dr rfl rfl rfl (λhA=>?_))))))))))));obtain⟨hx,hy⟩:=Av hw;obtain⟨inf,hinf⟩:=Lp;refine BV (xs:=hb) (ys:=([IntKind.wrap .u8 (K1 .i64 ((Ay fields ha).length:Int) 8),IntKind.wrap .u8 ((Ay fields ha).length:Int)]:List Int)) (enc:=Bp) (i:=1) EB hinf.1 hinf.2.1 hinf.2.2.1 hinf.2.2.2 rfl rfl rfl rfl rfl (JW.w (i:=0) rfl rfl) Dr I8 hx rfl (λv80=>?_);refine wa rfl (Ar (Aj (wm rfl (wm rfl ?_))));obtain⟨hz,h0⟩:=Av hy;obtain⟨inf,hinf⟩:=Lp;refine Hb (xs:=hb++([IntKind.wrap .u8 (K1 .i64 ((Ay fields ha).length:Int) 8),IntKind.wrap .u8 ((Ay fields ha).length:Int)]:List Int)) (i:=0) EB BP hinf.1 hinf.2.1 hinf.2.2.1 hinf.2.2.2 rfl rfl rfl hz rfl (λh1=>?_);refine wa rfl (Al (AK (AN (Aj ?_))));obtain⟨h4,h5⟩:=Av h0;refine wv (Bi rfl rfl h4) (wm rfl (Al ?_));have h6:=Bk h5 hh;exact Aq (AG (hp,((hb++([IntKind.wrap .u8 (K1 .i64 ((Ay fields ha).length:Int) 8),IntKind.wrap .u8 ((Ay fields ha).length:Int)]:List Int))++Dt (Ay fields ha),ha+1),h1) ⟨h6,AaX _⟩ (AQ.c rfl (AQ.c5 rfl rfl rfl rfl rfl AQ.nil)) (sC (sS sN)))
   ·have h7:=AC hi hd;refine B9 (A5 ?_);have h8:=Cj h7 hh hj;exact A5 (Br (AG (hb,hg) h8 (AQ.c rfl (AQ.c rfl (AQ.c rfl AQ.nil))) (sC sN)))
  ·rintro⟨he,hl⟩ hf;refine CR (l':=[(2,rS ([]:Ah)),(3,rI .i64 0),(4,rv hl)]) (H':=[.row hl 5 1 (List.map Bp he)]) rfl rfl ?_;replace hf:Lu he=some r:=hf;unfold Lu at hf;refine Bm (AN (Ak (wm rfl (wv (r:=rS (PB he)) (VO (xs:=he) (i:=0) EB BP P8 rfl rfl) (wa rfl (wv (r:=rI .i64 0) (Ac rfl) (Ar (Ax ?_))))))));obtain rfl:=Az hf;exact Aw (Dg Tryz.results46 (AJ rfl) (AJ rfl)) (sS sN) ⟨rfl,rfl⟩
theorem Uu (F:Nat)(s:Ah)(r:(List Ah)×Int)(h:Lt F s=some r):Fn Tryz.prog GE 52 [rS s] [] (λR H=>R=C5 [Bo 1 (List.map eS r.1),rI .i64 r.2]∧H=[]):=by
 refine enter (n:=58) Tryz.func52 rfl Tryz.ntmps52 rfl (λw Z=>?_);refine Bb (l':=[(0,rS s)]) (H':=[]) rfl rfl ?_;unfold Lt at h;refine Ak (wv (r:=rv (.slice none 0 0)) (Ac rfl) (wv (r:=rI .i64 0) (Ac rfl) (Ar (NW (S:=(Int)×(Unit)) 0 (λσ=>DO σ.1=some r) (λσ=>[(2,rv (.slice none 0 0)),(3,rI .i64 0),(7,rI .i64 σ.1)]) (λσ=>[]) rfl ?_ ?_))))
 ·refine Ak (wv (r:=rv (.slice none 0 0)) (Ac rfl) (By (wv (r:=rI .i64 0) (Ac rfl) (wv (r:=rI .i64 0) (Ac rfl) (By (wv (r:=rI .i64 14) (Ac rfl) (Ar (Am (Ak (wm rfl (wv (G0 rfl rfl) (Ar (Ap (b:=decide (s=([]:Ah))) rfl (λhl=>?_) (λhl=>?_))))))))))))))
  ·have h1:=AB hl h;exact J8 (BW (J6 (AG (14,()) h1 (AQ.c rfl (AQ.c rfl (AQ.c rfl AQ.nil))) sN)))
  ·have h2:=AC hl h;refine At (AN (Am ?_));obtain⟨h3,h4⟩:=Av h2;obtain⟨h5,h6⟩:=Av h4;obtain⟨h7,hs⟩:=Av h6;refine Ha 6 [0,2,3,4,6,7] [⟨[],rS s,none,none,none⟩,⟨[0],rI .u8 (AT s 0),none,none,none⟩,⟨[1],rI .i64 (AT s 0),none,none,none⟩,⟨[],rS s,none,none,none⟩,⟨[3],rS (List.drop (Int.toNat 1) s),none,none,none⟩,⟨[2],rI .i64 (AT s 0),none,none,none⟩] ?_ (λβ=>?_)
   ·refine DE (Au rfl) (DE (AV BP rfl rfl h3) (DE (D1 ⟨_,P8⟩ P9 rfl h5) (DE (Au rfl) (DE (En BP rfl rfl h7) (DE (Ac rfl) ?_)))));exact XH
   refine HZ (H1:=[]) [10,11,12,13,14,5,0,2,3,4,6,7] ?_;refine wa rfl (Ar (Am (Ak (wm rfl (wv (Cl rfl rfl) (Ar (Ap (b:=decide (64<(AT s 0))) rfl (λc167=>?_) (λc167=>?_))))))))
   ·have h8:=AB c167 hs;exact Ak (wv (r:=rI .i64 13) (Ac rfl) (Ar (J8 (BW (J6 (AG (13,()) h8 (AQ.c rfl (AQ.c rfl (AQ.c rfl AQ.nil))) sN))))))
   ·have h9:=AC c167 hs;refine At (AN (Am (Ak (wm rfl (wv (r:=rI .i64 0) (Au rfl) (Ar (AO (WC.nilrow (e:=9) (sz:=1) ?_))))))));obtain⟨hA,hB,hi⟩:=AL h9;refine BA (S:=Nat×(Ah×(List Ah)×Int×Int)×(Value)) (V:=(Ah×(List Ah))×(Value)) 0 (λσ=>Cg (λσ=>CC s σ.1 σ.2.1 σ.2.2.1 σ.2.2.2) σ.1 σ.2.1=some hA) (λσ=>[(0,rS σ.2.1.1),(2,rv (.slice none 0 0)),(3,rI .i64 0),(4,rv σ.2.2),(6,rI .i64 σ.2.1.2.2.1),(7,rI .i64 14),(17,rI .i64 (AT s 0)),(18,rI .i64 σ.2.1.2.2.2)]) (λσ=>[.row σ.2.2 9 1 (List.map eS σ.2.1.2.1)]) (λσ=>σ.1) (F,(List.drop (Int.toNat 1) s,([]:List Ah),0,0),(.slice none 0 0         )) hB (AQ.c rfl (AQ.c rfl (AQ.c rfl (AQ.c5 rfl rfl rfl rfl rfl AQ.nil)))) (sC sN) (λσ=>ET σ.1.1 σ.1.2=some r) (λσ=>[(0,rS σ.1.1),(2,rv (.slice none 0 0)),(3,rI .i64 0),(4,rv σ.2),(7,rI .i64 14)]) (λσ=>[.row σ.2 9 1 (List.map eS σ.1.2)]) ?_ ?_
    ·rintro⟨gr,⟨ha,hd,ht,hj⟩,v233⟩ hC;refine Bb (l':=[(0,rS ha),(2,rv (.slice none 0 0)),(3,rI .i64 0),(4,rv v233),(6,rI .i64 ht),(7,rI .i64 14),(17,rI .i64 (AT s 0)),(18,rI .i64 hj)]) (H':=[.row v233 9 1 (List.map eS hd)]) rfl rfl ?_;obtain⟨hD,rfl,hE,hf,hg⟩:=CM hC;replace hf:CC s ha hd ht hj=some hE:=hf;unfold CC at hf;refine Ak (wv (Cp rfl rfl) (Ar (Am (Ap (b:=decide (hj<(AT s 0))) rfl (λhm=>?_) (λhm=>?_)))))
     ·have hu:=AB hm hf;refine At (AN (Am (AO (Am (Ak (wm rfl (wv (Bd BP rfl) (wv (Cp rfl rfl) (Ar (Ap (b:=decide ((ha.length:Int)<2)) rfl (λhn=>?_) (λhn=>?_)))))))))))
      ·have hG:=AB hn hu;refine J8 (BW (G4 (BW (BW (Jg (G4 (BW (J6 ?_))))))));obtain⟨gs,hH,hI⟩:=AL hG;have hJ:=B1 hI hg hi;obtain rfl:=Az hJ;exact AG (14,()) hH (AQ.c rfl (AQ.c rfl (AQ.c rfl AQ.nil))) (sS sN)
      ·have hK:=AC hn hu;refine At (AN (Am ?_));obtain⟨hL,hN⟩:=Av hK;obtain⟨hO,hP⟩:=Av hN;obtain⟨hQ,hR⟩:=Av hP;obtain⟨hS,hT⟩:=Av hR;obtain⟨hU,hw⟩:=Av hT;refine Ha 11 [0,2,3,4,7,17,18,19,20,21,22] [⟨[],rS ha,none,none,none⟩,⟨[0],rI .u8 (AT ha 0),none,none,none⟩,⟨[1],rI .i64 (AT ha 0),none,none,none⟩,⟨[2],rI .i64 (Gl .i64 (AT ha 0) 8),none,none,none⟩,⟨[],rS ha,none,none,none⟩,⟨[4],rI .u8 (AT ha 1),none,none,none⟩,⟨[5],rI .i64 (AT ha 1),none,none,none⟩,⟨[3,6],rI .i64 (Lz .i64 (Gl .i64 (AT ha 0) 8) (AT ha 1)),none,none,none⟩,⟨[],rS ha,none,none,none⟩,⟨[8],rS (List.drop (Int.toNat 2) ha),none,none,none⟩,⟨[7],rI .i64 (Lz .i64 (Gl .i64 (AT ha 0) 8) (AT ha 1)),none,none,none⟩] ?_ (λβ=>?_)
       ·refine DE (Au rfl) (DE (AV BP rfl rfl hL) (DE (D1 ⟨_,P8⟩ P9 rfl hO) (DE (ZJ rfl rfl (by decide)) (DE (Au rfl) (DE (AV BP rfl rfl hQ) (DE (D1 ⟨_,P8⟩ P9 rfl hS) (DE (Aaw rfl rfl) (DE (Au rfl) (DE (En BP rfl rfl hU) (DE (Ac rfl) ?_))))))))));exact XH
       refine HZ (H1:=[.row v233 9 1 (List.map eS hd)]) [23,24,25,26,27,28,29,30,31,32,6,0,2,3,4,7,17,18,19,20,21,22] ?_;refine wa rfl (Ar (Am (Ak (wm rfl (wv (Cl rfl rfl) (Ar (Ap (b:=decide (4000<(Lz .i64 (Gl .i64 (AT ha 0) 8) (AT ha 1)))) rfl (λho=>?_) (λho=>?_))))))))
       ·have hV:=AB ho hw;refine Ak (wv (r:=rI .i64 13) (Ac rfl) (Ar (J8 (BW (G4 (BW (BW (Jg (G4 (BW (J6 ?_)))))))))));obtain⟨gt,hW,hX⟩:=AL hV;have hY:=B1 hX hg hi;obtain rfl:=Az hY;exact AG (13,()) hW (AQ.c rfl (AQ.c rfl (AQ.c rfl AQ.nil))) (sS sN)
       ·have hx:=AC ho hw;refine At (AN (Am (Ak (wm rfl (wv (Bd BP rfl) (wm rfl (wv (Cp rfl rfl) (Ar (Ap (b:=decide (((List.drop (Int.toNat 2) ha).length:Int)<(Lz .i64 (Gl .i64 (AT ha 0) 8) (AT ha 1)))) rfl (λhp=>?_) (λhp=>?_))))))))))
        ·have hZ:=AB hp hx;refine J8 (BW (G4 (BW (BW (Jg (G4 (BW (J6 ?_))))))));obtain⟨gu,ga,gb⟩:=AL hZ;have gc:=B1 gb hg hi;obtain rfl:=Az gc;exact AG (14,()) ga (AQ.c rfl (AQ.c rfl (AQ.c rfl AQ.nil))) (sS sN)
        ·have gd:=AC hp hx;refine At (AN ?_);obtain⟨hy,ge⟩:=Av gd;obtain⟨gf,gg⟩:=Av ge;obtain⟨inf,hinf⟩:=Y4;refine YI 10 5 [0,2,3,6,7,17,18,20,21,22,23,24,25,26,27,28,29,30,31,32,33,34,35,36,37,38] [4] [{ deps:=[],r:=λ_=>rv v233,old:=[4] },{ deps:=[],r:=λ_=>rS (List.drop (Int.toNat 2) ha) },{ deps:=[],r:=λ_=>rI .i64 (Lz .i64 (Gl .i64 (AT ha 0) 8) (AT ha 1)) },{ deps:=[1,2],r:=λ_=>rS (List.take (Int.toNat (Lz .i64 (Gl .i64 (AT ha 0) 8) (AT ha 1))) (List.drop (Int.toNat 2) ha)) },{ deps:=[3],r:=λ_=>Bo 1 (List.map eS ([List.take (Int.toNat (Lz .i64 (Gl .i64 (AT ha 0) 8) (AT ha 1))) (List.drop (Int.toNat 2) ha)]:List Ah)) },{ deps:=[0,4],r:=λhb=>rv hb,dyn:=true },{ deps:=[],r:=λ_=>rS (List.drop (Int.toNat 2) ha) },{ deps:=[],r:=λ_=>rI .i64 (Lz .i64 (Gl .i64 (AT ha 0) 8) (AT ha 1)) },{ deps:=[6,7],r:=λ_=>rS (List.drop (Int.toNat (Lz .i64 (Gl .i64 (AT ha 0) 8) (AT ha 1))) (List.drop (Int.toNat 2) ha)) },{ deps:=[5],r:=λhb=>rv hb,dyn:=true }] (λhb=>[.row hb 9 1 (List.map eS (hd++([List.take (Int.toNat (Lz .i64 (Gl .i64 (AT ha 0) 8) (AT ha 1))) (List.drop (Int.toNat 2) ha)]:List Ah)))]) ?_ (λhb=>?_)
         ·refine Y1 (Au rfl) (Y1 (Au rfl) (Y1 (Au rfl) (Y1 (Kv BP rfl rfl hy) (oxc (EF (ys:=([List.take (Int.toNat (Lz .i64 (Gl .i64 (AT ha 0) 8) (AT ha 1))) (List.drop (Int.toNat 2) ha)]:List Ah)) (enc:=eS) (css:=[[rS (List.take (Int.toNat (Lz .i64 (Gl .i64 (AT ha 0) 8) (AT ha 1))) (List.drop (Int.toNat 2) ha))]]) (xs:=[.tmp 42]) DW CV Z7 rfl rfl rfl ⟨Gw.one rfl (Up.refl _),trivial⟩ rfl K5 rfl rfl) (oxx (UI (xs:=hd) (ys:=([List.take (Int.toNat (Lz .i64 (Gl .i64 (AT ha 0) 8) (AT ha 1))) (List.drop (Int.toNat 2) ha)]:List Ah)) (enc:=eS) (i:=0) DW hinf.1 hinf.2.1 hinf.2.2.1 hinf.2.2.2 rfl rfl rfl rfl rfl (JW.z rfl rfl) K5 W7 gf) (Y1 (Au rfl) (Y1 (Au rfl) (Y1 (En BP rfl rfl hy) (Y1 (fun {hb _}=>(Ac rfl)) ?_)))))))));exact oxe
         refine HZ (H1:=[.row hb 9 1 (List.map eS (hd++([List.take (Int.toNat (Lz .i64 (Gl .i64 (AT ha 0) 8) (AT ha 1))) (List.drop (Int.toNat 2) ha)]:List Ah)))]) [39,40,41,42,43,44,45,46,47,4,0,2,3,6,7,17,18,20,21,22,23,24,25,26,27,28,29,30,31,32,33,34,35,36,37,38] ?_;refine wa rfl (Al (AK (AN (Aj ?_))));obtain⟨gh,gi⟩:=Av gg;refine wv (Bi rfl rfl gh) (wm rfl (Al ?_));have gj:=Bk gi hg;exact Aq (AG (hD,(List.drop (Int.toNat (Lz .i64 (Gl .i64 (AT ha 0) 8) (AT ha 1))) (List.drop (Int.toNat 2) ha),hd++([List.take (Int.toNat (Lz .i64 (Gl .i64 (AT ha 0) 8) (AT ha 1))) (List.drop (Int.toNat 2) ha)]:List Ah),Lz .i64 (Gl .i64 (AT ha 0) 8) (AT ha 1),hj+1),hb) ⟨gj,AaX _⟩ (AQ.c rfl (AQ.c rfl (AQ.c rfl (AQ.c5 rfl rfl rfl rfl rfl AQ.nil)))) (sC sN))
     ·have gk:=AC hm hf;refine B9 (A5 ?_);have gl:=Cj gk hg hi;exact A5 (Br (AG ((ha,hd),v233) gl (AQ.c5 rfl rfl rfl rfl rfl AQ.nil) (sC sN)))
    ·rintro⟨⟨hq,he⟩,hz⟩ hh;refine CR (l':=[(0,rS hq),(2,rv (.slice none 0 0)),(3,rI .i64 0),(4,rv hz),(7,rI .i64 14)]) (H':=[.row hz 9 1 (List.map eS he)]) rfl rfl ?_;replace hh:ET hq he=some r:=hh;unfold ET at hh;refine Bm (AN (Am (Ak (wm rfl (wv (IW rfl rfl) (Ar (Ap (b:=!decide (hq=([]:Ah))) rfl (λhr=>?_) (λhr=>?_))))))))
     ·have gm:=AB hr hh;exact Ak (wv (r:=rI .i64 13) (Ac rfl) (Ar (J8 (BW (J6 (AG (13,()) gm (AQ.c rfl (AQ.c rfl (AQ.c rfl AQ.nil))) (sS sN)))))))
     ·have gn:=AC hr hh;refine At (AN (Am (Ak (wm rfl (wm rfl (wv (C6 (ys:=he) (enc:=eS) (i:=0) DW rfl rfl) (wm rfl (wv (C6 (ys:=he) (enc:=eS) (i:=0) DW rfl rfl) (WL.freeze (i:=0) rfl (WL.up (d:=51) (r:=Bo 1 (List.map eS he)) rfl (Up.fact (i:=0) rfl) ?_))))))))));obtain⟨gp,gq⟩:=Av gn;refine wv (r:=Bo 1 (List.map eS (List.take (Int.toNat (he.length:Int)) he))) (Q2 DW CV rfl rfl rfl gp) (wa rfl (wv (r:=rI .i64 0) (Ac rfl) (Ar (Ax (Af (Xk ?_))))));obtain rfl:=Az gq;exact Aw (Dg Tryz.results52 (AJ rfl) (AJ rfl)) (sS sN) ⟨rfl,rfl⟩
 ·rintro⟨h0,⟨⟩⟩ hk;refine Bb (l':=[(2,rv (.slice none 0 0)),(3,rI .i64 0),(7,rI .i64 h0)]) (H':=[]) rfl rfl ?_;replace hk:DO h0=some r:=hk;unfold DO at hk;refine Am (At (AN (Ak (wm rfl (wv (r:=rv (.slice none 0 0)) (Ac rfl) (wa rfl (Ar (Ax (J5 (WK.up (d:=2) (r:=Bo 1 (List.map eS ([]:List Ah))) rfl (Up.le (GJ.nil _)) ?_))))))))));obtain rfl:=Az hk;exact Aw (Dg Tryz.results52 (AJ rfl) (AJ rfl)) sN ⟨rfl,rfl⟩
theorem Vx (F:Nat)(fields:(List Ah))(r:Ah×Int)(h:Ny F fields=some r):Fn Tryz.prog GE 50 [Bo 1 (List.map eS fields)] [] (λR H=>R=C5 [rS r.1,rI .i64 r.2]∧H=[]):=by
 refine enter (n:=50) Tryz.func50 rfl Tryz.ntmps50 rfl (λw Z=>?_);refine Bb (l':=[(0,Bo 1 (List.map eS fields))]) (H':=[]) rfl rfl ?_;unfold Ny at h;refine Ak (wv (r:=rS ([]:Ah)) (Ac rfl) (wv (r:=rI .i64 0) (Ac rfl) (Ar (Am (Ak (wm rfl (wv (BT (ys:=fields) (enc:=eS) DW rfl) (wv (Cl rfl rfl) (Ar (Ap (b:=decide (64<(fields.length:Int))) rfl (λc1=>?_) (λc1=>?_)))))))))))
 ·have h2:=AB c1 h;refine Ak (wv (r:=rS ([]:Ah)) (Ac rfl) (wv (r:=rI .i64 3) (Ac rfl) (Ar (Ax (Af ?_)))));obtain rfl:=Az h2;exact Aw (Dg Tryz.results50 (AJ rfl) (AJ rfl)) sN ⟨rfl,rfl⟩
 ·have h3:=AC c1 h;refine At (AN (Ak (wm rfl (wv (BT (ys:=fields) (enc:=eS) DW rfl) (wv (r:=rI .u8 (IntKind.wrap .u8 (fields.length:Int))) (Gf ⟨_,P9⟩ P8 rfl) (AY (ys:=([IntKind.wrap .u8 (fields.length:Int)]:List Int)) (enc:=Bp) (css:=[[rI .u8 (IntKind.wrap .u8 (fields.length:Int))]]) (xs:=[.tmp 11]) EB YG YF rfl rfl rfl ⟨Gw.one rfl (Up.refl _),trivial⟩ rfl Dr rfl rfl rfl (λb4=>?_)))))));refine wa rfl (Ar (Am (Ak (wm rfl (wv (BT (ys:=fields) (enc:=eS) DW rfl) (wv (r:=rI .i64 0) (Au rfl) (Ar (AO ?_))))))));obtain⟨ho,hp,hl⟩:=AL h3;refine BA (S:=Nat×((List Int)×Int)×(Value)) (V:=((List Int))×(Value)) 0 (λσ=>Cg (λσ=>Gd fields σ.1 σ.2) σ.1 σ.2.1=some ho) (λσ=>[(0,Bo 1 (List.map eS fields)),(4,rv σ.2.2),(14,rI .i64 (fields.length:Int)),(15,rI .i64 σ.2.1.2)]) (λσ=>[.row σ.2.2 5 1 (List.map Bp σ.2.1.1)]) (λσ=>σ.1) (F,(([IntKind.wrap .u8 (fields.length:Int)]:List Int),0),(.slice (some ⟨b4,0,none⟩) 1 1)) hp (AQ.c rfl (AQ.c rfl (AQ.c rfl (AQ.c rfl AQ.nil)))) (sC sN) (λσ=>JI σ.1=some r) (λσ=>[(4,rv σ.2)]) (λσ=>[.row σ.2 5 1 (List.map Bp σ.1)]) ?_ ?_
  ·rintro⟨hC,⟨hb,ha⟩,hd⟩ hq;refine Bb (l':=[(0,Bo 1 (List.map eS fields)),(4,rv hd),(14,rI .i64 (fields.length:Int)),(15,rI .i64 ha)]) (H':=[.row hd 5 1 (List.map Bp hb)]) rfl rfl ?_;obtain⟨hr,rfl,hs,he,hi⟩:=CM hq;replace he:Gd fields hb ha=some hs:=he;unfold Gd at he;refine Ak (wv (Cp rfl rfl) (Ar (Am (Ap (b:=decide (ha<(fields.length:Int))) rfl (λhj=>?_) (λhj=>?_)))))
   ·have ht:=AB hj he;refine At (AN (Am (AO (Ak (wm rfl (wa rfl (Ar (Am (Ak (wm rfl (wm rfl ?_)))))))))));obtain⟨hf,hm⟩:=Av ht;refine wv (BY (enc:=eS) (ys:=fields) DW CV rfl rfl hf) (wv (BQ Dn rfl rfl) (wv (Bd BP rfl) (wv (Cl rfl rfl) (Ar (Ap (b:=decide (4000<((Ay fields ha).length:Int))) rfl (λhk=>?_) (λhk=>?_))))))
    ·have hu:=AB hk hm;refine Ak (wv (r:=rS ([]:Ah)) (Ac rfl) (wv (r:=rI .i64 3) (Ac rfl) (Ar (Ax (Af (A3 (Af (Af (Bc ?_)))))))));have hw:=B1 hu hi hl;refine A3 (Af ?_);obtain rfl:=Az hw;exact Aw (Dg Tryz.results50 (AJ rfl) (AJ rfl)) (sS sN) ⟨rfl,rfl⟩
    ·have hx:=AC hk hm;refine At (AN (Am ?_));obtain⟨hy,hz⟩:=Av hx;refine Ha 16 [0,4,5,14,15] [⟨[],rv hd,none,none,none⟩,⟨[],Bo 1 (List.map eS fields),none,none,none⟩,⟨[],rI .i64 ha,none,none,none⟩,⟨[1,2],PA [rS (Ay fields ha)],none,none,none⟩,⟨[3],rS (Ay fields ha),none,none,none⟩,⟨[4],rI .i64 ((Ay fields ha).length:Int),none,none,none⟩,⟨[5],rI .i64 (Int.tdiv ((Ay fields ha).length:Int) 256),none,none,none⟩,⟨[6],rI .u8 (IntKind.wrap .u8 (Int.tdiv ((Ay fields ha).length:Int) 256)),none,none,none⟩,⟨[],Bo 1 (List.map eS fields),none,none,none⟩,⟨[],rI .i64 ha,none,none,none⟩,⟨[8,9],PA [rS (Ay fields ha)],none,none,none⟩,⟨[10],rS (Ay fields ha),none,none,none⟩,⟨[11],rI .i64 ((Ay fields ha).length:Int),none,none,none⟩,⟨[12],rI .i64 (Int.tmod ((Ay fields ha).length:Int) 256),none,none,none⟩,⟨[13],rI .u8 (IntKind.wrap .u8 (Int.tmod ((Ay fields ha).length:Int) 256)),none,none,none⟩,⟨[7,14],Bo 1 (List.map Bp ([IntKind.wrap .u8 (Int.tdiv ((Ay fields ha).length:Int) 256),IntKind.wrap .u8 (Int.tmod ((Ay fields ha).length:Int) 256)]:List Int)),none,none,none⟩] ?_ (λβ=>?_)
     ·refine DE (Au rfl) (DE (Au rfl) (DE (Au rfl) (DE (BY (enc:=eS) (ys:=fields) DW CV rfl rfl hf) (DE (BQ Dn rfl rfl) (DE (Bd BP rfl) (DE (VK rfl rfl (by decide) hy) (DE (Gf ⟨_,P9⟩ P8 rfl) (DE (Au rfl) (DE (Au rfl) (DE (BY (enc:=eS) (ys:=fields) DW CV rfl rfl hf) (DE (BQ Dn rfl rfl) (DE (Bd BP rfl) (DE (VJ rfl rfl (by decide)) (DE (Gf ⟨_,P9⟩ P8 rfl) (oac (EF (ys:=([IntKind.wrap .u8 (Int.tdiv ((Ay fields ha).length:Int) 256),IntKind.wrap .u8 (Int.tmod ((Ay fields ha).length:Int) 256)]:List Int)) (enc:=Bp) (css:=[[rI .u8 (IntKind.wrap .u8 (Int.tdiv ((Ay fields ha).length:Int) 256))],[rI .u8 (IntKind.wrap .u8 (Int.tmod ((Ay fields ha).length:Int) 256))]]) (xs:=[.tmp 31,.tmp 38]) EB YG YF rfl rfl rfl ⟨Gw.one rfl (Up.refl _),Gw.one rfl (Up.refl _),trivial⟩ rfl Dr rfl rfl) ?_)))))))))))))));exact XH
     refine HZ (H1:=[.row hd 5 1 (List.map Bp hb)]) [24,25,26,27,28,29,30,31,32,33,34,35,36,37,38,39,0,4,5,14,15] ?_;obtain⟨h0,h1⟩:=Av hz;obtain⟨inf,hinf⟩:=Lp;refine BV (xs:=hb) (ys:=([IntKind.wrap .u8 (Int.tdiv ((Ay fields ha).length:Int) 256),IntKind.wrap .u8 (Int.tmod ((Ay fields ha).length:Int) 256)]:List Int)) (enc:=Bp) (i:=0) EB hinf.1 hinf.2.1 hinf.2.2.1 hinf.2.2.2 rfl rfl rfl rfl rfl (JW.z rfl rfl) Dr I8 h0 rfl (λhD=>?_);refine wa rfl (Ar (Aj (wm rfl (wm rfl (wm rfl (wv (BY (enc:=eS) (ys:=fields) DW CV rfl rfl hf) (wv (BQ Dn rfl rfl) ?_)))))));obtain⟨h4,h5⟩:=Av h1;obtain⟨inf,hinf⟩:=Lp;refine Hb (xs:=hb++([IntKind.wrap .u8 (Int.tdiv ((Ay fields ha).length:Int) 256),IntKind.wrap .u8 (Int.tmod ((Ay fields ha).length:Int) 256)]:List Int)) (i:=0) EB BP hinf.1 hinf.2.1 hinf.2.2.1 hinf.2.2.2 rfl rfl rfl h4 rfl (λh6=>?_);refine wa rfl (Al (AK (AN (Aj ?_))));obtain⟨h7,h8⟩:=Av h5;refine wv (Bi rfl rfl h7) (wm rfl (Al ?_));have h9:=Bk h8 hi;exact Aq (AG (hr,((hb++([IntKind.wrap .u8 (Int.tdiv ((Ay fields ha).length:Int) 256),IntKind.wrap .u8 (Int.tmod ((Ay fields ha).length:Int) 256)]:List Int))++Dt (Ay fields ha),ha+1),h6) ⟨h9,AaX _⟩ (AQ.c rfl (AQ.c rfl (AQ.c rfl (AQ.c rfl AQ.nil)))) (sC sN))
   ·have hA:=AC hj he;refine B9 (A5 ?_);have hB:=Cj hA hi hl;exact A5 (Br (AG (hb,hd) hB (AQ.c rfl AQ.nil) (sC sN)))
  ·rintro⟨hg,hn⟩ hh;refine CR (l':=[(4,rv hn)]) (H':=[.row hn 5 1 (List.map Bp hg)]) rfl rfl ?_;replace hh:JI hg=some r:=hh;unfold JI at hh;refine Bm (AN (Ak (wm rfl (wv (r:=rS (PB hg)) (VO (xs:=hg) (i:=0) EB BP P8 rfl rfl) (wa rfl (wv (r:=rI .i64 0) (Ac rfl) (Ar (Ax ?_))))))));obtain rfl:=Az hh;exact Aw (Dg Tryz.results50 (AJ rfl) (AJ rfl)) (sS sN) ⟨rfl,rfl⟩
theorem RD (F:Nat)(s:Ah)(r:(List Ah)×Int)(h:Jq F s=some r):Fn Tryz.prog GE 55 [rS s] [] (λR H=>R=C5 [Bo 1 (List.map eS r.1),rI .i64 r.2]∧H=[]):=by
 refine enter (n:=64) Tryz.func55 rfl Tryz.ntmps55 rfl (λw Z=>?_);refine Bb (l':=[(0,rS s)]) (H':=[]) rfl rfl ?_;unfold Jq at h;refine Ak (wv (r:=rv (.slice none 0 0)) (Ac rfl) (wv (r:=rI .i64 0) (Ac rfl) (Ar (Am (Ak (wm rfl (wv (Bd BP rfl) (wv (Cp rfl rfl) (Ar (Ap (b:=decide ((s.length:Int)<1)) rfl (λc1=>?_) (λc1=>?_)))))))))))
 ·have h2:=AB c1 h;refine Ak (wv (r:=rv (.slice none 0 0)) (Ac rfl) (wv (r:=rI .i64 14) (Ac rfl) (Ar (Ax (Af (WK.up (d:=2) (r:=Bo 1 (List.map eS ([]:List Ah))) rfl (Up.le (GJ.nil _)) ?_))))));obtain rfl:=Az h2;exact Aw (Dg Rr (AJ rfl) (AJ rfl)) sN ⟨rfl,rfl⟩
 ·have h3:=AC c1 h;refine At (AN (Am (Ak (wm rfl ?_))));obtain⟨g4,h5⟩:=Av h3;refine wv (AV BP rfl rfl g4) (wv (Cl rfl rfl) (Ar (Ap (b:=decide (64<(AT s 0))) rfl (λc6=>?_) (λc6=>?_))))
  ·have h7:=AB c6 h5;refine Ak (wv (r:=rv (.slice none 0 0)) (Ac rfl) (wv (r:=rI .i64 13) (Ac rfl) (Ar (Ax (Af (WK.up (d:=2) (r:=Bo 1 (List.map eS ([]:List Ah))) rfl (Up.le (GJ.nil _)) ?_))))));obtain rfl:=Az h7;exact Aw (Dg Rr (AJ rfl) (AJ rfl)) sN ⟨rfl,rfl⟩
  ·have h8:=AC c6 h5;refine At (AN (Ak (wv (r:=rv (.slice none 0 0)) (Ac rfl) (By (wv (r:=rI .i64 1) (Ac rfl) (Ar (Am (Ak (wm rfl (wv (AV BP rfl rfl g4) ?_))))))))));obtain⟨g9,hx⟩:=Av h8;refine wv (D1 ⟨_,P8⟩ P9 rfl g9) (wv (r:=rI .i64 0) (Au rfl) (Ar (AO (WC.nilrow (e:=9) (sz:=1) ?_))));obtain⟨hy,hz,hg⟩:=AL hx;refine BA (S:=Nat×((List Ah)×Int×Int)×(Value)) (V:=((List Ah)×Int)×(Value)) 0 (λσ=>Cg (λσ=>Cs s σ.1 σ.2.1 σ.2.2) σ.1 σ.2.1=some hy) (λσ=>[(0,rS s),(4,rv σ.2.2),(5,rI .i64 σ.2.1.2.1),(15,rI .i64 (AT s 0)),(16,rI .i64 σ.2.1.2.2)]) (λσ=>[.row σ.2.2 9 1 (List.map eS σ.2.1.1)]) (λσ=>σ.1) (F,(([]:List Ah),1,0),(.slice none 0 0         )) hz (AQ.c5 rfl rfl rfl rfl rfl AQ.nil) (sC sN) (λσ=>Ej s σ.1.1 σ.1.2=some r) (λσ=>[(0,rS s),(4,rv σ.2),(5,rI .i64 σ.1.2)]) (λσ=>[.row σ.2 9 1 (List.map eS σ.1.1)]) ?_ ?_
   ·rintro⟨gp,⟨hb,ha,hh⟩,hi⟩ h0;refine Bb (l':=[(0,rS s),(4,rv hi),(5,rI .i64 ha),(15,rI .i64 (AT s 0)),(16,rI .i64 hh)]) (H':=[.row hi 9 1 (List.map eS hb)]) rfl rfl ?_;obtain⟨h1,rfl,h4,hd,he⟩:=CM h0;replace hd:Cs s hb ha hh=some h4:=hd;unfold Cs at hd;refine Ak (wv (Cp rfl rfl) (Ar (Am (Ap (b:=decide (hh<(AT s 0))) rfl (λhj=>?_) (λhj=>?_)))))
    ·have h6:=AB hj hd;refine At (AN (Am (AO (Am (Ak (wm rfl (wv (Bd BP rfl) (wm rfl ?_))))))));obtain⟨hr,hs⟩:=Av h6;refine wv (Gz rfl rfl hr) (wv (Cp rfl rfl) (Ar (Ap (b:=decide (((s.length:Int)-ha)<2)) rfl (λhk=>?_) (λhk=>?_))))
     ·have h9:=AB hk hs;refine Ak (wv (r:=rv (.slice none 0 0)) (Ac rfl) (wv (r:=rI .i64 14) (Ac rfl) (Ar (Ax (Af (A3 (Af (Af (Bc ?_)))))))));have hA:=B1 h9 he hg;refine A3 (Af (WK.up (d:=2) (r:=Bo 1 (List.map eS ([]:List Ah))) rfl (Up.le (GJ.nil _)) ?_));obtain rfl:=Az hA;exact Aw (Dg Rr (AJ rfl) (AJ rfl)) (sS sN) ⟨rfl,rfl⟩
     ·have hB:=AC hk hs;refine At (AN (Am ?_));obtain⟨hC,hD⟩:=Av hB;obtain⟨hE,hG⟩:=Av hD;obtain⟨hH,hI⟩:=Av hG;obtain⟨hJ,hK⟩:=Av hI;obtain⟨hL,hN⟩:=Av hK;obtain⟨hO,hP⟩:=Av hN;obtain⟨hQ,ht⟩:=Av hP;refine DI [0,4,5,15,16] [⟨[],rS s,0⟩,⟨[],rI .i64 ha,0⟩,⟨[0,1],rI .u8 (AT s ha),0⟩,⟨[2],rI .i64 (AT s ha),0⟩,⟨[3],rI .i64 ((AT s ha)*256),0⟩,⟨[],rS s,0⟩,⟨[],rI .i64 ha,0⟩,⟨[6],rI .i64 (ha+1),0⟩,⟨[5,7],rI .u8 (AT s (ha+1)),0⟩,⟨[8],rI .i64 (AT s (ha+1)),0⟩,⟨[4,9],rI .i64 (((AT s ha)*256)+(AT s (ha+1))),0⟩,⟨[10],rI .i64 (((AT s ha)*256)+(AT s (ha+1))),0⟩] [23,24,25,26,27,28,29,30,31,32,33,6,0,4,5,15,16] ?_ ?_
      ·refine oq (Au rfl) (oq (Au rfl) (oq (AV BP rfl rfl hC) (oq (D1 ⟨_,P8⟩ P9 rfl hE) (oq (Q3 rfl rfl hH) (oq (Au rfl) (oq (Au rfl) (oq (Bi rfl rfl hJ) (oq (AV BP rfl rfl hL) (oq (D1 ⟨_,P8⟩ P9 rfl hO) (oq (Bi rfl rfl hQ) (oq (Ac rfl) ?_)))))))))));exact CL
      refine AN (Am (Ak (wm rfl (wv (Cl rfl rfl) (Ar (Ap (b:=decide (4000<(((AT s ha)*256)+(AT s (ha+1))))) rfl (λhl=>?_) (λhl=>?_)))))))
      ·have hR:=AB hl ht;refine Ak (wv (r:=rv (.slice none 0 0)) (Ac rfl) (wv (r:=rI .i64 13) (Ac rfl) (Ar (Ax (Af (A3 (Af (Af (Bc ?_)))))))));have hS:=B1 hR he hg;refine A3 (Af (WK.up (d:=2) (r:=Bo 1 (List.map eS ([]:List Ah))) rfl (Up.le (GJ.nil _)) ?_));obtain rfl:=Az hS;exact Aw (Dg Rr (AJ rfl) (AJ rfl)) (sS sN) ⟨rfl,rfl⟩
      ·have hT:=AC hl ht;refine At (AN (Am (Ak (wm rfl (wv (Bd BP rfl) (wm rfl (wv (Gz rfl rfl hr) ?_)))))));obtain⟨hU,hu⟩:=Av hT;refine wv (Gz rfl rfl hU) (wm rfl (wv (Cp rfl rfl) (Ar (Ap (b:=decide ((((s.length:Int)-ha)-2)<(((AT s ha)*256)+(AT s (ha+1))))) rfl (λhm=>?_) (λhm=>?_)))))
       ·have hV:=AB hm hu;refine Ak (wv (r:=rv (.slice none 0 0)) (Ac rfl) (wv (r:=rI .i64 14) (Ac rfl) (Ar (Ax (Af (A3 (Af (Af (Bc ?_)))))))));have hW:=B1 hV he hg;refine A3 (Af (WK.up (d:=2) (r:=Bo 1 (List.map eS ([]:List Ah))) rfl (Up.le (GJ.nil _)) ?_));obtain rfl:=Az hW;exact Aw (Dg Rr (AJ rfl) (AJ rfl)) (sS sN) ⟨rfl,rfl⟩
       ·have hX:=AC hm hu;refine At (AN (Ak (wm rfl (wm rfl (wm rfl ?_)))));obtain⟨hn,hY⟩:=Av hX;refine wv (Bi rfl rfl hn) (wm rfl (wv (Bi rfl rfl hn) (wm rfl ?_)));obtain⟨hw,hZ⟩:=Av hY;refine wv (Bi rfl rfl hw) ?_;obtain⟨ga,gb⟩:=Av hZ;obtain⟨gc,gd⟩:=Av gb;refine wv (DN BP rfl rfl rfl ga gc) (AY (ys:=([List.take (Int.toNat ((ha+2)+(((AT s ha)*256)+(AT s (ha+1))))-Int.toNat (ha+2)) (List.drop (Int.toNat (ha+2)) s)]:List Ah)) (enc:=eS) (css:=[[rS (List.take (Int.toNat ((ha+2)+(((AT s ha)*256)+(AT s (ha+1))))-Int.toNat (ha+2)) (List.drop (Int.toNat (ha+2)) s))]]) (xs:=[.tmp 51]) DW CV Z7 rfl rfl rfl ⟨Gw.one rfl (Up.refl _),trivial⟩ rfl K5 rfl rfl rfl (λgq=>?_));obtain⟨ge,gf⟩:=Av gd;obtain⟨inf,hinf⟩:=Y4;refine BV (xs:=hb) (ys:=([List.take (Int.toNat ((ha+2)+(((AT s ha)*256)+(AT s (ha+1))))-Int.toNat (ha+2)) (List.drop (Int.toNat (ha+2)) s)]:List Ah)) (enc:=eS) (i:=1) DW hinf.1 hinf.2.1 hinf.2.2.1 hinf.2.2.2 rfl rfl rfl rfl rfl (JW.w (i:=0) rfl rfl) K5 W7 ge rfl (λgg=>?_);refine wa rfl (Ar (Aj (wm rfl (wv (Bi rfl rfl hn) (wm rfl (wv (Bi rfl rfl hw) (wa rfl (Al (AK (AN (Aj ?_)))))))))));obtain⟨gh,gi⟩:=Av gf;refine wv (Bi rfl rfl gh) (wm rfl (Al ?_));have gj:=Bk gi he;exact Aq (AG (h1,(hb++([List.take (Int.toNat ((ha+2)+(((AT s ha)*256)+(AT s (ha+1))))-Int.toNat (ha+2)) (List.drop (Int.toNat (ha+2)) s)]:List Ah),(ha+2)+(((AT s ha)*256)+(AT s (ha+1))),hh+1),gg) ⟨gj,AaX _⟩ (AQ.c5 rfl rfl rfl rfl rfl AQ.nil) (sC (sS sN)))
    ·have gk:=AC hj hd;refine B9 (A5 ?_);have gl:=Cj gk he hg;exact A5 (Br (AG ((hb,ha),hi) gl (AQ.c rfl (AQ.c rfl (AQ.c rfl AQ.nil))) (sC sN)))
   ·rintro⟨⟨ho,hp⟩,v146⟩ hf;refine CR (l':=[(0,rS s),(4,rv v146),(5,rI .i64 hp)]) (H':=[.row v146 9 1 (List.map eS ho)]) rfl rfl ?_;replace hf:Ej s ho hp=some r:=hf;unfold Ej at hf;refine Bm (AN (Am (Ak (wm rfl (wm rfl (wv (Bd BP rfl) (wv (Cp rfl rfl) (Ar (Ap (b:=decide (hp<(s.length:Int))) rfl (λhq=>?_) (λhq=>?_))))))))))
    ·have gm:=AB hq hf;refine Ak (wv (r:=rv (.slice none 0 0)) (Ac rfl) (wv (r:=rI .i64 13) (Ac rfl) (Ar (Ax (Af (WK.up (d:=2) (r:=Bo 1 (List.map eS ([]:List Ah))) rfl (Up.le (GJ.nil _)) ?_))))));obtain rfl:=Az gm;exact Aw (Dg Rr (AJ rfl) (AJ rfl)) (sS sN) ⟨rfl,rfl⟩
    ·have gn:=AC hq hf;refine At (AN (Ak (wm rfl (wa rfl (wv (r:=rI .i64 0) (Ac rfl) (Ar (Ax (WK.freeze (i:=0) rfl (WK.up (d:=2) (r:=Bo 1 (List.map eS ho)) rfl (Up.fact (i:=0) rfl) ?_)))))))));obtain rfl:=Az gn;exact Aw (Dg Rr (AJ rfl) (AJ rfl)) (sS sN) ⟨rfl,rfl⟩
end Go.Proofs.YtkoiaconljdbeaaGreatDoor.Q
namespace Go.Proofs.YtkoiaconljdbeaaGreatDoor
open Go
set_option linter.unusedVariables false
def GC (F:Nat)(t:Ae):Option (Ah×Int):=
 Bx (L5 F t) λr2=>Bj (!decide (r2=0)) (some (([]:Ah),r2)) (Bx (KG F t.fBody) λr8=>Bj (!decide (r8.2=0)) (some (([]:Ah),r8.2)) (AX (Bw .i64 t.fAt)<|Bx (QU F ([t.fID,Lib.itoa t.fAt,t.fTenant,t.fSource,r8.1]:List Ah)) λha=>some (ha.1,ha.2)))
def JC (F:Nat)(s:Ah):Option (Ae×Int):=
 Bx (Lt F s) λr2=>Bj (((!decide (r2.2=0))||(!decide ((r2.1.length:Int)=5)))) (some ((Ae.mk ([]:Ah) 0 ([]:Ah) ([]:Ah) ([]:List Aa)),13)) (AX (CH 1 (r2.1.length:Int))<|AX (DC 1 (Ay r2.1 1).length)<|AX (CH 4 (r2.1.length:Int))<|Bx (KH F (Ay r2.1 4)) λha=>Bj (((!decide ((B6 (Ay r2.1 1))=0))||(!decide (ha.2=0)))) (some ((Ae.mk ([]:Ah) 0 ([]:Ah) ([]:Ah) ([]:List Aa)),13)) (AX (CH 0 (r2.1.length:Int))<|AX (CH 2 (r2.1.length:Int))<|AX (CH 3 (r2.1.length:Int))<|Bx (GC F (Ae.mk (Ay r2.1 0) (Bt (Ay r2.1 1)) (Ay r2.1 2) (Ay r2.1 3) ha.1)) λhb=>Bj (((!decide (hb.2=0))||(!decide (hb.1=s)))) (some ((Ae.mk ([]:Ah) 0 ([]:Ah) ([]:Ah) ([]:List Aa)),13)) (some ((Ae.mk (Ay r2.1 0) (Bt (Ay r2.1 1)) (Ay r2.1 2) (Ay r2.1 3) ha.1),0))))
def Jo (F:Nat)(t:Ae):Option (Ah×Int):=
 Bx (L7 F t) λr2=>Bj (!decide (r2=0)) (some (([]:Ah),r2)) (Bx (KV F t.fBody) λr8=>AX (Bw .i64 t.fAt)<|Bx (Ny F ([t.fID,Lib.itoa t.fAt,t.fTenant,t.fSource,r8.1]:List Ah)) λha=>some (ha.1,ha.2))
def Jp (F:Nat)(s:Ah):Option (Ae×Int):=
 Bx (Jq F s) λr2=>Bj (((!decide (r2.2=0))||(!decide ((r2.1.length:Int)=5)))) (some ((Ae.mk ([]:Ah) 0 ([]:Ah) ([]:Ah) ([]:List Aa)),13)) (AX (CH 1 (r2.1.length:Int))<|AX (DC 1 (Ay r2.1 1).length)<|Bj (!decide ((B6 (Ay r2.1 1))=0)) (some ((Ae.mk ([]:Ah) 0 ([]:Ah) ([]:Ah) ([]:List Aa)),13)) (AX (CH 4 (r2.1.length:Int))<|Bx (KW F (Ay r2.1 4)) λha=>Bj (!decide (ha.2=0)) (some ((Ae.mk ([]:Ah) 0 ([]:Ah) ([]:Ah) ([]:List Aa)),13)) (AX (CH 0 (r2.1.length:Int))<|AX (CH 2 (r2.1.length:Int))<|AX (CH 3 (r2.1.length:Int))<|Bx (L7 F (Ae.mk (Ay r2.1 0) (Bt (Ay r2.1 1)) (Ay r2.1 2) (Ay r2.1 3) ha.1)) λhb=>Bj (!decide (hb=0)) (some ((Ae.mk ([]:Ah) 0 ([]:Ah) ([]:Ah) ([]:List Aa)),13)) (some ((Ae.mk (Ay r2.1 0) (Bt (Ay r2.1 1)) (Ay r2.1 2) (Ay r2.1 3) ha.1),0)))))
end Go.Proofs.YtkoiaconljdbeaaGreatDoor
