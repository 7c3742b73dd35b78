/-
  Texts of the proof, put together: QM, QI, QV, QL, PI, QF, Q6, Q9, WOa, POb, Qy, WOb, POc, WOc, ShelfS, FwI, POd, QK, Qd, Qi, IdS, Qs.
-/
import Derived.Test.YtfobhhegpkinaaaGreatDoorOT3
import Derived.MapKept
import Derived.Maps.RangeRun
import Derived.LoopN
import Derived.Shelf.Sort.Plain
import Derived.Shelf.Slices.CompactS
import Derived.Shelf.Slices.Clone
import Derived.Shelf.Slices.Turned
import Derived.Shelf.Slices.In.SortNone
import Derived.Test.YtfobhhegpkinaaaGreatDoorProg
import Derived.Sort.OwnSorted
import Derived.Lib.OwnBridge
import Derived.Lib.RowBridge
import Derived.Sort.KeysCollected
namespace Go.Proofs.YtfobhhegpkinaaaGreatDoor.Q
open Go Go.RowKit
set_option linter.unusedVariables false
set_option linter.unusedSimpArgs false
theorem Ey (s:ByteArray):MapKept.IsKey .string (.string s):=by simp[MapKept.IsKey]
theorem La.keys {Z:Fz}:∀{f:List (List UInt8×Rp)} {es:List MapEntry},La Z f es→∀x∈es,MapKept.IsKey .string x.key
 | [],[],_,x,hx=>by cases hx
 | p::f,e::es,⟨⟨h1,h2⟩,h3⟩,x,hx=>by
  rcases List.mem_cons.1 hx with rfl | hx
  ·rw[h1];exact Ey _
  ·exact La.keys h3 x hx
theorem La.at {Z:Fz}:∀{f:List (List UInt8×Rp)} {es:List MapEntry},La Z f es→f.length=es.length∧∀(j:Nat) (e:MapEntry),es[j]? =some e→∃k r,f[j]? =some (k,r)∧e.key = .string (B k)∧r.p Z e.val
 | [],[],_=>⟨rfl,λj e h=>by simp at h⟩
 | p::f,e::es,⟨⟨h1,h2⟩,h3⟩=>by
  obtain⟨hl,ha⟩:=La.at h3;refine⟨by simp[hl],λj e' hj=>?_⟩
  cases j with
  | zero=>simp at hj;subst hj;exact⟨p.1,p.2,rfl,h1,h2⟩
  | succ j=>simp at hj;simpa using ha j e' hj
theorem La.of {Z:Fz}:∀{f:List (List UInt8×Rp)} {es:List MapEntry},f.length=es.length→(∀(j:Nat) (e:MapEntry),es[j]? =some e→∃k r,f[j]? =some (k,r)∧e.key = .string (B k)∧r.p Z e.val)→La Z f es
 | [],[],_,_=>trivial
 | p::f,e::es,hl,h=>by
  obtain⟨k,r,h1,h2,h3⟩:=h 0 e rfl;simp at h1;subst h1;exact⟨⟨h2,h3⟩,La.of (by simpa using hl) λj e' hj=>by simpa using h (j+1) e' (by simpa using hj)⟩
 | [],_::_,hl,_=>by simp at hl
 | _::_,[],hl,_=>by simp at hl
theorem La.snoc {Z:Fz}{k:List UInt8}{r:Rp}{e:MapEntry}(h1:e.key = .string (B k))(h2:r.p Z e.val):∀{f:List (List UInt8×Rp)} {es:List MapEntry},La Z f es→La Z (f++[(k,r)]) (es++[e])
 | [],[],_=>⟨⟨h1,h2⟩,trivial⟩
 | p::f,e'::es,⟨h,h3⟩=>⟨h,La.snoc h1 h2 h3⟩
theorem La.filter {Z:Fz}(q:MapEntry→Bool):∀{f:List (List UInt8×Rp)} {es:List MapEntry},La Z f es→∃g,La Z g (es.filter q)∧g.Sublist f
 | [],[],_=>⟨[],trivial,List.Sublist.refl _⟩
 | p::f,e::es,⟨h,h3⟩=>by
  obtain⟨g,hg,hs⟩:=La.filter q h3
  cases hq:q e with
  | true=>exact⟨p::g,by rw[List.filter_cons_of_pos hq];exact⟨h,hg⟩,hs.cons_cons p⟩
  | false=>exact⟨g,by rw[List.filter_cons_of_neg (by simp[hq])];exact hg,hs.cons p⟩
theorem RP {T:Type}:∀{m:List (Al×T)} {k:Al} {r:T},(m.map (·.1)).Nodup→(k,r)∈m→Dy m k=some r
 | p::m,k,r,hn,h=>by
  rw[Ace,List.nodup_cons] at hn;rw[Dy];rcases List.mem_cons.1 h with h | h
  ·subst h;rw[Abt rfl];rfl
  ·have hne : ¬ p.1=k:=λe=>hn.1 (by rw[e];exact List.mem_map.2 ⟨(k,r),h,rfl⟩);rw[Abs hne];exact RP hn.2 h
theorem PI {T:Type}:∀{m:List (Al×T)} {k:Al},(∀p∈m,p.1≠k)→Dy m k=none
 | [],_,_=>rfl
 | p::m,k,h=>by
  rw[Dy,Abs (h p (by simp))];exact PI λq hq=>h q (by simp[hq])
theorem AaK {a b:List UInt8}(h:B a=B b):a=b:=by
 have:=congrArg ByteArray.toList h
 rwa [Gg,Gg] at this
theorem NZ {a b:List UInt8}(h:Value.string (B a) = .string (B b)):a=b:=AaK (by cases h;rfl)
theorem QJ {Z:Fz}{m:List (List UInt8×Rp)}{es:List MapEntry}{ck:Nat}(h:ES Z m es ck)(k:List UInt8) :
  (Instr.findNow .string (.string (B k)) es 0=some none∧Dy m k=none∧∀p∈m,p.1≠k)∨∃j e r,Instr.findNow .string (.string (B k)) es 0=some (some (j,e.val))∧es[j]? =some e∧e.key = .string (B k)∧Dy m k=some r∧r.p Z e.val:=by
 obtain⟨h1,h2,h3,f,h4,h5⟩:=h;obtain⟨hl,ha⟩:=h5.at;rcases MapKept.findNow_spec (Ey (B k)) es 0 h5.keys with⟨q1,q2⟩ | ⟨j,e,q1,q2,q3⟩
 ·have hne:∀p∈m,p.1≠k:=λp hp e=>by
   obtain⟨j,hj⟩:=List.mem_iff_getElem?.1 (h4.symm.subset hp);have hjl:j<es.length:=by rw[← hl];exact(List.getElem?_eq_some_iff.1 hj).1
   obtain⟨k',r',e1,e2,_⟩:=ha j es[j] (Abz hjl);rw[hj] at e1;cases e1;exact q2 es[j] (List.getElem_mem hjl) (by rw[e2,← e])
  exact .inl ⟨q1,PI hne,hne⟩
 ·obtain⟨k',r,e1,e2,e3⟩:=ha j e q2;rw[q3] at e2;obtain rfl:=NZ e2;exact .inr ⟨j,e,r,by simpa using q1,q2,q3,RP h1 (h4.subset (AbA e1)),e3⟩
section
variable {P : Program} {n : Nat} {c : Cx} {ops : Array Oper} {Q : Exit → Act → World → Prop} {rest : List Oper} {l : Fr} {H : List Ent} {d : Nat} {d' : Option Nat} {ty t kt et rty : TypeId} {pos : String} {af : Array Edge} {g : Option (Nat × Bool)} {x y u : Operand} {K : Act → World → Prop} {cx : Code}
variable {T : Type} {enc : T → Rp} {xs : List (Al × T)} {z : T} {k : Al} {zv : Value} {i b : Nat}
theorem HX {Z:Fz}{w:World}{m:List (List UInt8×Rp)}{rz:Rp}(ht:P.underlying t=some (.map kt et))(hk:P.underlying kt=some .string)(hz:∀w,(zeroValue et).run P w = .ok zv w)(hzr:rz.p Z zv)(hm:(Ent.map b m).holds Z w)(ok:Bool) :
  ∃v,((Dy m k).getD rz).p Z v∧(Instr.lookup t (.map (some b)) (.string (B k)) ok).run P w = .ok (if ok then .tuple #[v,.bool (Dy m k).isSome] else v) w:=by
 obtain⟨es,ck,h1,h2⟩:=hm;rcases QJ h2 k with⟨q1,q2,_⟩ | ⟨j,e,r,q1,_,_,q2,q3⟩
 ·exact⟨zv,by rw[q2];exact hzr,by simp[Instr.lookup,run_underlying ht,MapKept.run_getObj_map h1,MapKept.run_checkKey hk (Ey _),MapKept.run_findKey hk q1,hz,q2]⟩
 ·exact⟨e.val,by rw[q2];exact q3,by simp[Instr.lookup,run_underlying ht,MapKept.run_getObj_map h1,MapKept.run_checkKey hk (Ey _),MapKept.run_findKey hk q1,q2]⟩
theorem OA (enc:T→Rp)(xs:List (Al×T))(k:Al)(z:T):(Dy (AF enc xs) k).getD (enc z)=enc (BL xs k z):=by
 rw[LU];unfold BL;cases Dy xs k<;>rfl
theorem Tl (enc:T→Rp)(xs:List (Al×T))(k:Al):(Dy (AF enc xs) k).isSome=Gj xs k:=by
 rw[LU];unfold Gj;cases Dy xs k<;>rfl
theorem Q1 (ht:P.underlying t=some (.map kt et))(hk:P.underlying kt=some .string)(hz:∀w,(zeroValue et).run P w = .ok zv w)(hzr:∀Z,(enc z).p Z zv)(hx:ev l x=some (rv (.map (some b))))(hi:H[i]? =some (.map b (AF enc xs)))(hy:ev l y=some (rS k)) :
  B0 P n c l H { dst:=d',op:=.lookup t x y true,type:=ty,pos:=pos,after:=af,guard:=g } (C7 [enc (BL xs k z),rB (Gj xs k)]):=λa w Z ha hw=>by
 obtain⟨v,h1,h2⟩:=HX (k:=k) ht hk hz (hzr Z) (hw.ent hi) true;rw[OA] at h1;refine⟨.tuple #[v,.bool (Gj xs k)],⟨[v,.bool (Gj xs k)],rfl,h1,rfl,trivial⟩,?_⟩;rw[Tl] at h2;simp[execOp,ha.eval hx,ha.eval hy,h2]
theorem Mx (ht:P.underlying t=some (.map kt et))(hk:P.underlying kt=some .string)(hz:∀w,(zeroValue et).run P w = .ok zv w)(hzr:∀Z,(enc z).p Z zv)(hx:ev l x=some (rv (.map (some b))))(hi:H[i]? =some (.map b (AF enc xs)))(hy:ev l y=some (rS k)) :
  B0 P n c l H { dst:=d',op:=.lookup t x y false,type:=ty,pos:=pos,after:=af,guard:=g } (enc (BL xs k z)):=λa w Z ha hw=>by
 obtain⟨v,h1,h2⟩:=HX (k:=k) ht hk hz (hzr Z) (hw.ent hi) false;rw[OA] at h1;simp only[Abx,AbH] at h2;exact⟨v,h1,by simp[execOp,ha.eval hx,ha.eval hy,h2]⟩
theorem ES.length {Z:Fz}{m:List (List UInt8×Rp)}{es:List MapEntry}{ck:Nat}(h:ES Z m es ck):es.length=m.length:=by
 obtain⟨_,_,_,f,h4,h5⟩:=h;rw[← h5.at.1,h4.length_eq]
theorem WD {m:List (List UInt8×Rp)}{N:Nat}(ht:P.underlying t=some (.map kt et))(hx:ev l x=some (rv (.map (some b))))(hi:H[i]? =some (.map b m))(hN:m.length=N) :
  B0 P n c l H { dst:=d',op:=.call { callee:=.builtin .len,args:=#[x],argTypes:=#[t] },type:=ty,pos:=pos,after:=af,guard:=g } (rI .i64 N):=λa w Z ha hw=>CW<|by
 obtain⟨es,ck,h1,h2⟩:=hw.ent hi;have hl:es.size=N:=by rw[← hN,← h2.length];simp
 simp[execOp,resolve,invoke,builtin,ha.eval hx,Builtin.len_,run_underlying ht,goInt,MapKept.run_getObj_map h1,hl]
theorem Kg (hn:Nat.blt d n=true)(h:∀b,WL P n c ops Q rest ((d,rv (.map (some b)))::l) (.map b []::H)) :
  WL P n c ops Q ({ dst:=some d,op:=.makeMap t none,type:=ty,pos:=pos,after:=af,guard:=none }::rest) l H:=
 J3 (λa w Z ha hw=>⟨_,w.alloc (.map #[] 0),_,_,Z,by simp[execOp,run_makeMap],Fz.le.refl _,rfl,
  hw.alloc _ (e:=.map w.heap.size []) ⟨#[],0,by simpa using heap_alloc_new w _,by simp,by simp,by simp,[],Abq _,trivial⟩ rfl,h w.heap.size⟩) hn
theorem W2 {m f:List (Al×Rp)}(h:f.Perm m)(k:Al)(r:Rp):(mput f k r).Perm (mput m k r):=h.map _
theorem TV {T:Type}:∀{f:List (Al×T)} {j:Nat} {k:Al} {r0:T} (r:T),(f.map (·.1)).Nodup→f[j]? =some (k,r0)→mput f k r=f.set j (k,r)
 | p::f,0,k,r0,r,hn,h=>by
  simp at h;subst h;rw[Ace,List.nodup_cons] at hn;have:mput f k r=f:=by
   unfold mput;rw[List.map_congr_left (g:=id) (λq hq=>?_),List.map_id];have hne : ¬ q.1=k:=λe=>hn.1 (by rw[← e];exact List.mem_map.2 ⟨q,hq,rfl⟩);rw[Abs hne];rfl
  show(bif decide (k=k) then(k,r) else(k,r0))::mput f k r=_;rw[Abt rfl,this];rfl
 | p::f,j+1,k,r0,r,hn,h=>by
  rw[Ace,List.nodup_cons] at hn;simp at h;have hne : ¬ p.1=k:=λe=>hn.1 (by rw[e];exact List.mem_map.2 ⟨(k,r0),AbA h,rfl⟩);show(bif decide (p.1=k) then(k,r) else p)::mput f k r=_;rw[Abs hne,TV r hn.2 h];rfl
theorem TW {T:Type}:∀{f:List (Al×T)} {j:Nat} {k:Al} {r0:T},(f.map (·.1)).Nodup→f[j]? =some (k,r0)→mdel f k=f.eraseIdx j
 | p::f,0,k,r0,hn,h=>by
  simp at h;subst h;rw[Ace,List.nodup_cons] at hn;have:f.filter (λq=>!decide (q.1=k))=f:=List.filter_eq_self.2 λq hq=>by
   have hne : ¬ q.1=k:=λe=>hn.1 (by rw[← e];exact List.mem_map.2 ⟨q,hq,rfl⟩);simp[hne]
  unfold mdel;rw[List.filter_cons_of_neg (by simp),this];rfl
 | p::f,j+1,k,r0,hn,h=>by
  rw[Ace,List.nodup_cons] at hn;simp at h;have hne : ¬ p.1=k:=λe=>hn.1 (by rw[e];exact List.mem_map.2 ⟨(k,r0),AbA h,rfl⟩);unfold mdel;rw[List.filter_cons_of_pos (by simp[hne])];show p::mdel f k=_;rw[TW hn.2 h];rfl
theorem Vl {T:Type}(m:List (Al×T))(k:Al)(r:T):(mput m k r).map (·.1)=m.map (·.1):=by
 unfold mput;rw[Acm];refine List.map_congr_left λp _=>?_;simp only[Function.comp]
 by_cases h:p.1=k
 ·rw[Abt h];exact h.symm
 ·rw[Abs h];rfl
theorem Vm {T:Type}{m:List (Al×T)}{k:Al}{r:T}(h:Dy m k=some r):Gj m k=true:=by unfold Gj;rw[h];rfl
theorem Vn {T:Type}{m:List (Al×T)}{k:Al}(h:Dy m k=none):Gj m k=false:=by unfold Gj;rw[h];rfl
theorem ES.put {Z:Fz}{m:List (Al×Rp)}{es:List MapEntry}{ck j:Nat}{e:MapEntry}{k:Al}{r0 r:Rp}{v:Value}(h:ES Z m es ck)(he:es[j]? =some e)(hk:e.key = .string (B k))(hm:Dy m k=some r0)(hr:r.p Z v) :
  ES Z (mset m k r) (es.set j { e with key:=.string (B k),val:=v }) ck:=by
 obtain⟨h1,h2,h3,f,h4,h5⟩:=h;obtain⟨hl,ha⟩:=h5.at;have hjl:=(List.getElem?_eq_some_iff.1 he).1;unfold mset;rw[Vm hm,Ab0];obtain⟨k',r',e1,e2,_⟩:=ha j e he;rw[hk] at e2;obtain rfl:=NZ e2;have hfn:(f.map (·.1)).Nodup:=(h4.map (·.1)).nodup_iff.2 h1;refine⟨by rw[Vl];exact h1,?_,?_,f.set j (k,r),?_,La.of (by simp[hl]) λi x hx=>?_⟩
 ·rw[List.map_set];have:(es.map (·.born)).set j e.born=es.map (·.born):=by
   apply List.ext_getElem?;intro i;rw[List.getElem?_set]
   split
   ·rename_i hij;subst hij
    simp[hjl,List.getElem?_eq_some_iff.1 he |>.2]
   ·rfl
  show((es.map (·.born)).set j e.born).Nodup;rw[this];exact h2
 ·intro x hx;rcases List.mem_or_eq_of_mem_set hx with hx | rfl
  ·exact h3 x hx
  ·exact h3 e (AbA he)
 ·have:=W2 h4 k r
  rwa [TV r hfn e1] at this
 ·rw[List.getElem?_set] at hx ⊢
  split at hx
  ·rename_i hij;subst hij
   cases hx
   exact⟨k,r,by rw[Aci rfl,Aci (by rw[hl];exact hjl)],rfl,hr⟩
  ·rename_i hij
   rw[Aca hij];exact ha i x hx
theorem ES.ins {Z:Fz}{m:List (Al×Rp)}{es:List MapEntry}{ck:Nat}{k:Al}{r:Rp}{v:Value}(h:ES Z m es ck)(hm:Dy m k=none)(hk:∀p∈m,p.1≠k)(hr:r.p Z v) :
  ES Z (mset m k r) (es++[{ key:=.string (B k),val:=v,born:=ck }]) (ck+1):=by
 obtain⟨h1,h2,h3,f,h4,h5⟩:=h;unfold mset;rw[Vn hm,Abu];have hp:=PH k r m;refine⟨?_,?_,?_,f++[(k,r)],?_,La.snoc rfl hr h5⟩
 ·rw[(hp.map (·.1)).nodup_iff,Ace,List.nodup_cons];exact⟨λhx=>by obtain⟨p,hp,e⟩:=List.mem_map.1 hx;exact hk p hp e,h1⟩
 ·rw[Ack,List.nodup_append];refine⟨h2,by simp,λa ha b hb e=>?_⟩;simp at hb;subst hb;obtain⟨x,hx,e'⟩:=List.mem_map.1 ha;have:=h3 x hx;omega
 ·intro x hx;rcases List.mem_append.1 hx with hx | hx
  ·have:=h3 x hx;omega
  ·simp at hx;subst hx;exact Aby _
 ·exact(List.perm_append_comm (l₁:=f) (l₂:=[(k,r)])).trans ((h4.cons (k,r)).trans hp.symm)
theorem ES.del {Z:Fz}{m:List (Al×Rp)}{es:List MapEntry}{ck j:Nat}{e:MapEntry}{k:Al}(h:ES Z m es ck)(he:es[j]? =some e)(hk:e.key = .string (B k)):ES Z (mdel m k) (es.eraseIdx j) ck:=by
 obtain⟨h1,h2,h3,f,h4,h5⟩:=h;obtain⟨hl,ha⟩:=h5.at;obtain⟨k',r',e1,e2,_⟩:=ha j e he;rw[hk] at e2;obtain rfl:=NZ e2;have hfn:(f.map (·.1)).Nodup:=(h4.map (·.1)).nodup_iff.2 h1;have hs:=List.eraseIdx_sublist es j;refine⟨h1.sublist ((List.filter_sublist ..).map _),h2.sublist (hs.map _),λx hx=>h3 x (hs.subset hx),f.eraseIdx j,?_,La.of (by rw[List.length_eraseIdx,List.length_eraseIdx,hl]) λi x hx=>?_⟩
 ·rw[← TW hfn e1];exact h4.filter _
 ·rw[List.getElem?_eraseIdx] at hx ⊢
  split at hx
  ·rename_i hij;rw[Aci hij];exact ha i x hx
  ·rename_i hij;rw[Aca hij];exact ha (i+1) x hx
theorem Vo {m:List (Al×Rp)}{k:Al}(hk:∀p∈m,p.1≠k):mdel m k=m:=List.filter_eq_self.2 λp hp=>by simp[hk p hp]
theorem St.mapset {Z:Fz}{w:World}(h:St c H Z w){m m':List (Al×Rp)}(hi:H[i]? =some (.map b m)){es es':Array MapEntry}{ck ck':Nat}(h1:w.heap[b]? =some (.map es ck))(h2:ES Z m' es'.toList ck') :
  St c (H.set i (.map b m')) Z { w with heap:=w.heap.setIfInBounds b (.map es' ck') }:=by
 obtain⟨q1,q2⟩:=MapKept.heap_set (o':=.map es' ck') h1;exact h.set hi rfl rfl rfl (by simp) (λk _ hk=>q2 k (by simpa[Ent.foot] using hk)) ⟨es',ck',q1,h2⟩ (by simp[Ent.foot])
theorem Qm (s:ByteArray):Instr.sameBits 10000 (.string s) (.string s)=true:=by
 show(s ==s)=true;exact(MapKept.bytes_beq s s).2 rfl |> λh=>by simpa using h
theorem Zo {r:Rp}{m:List (Al×Rp)}(ht:P.underlying t=some (.map kt et))(hk:P.underlying kt=some .string)(hx:ev l x=some (rv (.map (some b))))(hi:H[i]? =some (.map b m))(hy:ev l y=some (rS k))(hu:ev l u=some r){H':List Ent}(hH:H.set i (.map b (mset m k r))=H')(h:WL P n c ops Q rest l H') :
  WL P n c ops Q ({ dst:=none,op:=.mapUpdate t x y u,type:=ty,pos:=pos,after:=af,guard:=none }::rest) l H:=
 Rl λa w Z ha hw=>by
  obtain⟨es,ck,h1,h2⟩:=hw.ent hi;have hv:=ha.ev hu;subst hH;rcases QJ h2 k with⟨q1,q2,q3⟩ | ⟨j,e,r0,q1,q2,q3,q4,_⟩
  ·refine⟨_,_,?_,hw.mapset hi h1 (es':=es.push { key:=.string (B k),val:=a.eval u,born:=ck }) (by simpa using h2.ins q2 q3 hv),h⟩;simp[execOp,ha.eval hx,ha.eval hy,Instr.mapUpdate,run_underlying ht,MapKept.run_getObj_map h1,MapKept.run_checkKey hk (Ey _),MapKept.run_findKey hk q1,MapKept.run_setObj_map _ h1]
  ·have hje:es[j]? =some e:=by simpa using q2
   refine⟨_,_,?_,hw.mapset hi h1 (es':=es.modify j λe=>{ e with key:=.string (B k),val:=a.eval u }) (ck':=ck) (by
    have:=h2.put q2 q3 q4 hv;have e1:(es.modify j λe=>{ e with key:=.string (B k),val:=a.eval u }).toList=es.toList.set j { e with key:=.string (B k),val:=a.eval u }:=by
     rw[Array.toList_modify];rw[List.modify_eq_set,q2];rfl
    rw[e1];exact this),h⟩
   have hkey:((es[j]?).map (·.key)).getD (.string (B k)) = .string (B k):=by rw[hje];exact q3
   simp[execOp,ha.eval hx,ha.eval hy,Instr.mapUpdate,run_underlying ht,MapKept.run_getObj_map h1,MapKept.run_checkKey hk (Ey _),MapKept.run_findKey hk q1,MapKept.run_setObj_map _ h1,hkey,Instr.keyThatStays,Qm]
theorem Zb {op:Op}{ty:TypeId}{pos:String}{af:Array Edge}
  (hr:∀a w Z,Ds n l a Z→St c H Z w→∃v w' H',(execOp a.eval { dst:=none,op:=op,type:=ty,pos:=pos,after:=af,guard:=none }).run P w = .ok (.value v) w'∧St c H' Z w'∧WL P n c ops Q rest l H') :
  WL P n c ops Q ({ dst:=none,op:=op,type:=ty,pos:=pos,after:=af,guard:=none }::rest) l H:=λa w Z ha hw=>
 wpList_plain rfl λK hK=>by
  obtain⟨v,w',H',h1,h2,h3⟩:=hr a w Z ha hw;unfold Oper.wp;rw[h1];exact hK _ _ (h3 _ w' Z (ha.put_none _) h2)
theorem Zp {m:List (Al×Rp)}(ht:P.underlying t=some (.map kt et))(hk:P.underlying kt=some .string){kt':TypeId}(hx:ev l x=some (rv (.map (some b))))(hi:H[i]? =some (.map b m))(hy:ev l y=some (rS k)){H':List Ent}(hH:H.set i (.map b (mdel m k))=H')(h:WL P n c ops Q rest l H') :
  WL P n c ops Q ({ dst:=none,op:=.call { callee:=.builtin .delete,args:=#[x,y],argTypes:=#[t,kt'] },type:=ty,pos:=pos,after:=af,guard:=none }::rest) l H:=
 Zb (λa w Z ha hw=>by
  obtain⟨es,ck,h1,h2⟩:=hw.ent hi;subst hH;rcases QJ h2 k with⟨q1,q2,q3⟩ | ⟨j,e,r0,q1,q2,q3,q4,_⟩
  ·refine⟨.tuple #[],_,_,?_,hw.mapset hi h1 (es':=es) (ck':=ck) (by rw[Vo q3];exact h2),h⟩;simp[execOp,resolve,invoke,builtin,ha.eval hx,ha.eval hy,Builtin.delete_,run_underlying ht,MapKept.run_getObj_map h1,MapKept.run_checkKey hk (Ey _),MapKept.run_findKey hk q1,MapKept.run_setObj_map _ h1]
  ·refine⟨.tuple #[],_,_,?_,hw.mapset hi h1 (es':=es.eraseIdxIfInBounds j) (ck':=ck) (by
    have e1:(es.eraseIdxIfInBounds j).toList=es.toList.eraseIdx j:=by simp
    rw[e1];exact h2.del q2 q3),h⟩
   simp[execOp,resolve,invoke,builtin,ha.eval hx,ha.eval hy,Builtin.delete_,run_underlying ht,MapKept.run_getObj_map h1,MapKept.run_checkKey hk (Ey _),MapKept.run_findKey hk q1,MapKept.run_setObj_map _ h1])
theorem HD {v:T}(ht:P.underlying t=some (.map kt et))(hk:P.underlying kt=some .string)(hx:ev l x=some (rv (.map (some b))))(hi:H[i]? =some (.map b (AF enc xs)))(hy:ev l y=some (rS k))(hu:ev l u=some (enc v)){H':List Ent}(hH:H.set i (.map b (AF enc (mset xs k v)))=H')(h:WL P n c ops Q rest l H') :
  WL P n c ops Q ({ dst:=none,op:=.mapUpdate t x y u,type:=ty,pos:=pos,after:=af,guard:=none }::rest) l H:=Zo ht hk hx hi hy hu (by rw[← WY];exact hH) h
theorem TA (ht:P.underlying t=some (.map kt et))(hk:P.underlying kt=some .string){kt':TypeId}(hx:ev l x=some (rv (.map (some b))))(hi:H[i]? =some (.map b (AF enc xs)))(hy:ev l y=some (rS k)){H':List Ent}(hH:H.set i (.map b (AF enc (mdel xs k)))=H')(h:WL P n c ops Q rest l H') :
  WL P n c ops Q ({ dst:=none,op:=.call { callee:=.builtin .delete,args:=#[x,y],argTypes:=#[t,kt'] },type:=ty,pos:=pos,after:=af,guard:=none }::rest) l H:=Zp ht hk hx hi hy (by rw[← Xc];exact hH) h
end
theorem LZ {q:MapEntry→Bool}:∀{l:List MapEntry} {j:Nat} {e:MapEntry},(l.map (·.born)).Nodup→l[j]? =some e→l.filter (λx=>!(x.born ==e.born))=l.eraseIdx j
 | x::l,0,e,hn,h=>by
  simp at h;subst h;rw[Ace,List.nodup_cons] at hn;rw[List.filter_cons_of_neg (by simp),List.filter_eq_self.2 λy hy=>?_];rfl;have:y.born≠x.born:=λe=>hn.1 (by rw[← e];exact List.mem_map.2 ⟨y,hy,rfl⟩);simp[this]
 | x::l,j+1,e,hn,h=>by
  rw[Ace,List.nodup_cons] at hn;simp at h;have hne:x.born≠e.born:=λe'=>hn.1 (by rw[e'];exact List.mem_map.2 ⟨e,AbA h,rfl⟩);rw[List.filter_cons_of_pos (by simp[hne]),LZ (q:=q) hn.2 h];rfl
theorem La.erase {Z:Fz}:∀{f:List (List UInt8×Rp)} {es:List MapEntry} (j:Nat),La Z f es→La Z (f.eraseIdx j) (es.eraseIdx j)
 | [],[],j,_=>by simp[La]
 | p::f,e::es,0,⟨_,h⟩=>h
 | p::f,e::es,j+1,⟨h,h3⟩=>⟨h,La.erase j h3⟩
theorem TK {α:Type}:∀{l:List α} {j:Nat} {a:α},l[j]? =some a→l.Perm (a::l.eraseIdx j)
 | x::l,0,a,h=>by simp at h;subst h;exact Abq _
 | x::l,j+1,a,h=>by
  simp at h;exact((TK h).cons x).trans (List.Perm.swap a x _)
theorem W3 {T:Type}{enc:T→Rp}{ys:List (Al×T)}{f:List (Al×Rp)}{j:Nat}{k:Al}{r:Rp}(h:f.Perm (AF enc ys))(hj:f[j]? =some (k,r)):∃ (p:Al×T) (ys':List (Al×T)),ys.Perm (p::ys')∧p.1=k∧enc p.2=r∧(f.eraseIdx j).Perm (AF enc ys'):=by
 have hm:(k,r)∈AF enc ys:=h.subset (AbA hj);obtain⟨p,hp,e⟩:=List.mem_map.1 hm;simp only[Prod.mk.injEq] at e;obtain⟨a,b,rfl⟩:=List.append_of_mem hp;refine⟨p,a++b,List.perm_middle,e.1,e.2,?_⟩;have h1:f.Perm ((k,r)::f.eraseIdx j):=by
  exact TK hj
 have h2:(AF enc (a++p::b)).Perm ((k,r)::AF enc (a++b)):=by
  have:(AF enc (a++p::b)).Perm (AF enc (p::(a++b))):=List.perm_middle.map _;refine this.trans ?_;show((p.1,enc p.2)::AF enc (a++b)).Perm _;rw[e.1,e.2]
 exact((h1.symm.trans h).trans h2).cons_inv
section
variable {P : Program} {n : Nat} {c : Cx} {ops : Array Oper} {Q : Exit → Act → World → Prop} {rest : List Oper} {l : Fr} {H : List Ent} {d : Nat} {ty t kt et rty : TypeId} {pos : String} {af : Array Edge} {x y u : Operand} {K : Act → World → Prop} {cx : Code}
variable {T : Type} {enc : T → Rp} {xs ys : List (Al × T)} {i b it : Nat} {m lf : List (List UInt8 × Rp)} {cur : Option (List UInt8 × Rp)} {k : Al} {r : Rp}
end
theorem Bo.d1 {Z:Fz}{r0:Rp}{us:List Value}(h:Bo Z [r0] us):∃y0,us=[y0]∧Bo Z [r0] [y0]:=by
 match us,h.length with
 | [y0],_=>exact⟨_,rfl,h⟩
theorem Bo.d4 {Z:Fz}{r0 r1 r2 r3:Rp}{us:List Value}(h:Bo Z [r0,r1,r2,r3] us):∃y0 y1 y2 y3,us=[y0,y1,y2,y3]∧Bo Z [r0,r1,r2,r3] [y0,y1,y2,y3]:=by
 match us,h.length with
 | [y0,y1,y2,y3],_=>exact⟨_,_,_,_,rfl,h⟩
theorem Sh {α:Type}{sz:Nat}:∀{xs:List (List α)} (hs:∀c∈xs,c.length=sz) {k:Nat} {cl:List α},xs[k]? =some cl→∀(off m:Nat),off+m≤sz→((xs.flatten).drop (k*sz+off)).take m=(cl.drop off).take m
 | [],_,k,cl,h,_,_,_=>by simp at h
 | x::r,hs,0,cl,h,off,m,hm=>by
  simp at h;subst h;have hx:=hs x (by simp);simp only[List.flatten_cons,Nat.zero_mul,AbX];rw[List.drop_append_of_le_length (by omega),List.take_append_of_le_length (by simp;omega)]
 | x::r,hs,k+1,cl,h,off,m,hm=>by
  have hx:=hs x (by simp);simp only[List.flatten_cons];have e:(k+1)*sz+off=x.length+(k*sz+off):=by rw[hx,Nat.succ_mul];omega
  rw[e,List.drop_length_add_append];exact Sh (λc hc=>hs c (by simp[hc])) (by simpa using h) off m hm
section
variable {P : Program} {n : Nat} {c : Cx} {ops : Array Oper} {Q : Exit → Act → World → Prop} {rest : List Oper} {l : Fr} {H H' : List Ent} {d : Nat} {d' : Option Nat} {ty t e rty : TypeId} {pos : String} {af : Array Edge} {g : Option (Nat × Bool)} {x y u : Operand} {v : Value} {sz m : Nat}
theorem Ks {α:Type}[Inhabited α]{ys:List α}{enc:α→List Rp}{i off:Nat}{j:Int}{rs:List Rp}(hag:∀w,(isAgg t).run P w = .ok true w)(hsz:∀w,(sizeOf t).run P w = .ok m w)(hx:ev l x=some (rv (E1 sz v j.toNat off)))(hi:H[i]? =some (.row v e sz (ys.map enc)))(hg:CP j (ys.length:Int)=true)
  (hle:Nat.ble (off+m) sz=true) (hr:((enc (Ap ys j)).drop off).take m=rs) :
  B0 P n c l H { dst:=d',op:=.load t x,type:=ty,pos:=pos,after:=af,guard:=g } (BQ rs):=λa w Z ha hw=>by
 obtain⟨hs,us,⟨h1,h2⟩,h3⟩:=hw.ent hi;have h0:=(De hg).1;have hlt:j.toNat<ys.length:=by have:=(De hg).2;omega
 have eat:Ap ys j=ys[j.toNat]:=by simp[Ap,hlt]
 have hle':off+m≤sz:=by simpa using hle
 have hcl:(ys.map enc)[j.toNat]? =some (enc ys[j.toNat]):=by simp[hlt]
 have hcz:(enc ys[j.toNat]).length=sz:=hs _ (AbA hcl);have hseg:=Sh hs hcl off m hle';rw[← eat,hr] at hseg;have h4:=(h3.drop (j.toNat*sz+off)).take m;rw[hseg] at h4;have hrl:rs.length=m:=by rw[← hr,eat];simp;omega
 rcases h2 with⟨rfl,hz⟩ | ⟨b,cap,cur,rfl,_,hg',hcap,hm,hcs,htk⟩
 ·simp at hz;subst hz;simp at hlt
 ·have h5:=run_loadCells_list (P:=P) w ⟨b,j.toNat*sz+off,none⟩ ((us.drop (j.toNat*sz+off)).take m) (λq w' hq=>by
   rw[HA,cell_of_row w b _ cur e (0,0) hg'];rw[AbU] at hq
   split at hq
   ·rw[List.getElem?_drop,← htk,AbU] at hq
    split at hq
    ·simpa using hq
    ·cases hq
   ·cases hq)
  rw[h4.length,hrl] at h5;exact⟨.agg ((us.drop (j.toNat*sz+off)).take m).toArray,⟨_,rfl,h4⟩,by simp[execOp,ha.eval hx,E1,Instr.loadAt,Instr.sureAddr,loadVar,hag,hsz,h5]⟩
def Im (sz:Nat)(v:Value)(j:Nat):Value:=match v with
 | .slice A len cap=>.slice (if cap=j then A else A.map (·.add (j*sz))) (len-j) (cap-j)
 | v=>v
theorem Z2 {α:Type}{ys:List α}{enc:α→List Rp}{i:Nat}{k:IntKind}{j:Int}(ht:P.underlying t=some (.slice e))(hz:∀w,(sizeOf e).run P w = .ok sz w)(hx:ev l x=some (rv v))(hy:ev l y=some (rI k j))(hi:H[i]? =some (.row v e sz (ys.map enc)))(hg:E5 j (ys.length:Int)=true) :
  B0 P n c l H { dst:=d',op:=.slice t x (some y) none none,type:=ty,pos:=pos,after:=af,guard:=g } (rv (Im sz v j.toNat)):=λa w Z ha hw=>CW<|by
 obtain⟨h0,us,⟨h1,h2⟩,h3⟩:=hw.ent hi;have g0:=(BZ hg).1;have g1:=(BZ hg).2;rcases h2 with⟨rfl,hz0⟩ | ⟨b,cap,cur,rfl,_,hb,hcap,hm,hcs,htk⟩
 ·simp at hz0;subst hz0;obtain rfl:j=0:=by simp at g1;omega
  simp[execOp,ha.eval hx,ha.eval hy,Instr.sliceAt,Instr.slice,run_underlying ht,Instr.sliceBounds,Bl (m:=0) _ _ (AbG 0) (AbG 0),hz,Im]
 ·simp only[Ab3] at h1 hcap htk;simp[execOp,ha.eval hx,ha.eval hy,Instr.sliceAt,Instr.slice,run_underlying ht,Instr.sliceBounds,Bl (m:=ys.length) _ _ g0 g1,hz,Im]
theorem OV (zc:List Value)(hz:0<zc.length):∀k,(Builtin.zeroCells zc.toArray k).toList=(List.replicate k zc).flatten:=by
 intro k;have hl:((List.replicate k zc).flatten).length=k*zc.length:=by simp
 apply List.ext_getElem
 ·simp[Builtin.zeroCells]
 ·intro i h1 h2;have hi:i<k*zc.length:=by rw[← hl];exact h2
  have hm:i % zc.length<zc.length:=Nat.mod_lt _ hz;have hq:i/zc.length<k:=by rw[Nat.div_lt_iff_lt_mul hz];exact hi
  have e1:(Builtin.zeroCells zc.toArray k).toList[i]=zc[i % zc.length]:=by
   simp[Builtin.zeroCells,hm]
  have e2:=JR (sz:=zc.length) (vs:=List.replicate k zc) (λc hc=>by rw[List.eq_of_mem_replicate hc]) (i:=i/zc.length) (c:=zc) (by simp[hq]) (j:=i % zc.length) (u:=zc[i % zc.length]) (by simp[hm]);have e3:i/zc.length*zc.length+i % zc.length=i:=Nat.div_add_mod' i zc.length;rw[e3] at e2;rw[e1];exact(Option.some.inj ((Abz h2).symm.trans e2)).symm
theorem Qe {α:Type}{ys:List α}{enc:α→List Rp}{i:Nat}{j:Int}{z0:α}{zz:Value}{zc:List Value}(ht:P.underlying t=some (.slice e))(hzv:∀w,(zeroValue e).run P w = .ok zz w)(hzz:zz.cells.toList=zc)(hzl:zc.length=sz)(hsz:Nat.blt 0 sz=true)(hone:∀v∈zc,v.oneCell'=true)(hzr:∀Z,Bo Z (enc z0) zc)(hel:(enc z0).length=sz)
  (hx:ev l x=some (rv (Im sz v j.toNat))) (hi:H[i]? =some (.row v e sz (ys.map enc))) (hg:E5 j (ys.length:Int)=true) (hH:H.set i (.row v e sz ((ys.take j.toNat++List.replicate (ys.length-j.toNat) z0).map enc))=H') (h:WL P n c ops Q rest l H') :
  WL P n c ops Q ({ dst:=none,op:=.call { callee:=.builtin .clear,args:=#[x],argTypes:=#[t] },type:=ty,pos:=pos,after:=af,guard:=none }::rest) l H:=
 Zb (λa w Z ha hw=>by
  obtain⟨h0,us,⟨h1,h2⟩,h3⟩:=hw.ent hi;have g0:=(BZ hg).1;have g1:=(BZ hg).2;subst hH;have hz0:0<sz:=by simpa using hsz
  have hcells:zz.cells=zc.toArray:=by rw[← hzz]
  rcases h2 with⟨rfl,hz1⟩ | ⟨b,cap,cur,rfl,_,hb,hcap,hm,hcs,htk⟩
  ·simp at hz1;subst hz1;refine⟨.tuple #[],w,_,?_,hw.set (e':=.row (.slice none 0 0) e sz ((([]:List α).take j.toNat++List.replicate (([]:List α).length-j.toNat) z0).map enc)) hi rfl rfl rfl (AbI _) (λ_ _ _=>rfl) ⟨by simp,[],⟨by simp,.inl ⟨rfl,by simp⟩⟩,by simp[Bo]⟩ (by simp[Ent.foot,Value.ownBlock]),h⟩
   ·have e0:Im sz (.slice none 0 0) j.toNat = .slice none 0 0:=by simp[Im]
    simp[execOp,resolve,invoke,builtin,ha.eval hx,e0,Builtin.clear_,run_underlying ht]
  ·simp only[Ab3] at h1 hcap htk;have hjl:j.toNat≤ys.length:=by omega
   by_cases hjn:ys.length=j.toNat
   ·refine⟨.tuple #[],w,_,?_,?_,h⟩
    ·have hn0:ys.length-j.toNat=0:=by omega
     simp only[execOp,resolve,invoke,builtin,ha.eval hx,Im,hn0]
     by_cases hc:cap=j.toNat
     ·simp[ha.eval hx,Im,hn0,hc,Builtin.clear_,run_underlying ht]
     ·simp[ha.eval hx,Im,hn0,hc,Builtin.clear_,run_underlying ht]
    ·have e0:ys.take j.toNat++List.replicate (ys.length-j.toNat) z0=ys:=by rw[← hjn];simp
     rw[e0];have:H.set i (.row (.slice (some ⟨b,0,none⟩) (ys.map enc).length cap) e sz (ys.map enc))=H:=by
      obtain⟨hl,he⟩:=List.getElem?_eq_some_iff.1 hi;rw[← he,List.set_getElem_self]
     rw[this];exact hw
   ·have hc : ¬ cap=j.toNat:=by omega
    obtain⟨q,hq⟩:∃q,ys.length-j.toNat=q+1:=⟨ys.length-j.toNat-1,by omega⟩
    have hin:j.toNat*sz+(q+1)*sz=ys.length*sz:=by rw[← Nat.add_mul];congr 1;omega
    have hlen:((List.replicate (q+1) zc).flatten).length=(q+1)*sz:=by simp[hzl]
    have hcc:ys.length*sz≤cap*sz:=Nat.mul_le_mul_right _ hcap;have h5:=run_storeCells_at P b (j.toNat*sz) e ((List.replicate (q+1) zc).flatten) 0 cur w hb (by rw[hlen];omega) (λv hv=>by
     obtain⟨cl,hcl,hv'⟩:=List.mem_flatten.1 hv;rw[List.eq_of_mem_replicate hcl] at hv';exact hone v hv')
    simp only[Nat.add_zero] at h5;rw[hlen,hin] at h5;refine⟨.tuple #[],w.setRow b (cur.toList.take (j.toNat*sz)++(List.replicate (q+1) zc).flatten++cur.toList.drop (ys.length*sz)).toArray,_,?_,?_,h⟩
    ·have hzc:=OV zc (by omega) (q+1);have e1:(a.eval x) = .slice (some ⟨b,j.toNat*sz,none⟩) (q+1) (cap-j.toNat):=by
      rw[ha.eval hx];simp[Im,hc,hq,HA]
     simp[execOp,resolve,invoke,builtin,e1,Builtin.clear_,run_underlying ht,hzv,hcells,hzc,h5]
    ·refine hw.set hi rfl rfl rfl (by simp[World.setRow]) (λk _ hk=>?_) ⟨?_,us.take (j.toNat*sz)++(List.replicate (q+1) zc).flatten,⟨?_,.inr ⟨b,cap,_,?_,AbW _,setRow_heap w b cur _ e (0,0) hb,?_,hm,?_,?_⟩⟩,?_⟩ (by simp[Ent.foot,Value.ownBlock])
     ·simp only[Ent.foot,Value.ownBlock,Option.mem_toList,Option.mem_def,Option.some.injEq] at hk;simp only[World.setRow,Array.getElem?_modify];rw[Aca hk]
     ·intro cl hcl;rw[Ack] at hcl;rcases List.mem_append.1 hcl with h' | h'
      ·rw[List.map_take] at h';exact h0 cl (List.mem_of_mem_take h')
      ·rw[List.map_replicate] at h';rw[List.eq_of_mem_replicate h'];exact hel
     ·rw[Abr,hlen];simp[Nat.min_eq_left hjl,h1,hq];have:j.toNat*sz≤ys.length*sz:=Nat.mul_le_mul_right _ hjl
      first | rw[← Nat.add_mul] | (rw[Nat.min_eq_left this,← Nat.add_mul])
     ·simp[Nat.min_eq_left hjl];omega
     ·simp;omega
     ·have:j.toNat*sz≤ys.length*sz:=Nat.mul_le_mul_right _ hjl;rw[List.size_toArray,Abr,Abr,hlen,AbY,AbS,Array.length_toList,Nat.min_eq_left (by omega)];omega
     ·have:j.toNat*sz≤ys.length*sz:=Nat.mul_le_mul_right _ hjl;have e2:((ys.take j.toNat++List.replicate (ys.length-j.toNat) z0).map enc).length*sz=(cur.toList.take (j.toNat*sz)++(List.replicate (q+1) zc).flatten).length:=by
       rw[Abr,hlen];simp[Nat.min_eq_left hjl,hq];rw[Nat.min_eq_left (by omega),← Nat.add_mul]
      rw[e2,List.take_left' rfl]
      congr 1
      rw[← htk,List.take_take,Nat.min_eq_left this]
     ·rw[Ack,List.flatten_append,List.map_take,List.map_replicate,hq];refine Bo.append ?_ ?_
      ·have:((ys.map enc).take j.toNat).flatten=(ys.map enc).flatten.take (j.toNat*sz):=by
        clear h3 h1 htk hcs hcap g1 hi hw h5 hin hcc hlen hjn hc hq hjl hm hb;generalize ys.map enc=zs at h0;have key:∀(zs:List (List Rp)) (k:Nat),(∀c∈zs,c.length=sz)→(zs.take k).flatten=zs.flatten.take (k*sz):=by
         intro zs
         induction zs with
         | nil=>intro k _;simp
         | cons z zs ih=>
          intro k hk
          cases k with
          | zero=>simp
          | succ k=>
           have hzl:=hk z (by simp);simp only[List.take_succ_cons,List.flatten_cons];rw[ih k (λc hc=>hk c (by simp[hc]))];have e1:(k+1)*sz=z.length+k*sz:=by rw[hzl,Nat.succ_mul];omega
           rw[e1,List.take_length_add_append]
        exact key zs _ h0
       rw[this];exact h3.take _
      ·clear h5 hin hlen hq;generalize q+1=k
       induction k with
       | zero=>exact trivial
       | succ k ih=>rw[List.replicate_succ,List.replicate_succ,List.flatten_cons,List.flatten_cons];exact(hzr Z).append ih)
end
abbrev Ux:=Nat→Nat→Value×Nat
def Ag (k:Nat)(u u':Ux):Prop:=∀j,j<k→u j=u' j
structure Sy where
 deps:List Nat
 r:Ux→Rp
 lv:Nat:=0
 fx:Bool:=false
 old:List Nat:=[]
def VG (sp:List Sy)(i:Nat):Sy:=sp.getD i { deps:=[],r:=λ_=>rv undef }
def syu (sp:List Sy)(u:Ux):List Sp:=sp.map λs=>⟨s.deps,s.r u,0⟩
def Un:List Sy→Prop
 | []=>True
 | s::r=>(∀u u',Ag s.lv u u'→s.r u=s.r u')∧Un r
theorem Un.at:∀{sp:List Sy},Un sp→∀{i:Nat} {s:Sy},sp[i]? =some s→∀u u',Ag s.lv u u'→s.r u=s.r u'
 | [],_,i,s,h=>by simp at h
 | x::sp,⟨h1,h2⟩,0,s,h=>by simp at h;subst h;exact h1
 | x::sp,⟨h1,h2⟩,i+1,s,h=>Un.at h2 (by simpa using h)
def cnt (S:Nat→Bool)(is:List Nat):Nat:=(is.filter S).length
section
variable (P : Program) (n : Nat) (c : Cx) (opsA : Array Oper) (Q : Exit → Act → World → Prop)
def OpY (l:Fr)(H:List Ent)(o:Oper)(k:Nat)(u:Ux)(r:Ux→Rp)(H1:Ux→List Ent):Prop:=
 ∀a w Z (K:Act→World→Prop),Ds n l a Z→St c H Z w→(∀u' v w' Z',Ag k u u'→Fz.le Z Z'→(r u').p Z' v→St c (H1 u') Z' w'→K (a.put o.dst v) w')→
  Region.wanted o (yielded opsA a.tmps)=true∧o.wp P a w K Q
def ObY (ops:List Oper)(sp:List Sy)(l0 lw:Fr)(is:List Nat)(hs:List (Ux→List Ent))(i:Nat)(o:Oper):Prop:=
 match is.findIdx? (λx=>Nat.beq x i) with
 | some k=>∀u,OpY P n c opsA Q (G7 lw (VG sp i).old (Ct ops (syu sp u) (VG sp i).deps l0)) (hs.getD k (λ_=>[]) u) o k u (VG sp i).r (hs.getD (k+1) (λ_=>[]))
 | none=>if (VG sp i).fx=true then ∀u,EA P n c opsA Q (G7 lw (VG sp i).old (Ct ops (syu sp u) (VG sp i).deps l0)) (hs.getD (VG sp i).lv (λ_=>[]) u) o ((VG sp i).r u) (hs.getD (VG sp i).lv (λ_=>[]) u)
  else ∀u k,k≤is.length→EA P n c opsA Q (G7 lw (VG sp i).old (Ct ops (syu sp u) (VG sp i).deps l0)) (hs.getD k (λ_=>[]) u) o ((VG sp i).r u) (hs.getD k (λ_=>[]) u)
def YY (ops:List Oper)(sp:List Sy)(l0 lw:Fr)(is:List Nat)(hs:List (Ux→List Ent)):Nat→List Oper→Prop
 | i,o::rest=>ObY P n c opsA Q ops sp l0 lw is hs i o∧YY ops sp l0 lw is hs (i+1) rest
 | _,[]=>True
end
section
variable {P : Program} {n : Nat} {c : Cx} {opsA : Array Oper} {Q : Exit → Act → World → Prop} {l l0 lw : Fr} {H : List Ent} {hs : List (Ux → List Ent)} {sp : List Sy} {is : List Nat}
theorem YY.at {ops:List Oper}:∀{k:Nat} {rest:List Oper},YY P n c opsA Q ops sp l0 lw is hs k rest→∀(t:Nat) o,rest[t]? =some o→ObY P n c opsA Q ops sp l0 lw is hs (k+t) o
 | k,o::rest,⟨h1,h2⟩,t,o',ht=>by
  cases t with
  | zero=>simp at ht;subst ht;exact h1
  | succ t=>
   have:=YY.at h2 t o' (by simpa using ht);rw[show k+(t+1)=k+1+t from by omega];exact this
 | _,[],_,t,o,h=>by simp at h
def Za (p:List Ent→Prop)(u:Ux):List (Ux→List Ent)→Prop
 | []=>True
 | f::r=>p (f u)∧Za p u r
theorem Za.at {p:List Ent→Prop}{u:Ux}:∀{hs:List (Ux→List Ent)},Za p u hs→∀k,k<hs.length→p (hs.getD k (λ_=>[]) u)
 | [],_,k,h=>absurd h (Nat.not_lt_zero _)
 | f::r,⟨h1,h2⟩,0,_=>h1
 | f::r,⟨h1,h2⟩,k+1,h=>Za.at h2 k (by simpa using h)
end
section
variable {P : Program} {n : Nat} {c : Cx} {opsA : Array Oper} {Q : Exit → Act → World → Prop} {l : Fr} {H : List Ent} {d : Nat} {x y : Operand} {ty t e : TypeId} {pos : String} {af : Array Edge} {v : Value} {sz : Nat}
end
end Go.Proofs.YtfobhhegpkinaaaGreatDoor.Q
namespace Go.Proofs.YtfobhhegpkinaaaGreatDoor
open Go
end Go.Proofs.YtfobhhegpkinaaaGreatDoor
namespace Go.Proofs.YtfobhhegpkinaaaGreatDoor.Q
open Go Go.RowKit
set_option linter.unusedVariables false
section
variable {P : Program} {n : Nat} {c : Cx} {ops : Array Oper} {Q : Exit → Act → World → Prop} {rest : List Oper} {l : Fr} {H : List Ent} {d : Nat} {d' : Option Nat} {t kt et ty : TypeId} {pos : String} {af : Array Edge} {g : Option (Nat × Bool)} {x y u : Operand} {b i : Nat} {T : Type} {enc : T → Rp} {xs : List (Int × T)} {z : T} {zv : Value}
theorem QZ.push {Z:Fz}{k:Int}{r:Rp}{v:Value}(hv:r.p Z v)(ck:Nat):∀{m:List (Int×Rp)} {es:List MapEntry},QZ Z m es→QZ Z (m++[(k,r)]) (es++[⟨.int .i64 k,v,ck⟩])
 | [],[],_=>⟨⟨rfl,hv⟩,trivial⟩
 | p::m,e::es,⟨h1,h2⟩=>⟨h1,h2.push hv ck⟩
end
set_option linter.unusedSimpArgs false
def ZX (k:Nat)(i:Int)(off:Nat)(Z:Fz)(v:Value):Prop:=if i<0 then v = .pointer none else ∃b,Z.nm k i.toNat=some b∧v = .pointer (some ⟨b,off,none⟩)
def rPt (k:Nat)(i:Int)(off:Nat):Rp:=⟨ZX k i off,fun {Z Z' v} h hp=>by
 unfold ZX at *
 split
 ·rename_i h0;rwa [Aci h0] at hp
 ·rename_i h0;rw[Aca h0] at hp;obtain⟨b,h1,h2⟩:=hp;exact⟨b,h.nm k _ b h1,h2⟩,true,λ_ Z v hp=>by
 change ZX k i off Z v at hp
 unfold ZX at hp
 split at hp
 ·rw[hp];rfl
 ·obtain⟨b,_,h2⟩:=hp;rw[h2];rfl⟩
section
variable {P : Program} {n : Nat} {c : Cx} {ops : Array Oper} {Q : Exit → Act → World → Prop} {rest : List Oper} {l : Fr} {H H' : List Ent} {d : Nat} {d' : Option Nat} {x y : Operand} {ty t t' e : TypeId} {pos : String} {af : Array Edge} {g : Option (Nat × Bool)} {v u : Value} {r : Rp} {sz k : Nat} {pv : Value} {α : Type} [Inhabited α] {xs : List α} {enc : α → List Rp}
theorem Ds.re {a:Act}{Z:Fz}{d:Nat}{q r:Rp}(h:Ds n l a Z)(hl:look l d=some q)(hq:∀v,q.p Z v→r.p Z v):Ds n ((d,r)::l) a Z:=⟨h.size,h.defers,λi u hi=>by
 rw[CJ] at hi
 split at hi
 ·rename_i e;subst e;simp at hi;subst hi
  obtain⟨v,h1,h2⟩:=h.tm d q hl;exact⟨v,h1,hq v h2⟩
 ·exact h.tm i u hi⟩
theorem ZX.of {Z:Fz}{b N:Nat}(h:Z.nm k N=some b):∀v,(rv (.pointer (some ⟨b,0,none⟩))).p Z v→(rPt k (N:Int) 0).p Z v:=λv hv=>by
 show ZX k N 0 Z v;unfold ZX;rw[Aca (by omega)];exact⟨b,by simpa using h,hv⟩
end
def MpZ (m:List (List UInt8×Rp))(Z:Fz)(v:Value):Prop:=(v = .map none∧m=[])∨∃b es ck,v = .map (some b)∧Z b=some (.map es ck)∧ES Z m es.toList ck
def Mg (m:List (List UInt8×Rp)):Rp:=⟨MpZ m,λh h0=>h0.imp id λ⟨b,es,ck,h1,h2,h3⟩=>⟨b,es,ck,h1,h.f b _ h2,h3.mono h⟩,true,λ_ Z v h0=>by rcases h0 with⟨h1,_⟩ | ⟨b,es,ck,h1,_⟩<;>(rw[h1];rfl)⟩
theorem Ym (Z:Fz):(Mg []).p Z (.map none):=.inl ⟨rfl,rfl⟩
section
variable {P : Program} {n : Nat} {c : Cx} {ops opsA : Array Oper} {Q : Exit → Act → World → Prop} {rest : List Oper} {l : Fr} {H : List Ent} {d : Nat} {d' : Option Nat} {ty t kt et rty : TypeId} {pos : String} {af : Array Edge} {g : Option (Nat × Bool)} {x y u : Operand} {K : Act → World → Prop} {cx : Code} {r : Rp}
variable {T : Type} {enc : T → Rp} {xs : List (Al × T)} {z : T} {k : Al} {zv : Value} {i b : Nat}
theorem St.freezeM {Z:Fz}{w:World}(h:St c H Z w){m:List (List UInt8×Rp)}(hi:H[i]? =some (.map b m)):∃Z',Fz.le Z Z'∧St c (.fact (.map (some b)) (Mg m)::H.eraseIdx i) Z' w:=by
 obtain⟨es,ck,hg,hm⟩:=h.ent hi;have hmem:=AbA hi;have hgz:Z b=none:=h.zdis _ hmem b (by simp[Ent.foot])
 let Z':Fz:=⟨λq=>if q=b then some (.map es ck) else Z q,Z.nm⟩
 have hle:Fz.le Z Z':=⟨λq o hb=>by
  have:q≠b:=λe=>by subst e;rw[hgz] at hb;cases hb
  simpa[Z',this] using hb,λ_ _ _ h=>h⟩
 have hfr:=h.front hi;have hd:=List.pairwise_cons.1 hfr.dis;have hs:=hfr.sub (List.sublist_cons_self _ _);have hs':St c (H.eraseIdx i) Z' w:=by
  refine { hs with has:=λen he=>Ent.keep (hs.has en he) hle λ_ _=>rfl,frz:=⟨λq o hb=>?_,h.frz.nm⟩,gst:=hs.gst.names rfl,le:=hs.le.trans hle,new:=λq o hb=>?_,zdis:=λen he k hk=>?_,env:=hs.emono hle hs.env }
  ·by_cases hbg:q=b
   ·subst hbg;simp[Z'] at hb;rw[← hb];exact hg
   ·simp[Z',hbg] at hb;exact h.frz q o hb
  ·by_cases hbg:q=b
   ·subst hbg;exact .inr (h.own _ hmem q (by simp[Ent.foot]))
   ·simp[Z',hbg] at hb;exact h.new q o hb
  ·have hkg:k≠b:=λe=>hd.1 en he b (by simp[Ent.foot]) (e▸hk);simp only[Z',hkg,AbH];exact hs.zdis en he k hk
 exact⟨Z',hle,hs'.add rfl rfl rfl (AbI _) (λ_ _=>rfl) (e':=.fact (.map (some b)) (Mg m)) (.inr ⟨b,es,ck,rfl,by simp[Z'],hm.mono hle⟩) (by simp[Ent.foot])⟩
theorem WK.freezeM {m:List (List UInt8×Rp)}(hi:H[i]? =some (.map b m))(h:WK n c K l (.fact (.map (some b)) (Mg m)::H.eraseIdx i)):WK n c K l H:=λa w Z ha hw=>by
 obtain⟨Z',hz,hs⟩:=St.freezeM hw hi;exact h a w Z' (ha.mono hz) hs
theorem WC.freezeM {m:List (List UInt8×Rp)}(hi:H[i]? =some (.map b m))(h:WC P n c cx Q l (.fact (.map (some b)) (Mg m)::H.eraseIdx i)):WC P n c cx Q l H:=λa w Z ha hw=>by
 obtain⟨Z',hz,hs⟩:=St.freezeM hw hi;exact h a w Z' (ha.mono hz) hs
theorem WL.freezeM {m:List (List UInt8×Rp)}(hi:H[i]? =some (.map b m))(h:WL P n c ops Q rest l (.fact (.map (some b)) (Mg m)::H.eraseIdx i)):WL P n c ops Q rest l H:=λa w Z ha hw=>by
 obtain⟨Z',hz,hs⟩:=St.freezeM hw hi;exact h a w Z' (ha.mono hz) hs
theorem MpZ.heap {Z:Fz}{w:World}(hf:Uq Z w){m:List (List UInt8×Rp)}{v:Value}(h:(Mg m).p Z v):(v = .map none∧m=[])∨∃b,v = .map (some b)∧(Ent.map b m).holds Z w:=by
 rcases h with h | ⟨b,es,ck,h1,h2,h3⟩
 ·exact .inl h
 ·exact .inr ⟨b,h1,es,ck,hf b _ h2,h3⟩
theorem Xb {xs:List (Al×T)}(h:AF enc xs=[]):xs=[]:=by
 have:=congrArg List.length h;rw[GC] at this;exact List.length_eq_zero_iff.1 this
theorem WE (ht:P.underlying t=some (.map kt et))(hk:P.underlying kt=some .string)(hz:∀w,(zeroValue et).run P w = .ok zv w)(hzr:∀Z,(enc z).p Z zv)(hx:ev l x=some (Mg (AF enc xs)))(hy:ev l y=some (rS k)) :
  B0 P n c l H { dst:=d',op:=.lookup t x y false,type:=ty,pos:=pos,after:=af,guard:=g } (enc (BL xs k z)):=λa w Z ha hw=>by
 rcases MpZ.heap hw.frz (ha.ev hx) with⟨e1,e2⟩ | ⟨b,e1,hb⟩
 ·obtain rfl:=Xb e2;refine⟨zv,hzr Z,?_⟩;have hf:Instr.findNow .string (.string (B k)) ([]:List MapEntry) 0=some none:=rfl;simp[execOp,e1,ha.eval hy,Instr.lookup,run_underlying ht,MapKept.run_checkKey hk (Ey _),MapKept.run_findKey hk hf,hz]
 obtain⟨v,h1,h2⟩:=HX (k:=k) ht hk hz (hzr Z) hb false;rw[OA] at h1;simp only[Abx,AbH] at h2;exact⟨v,h1,by simp[execOp,e1,ha.eval hy,h2]⟩
end
set_option maxRecDepth 100000
set_option maxHeartbeats 4000000
@[reducible] def Af (x:A3):List Rp:=[rS x.fID,rS x.fTenant,rS x.fCause,At x.fAt,At x.fEffect.fKind,rS x.fEffect.fKey,AY 4 (A4 Ab x.fEffect.fValue),At x.fEffect.fDelay]
theorem C1 (x:A3):(Af x).length=8:=rfl
theorem D8 (x:A3):(Af x).all (·.one)=true:=rfl
@[reducible] def Ah (x:Ar):List Rp:=[At x.fKind,rS x.fKey,AY 4 (A4 Ab x.fValue),At x.fDelay]
theorem D3 (x:Ar):(Ah x).length=4:=rfl
theorem Jy (x:Ar):(Ah x).all (·.one)=true:=rfl
@[reducible] def AV (x:AS):List Rp:=[rS x.fEvent,rS x.fTenant,At x.fAttempt,AY 4 (A4 Ab x.fResult),AY 4 (A4 Ah x.fEffects),At x.fAt]
@[reducible] def Bm (x:(List Al)):List Rp:=[AY 1 (A4 eS x)]
theorem CZ (x:(List Al)):(Bm x).length=1:=rfl
theorem Jj (x:(List Al)):(Bm x).all (·.one)=true:=rfl
theorem QF:∃inf,Tryz.prog.info? 42=some inf∧inf.zero=some (.slice none 0 0)∧inf.size=1∧inf.bytes=24:=by
  have key:(Tryz.prog.info? 42).map (λi=>(i.zero,i.size,i.bytes))=some (some (.slice none 0 0),1,24):=by kernel_rfl
  obtain⟨inf,h1,h2⟩:=Option.map_eq_some_iff.1 key;simp only[Prod.mk.injEq] at h2;exact⟨inf,h1,h2.1,h2.2.1,h2.2.2⟩
theorem Xm:∃inf,Tryz.prog.info? 65=some inf∧inf.zero=some (.agg #[(.int .i64 0),(.string ⟨#[]⟩),(.slice none 0 0),(.int .i64 0)])∧inf.size=4∧inf.bytes=56:=by
  have key:(Tryz.prog.info? 65).map (λi=>(i.zero,i.size,i.bytes))=some (some (.agg #[(.int .i64 0),(.string ⟨#[]⟩),(.slice none 0 0),(.int .i64 0)]),4,56):=by kernel_rfl
  obtain⟨inf,h1,h2⟩:=Option.map_eq_some_iff.1 key;simp only[Prod.mk.injEq] at h2;exact⟨inf,h1,h2.1,h2.2.1,h2.2.2⟩
theorem O8:∃inf,Tryz.prog.info? 67=some inf∧inf.zero=some (.agg #[(.string ⟨#[]⟩),(.string ⟨#[]⟩),(.string ⟨#[]⟩),(.int .i64 0),(.int .i64 0),(.string ⟨#[]⟩),(.slice none 0 0),(.int .i64 0)])∧inf.size=8∧inf.bytes=112:=by
  have key:(Tryz.prog.info? 67).map (λi=>(i.zero,i.size,i.bytes))=some (some (.agg #[(.string ⟨#[]⟩),(.string ⟨#[]⟩),(.string ⟨#[]⟩),(.int .i64 0),(.int .i64 0),(.string ⟨#[]⟩),(.slice none 0 0),(.int .i64 0)]),8,112):=by kernel_rfl
  obtain⟨inf,h1,h2⟩:=Option.map_eq_some_iff.1 key;simp only[Prod.mk.injEq] at h2;exact⟨inf,h1,h2.1,h2.2.1,h2.2.2⟩
theorem Uj (parts:List (Nat×Value)):Tryz.prog.built 65 parts=Instr.fill (λi=>(#[(0,1),(1,1),(2,1),(3,1)]:Array (Nat×Nat))[i]?) #[(.int .i64 0),(.string ⟨#[]⟩),((.slice none 0 0)),(.int .i64 0)] parts:=by kernel_rfl
theorem Pd {n:Nat}{c:Cx}{l:Fr}{H:List Ent}{d:Option Nat}{ty:TypeId}{pos:String}{af:Array Edge}{g:Option (Nat×Bool)}{x0:Operand}{r0:Rp}(h0:ev l x0=some r0)(u0:r0.one=true){x1:Operand}{r1:Rp}(h1:ev l x1=some r1)(u1:r1.one=true):B0 Tryz.prog n c l H { dst:=d,op:=.build 65 #[(0,x0),(1,x1)],type:=ty,pos:=pos,after:=af,guard:=g } (BQ [r0,r1,rv (.slice none 0 0),At 0]):=λa w Z ha _=>by
  have p0:=ha.ev h0;have c0:=B6 (r0.hone u0 Z _ p0);have p1:=ha.ev h1;have c1:=B6 (r1.hone u1 Z _ p1);have hb:Tryz.prog.built 65 [(0,a.eval x0),(1,a.eval x1)]=some #[a.eval x0,a.eval x1,((.slice none 0 0)),(.int .i64 0)]:=by
    rw[Uj];generalize a.eval x0=v0 at *;generalize a.eval x1=v1 at *;simp[Instr.fill,c0,c1]
  refine⟨.agg #[a.eval x0,a.eval x1,((.slice none 0 0)),(.int .i64 0)],⟨[a.eval x0,a.eval x1,((.slice none 0 0)),(.int .i64 0)],rfl,p0,p1,rfl,rfl,trivial⟩,?_⟩;have:=run_build w 65 #[(0,a.eval x0),(1,a.eval x1)] _ (by simpa using hb);simp[execOp,this]
theorem H4 (ys:(List Ac))(r:(List Ac))(h:Jk ys=some r):Fn Tryz.prog GE 41 [AY 4 (A4 Ab ys)] [] (λR H=>R=AY 4 (A4 Ab r)∧H=[]):=by
 refine enter (n:=8) Tryz.func41 Aa Tryz.ntmps41 Aa (λw Z=>?_);unfold Jk at h;refine Ak (wa Aa (Av (An (Ak (wm Aa (wv (UY Co Aa) (Av (NJ Aa (λc1=>?_) (λc1=>?_)))))))))
 ·have e2:ys=[]:=List.map_eq_nil_iff.1 (c1 rfl);have h3:some ([]:List Ac)=some r:=by rw[e2] at h;exact(Sw h).2
  refine Ak (wa Aa (Av (A1 (Ae (WK.up (d:=2) (r:=AY 4 (A4 Ab ([]:List Ac))) Aa (Up.le (KZ.nil _)) ?_)))));obtain rfl:=A5 h3;exact A0 (BJ Tryz.results41 (AM Aa)) sN ⟨Aa,Aa⟩
 ·refine Ay (AP (Ak (Bb (ys:=([]:List Ac)) (enc:=Ab) (css:=[]) (xs:=[]) Co CC Lc Aa Aa Aa trivial Aa BG Aa Aa Aa (λb4=>?_))));refine wm Aa (ck h λg6 h7=>Exists.elim Jc λinf hinf=>Cb (xs:=([]:List Ac)) (ys:=ys) (enc:=Ab) (i:=0) Co hinf.1 hinf.2.1 hinf.2.2.1 hinf.2.2.2 Aa Aa Aa Aa Aa (If.z Aa Aa) BG Df g6 Aa (λv5=>?_));refine wa Aa (Av (A1 (WK.freeze (i:=0) Aa (WK.up (d:=2) (r:=AY 4 (A4 Ab (([]:List Ac)++ys))) Aa (Up.fact (i:=0) Aa) ?_))));obtain rfl:=A5 h7;exact A0 (BJ Tryz.results41 (AM Aa)) (sS sN) ⟨Aa,Aa⟩
theorem Gt (n:Int)(r:Bool)(h:BR n=some r):Fn Tryz.prog GE 54 [At n] [] (λR H=>R=rB r∧H=[]):=by
 refine enter (n:=9) Tryz.func54 Aa Tryz.ntmps54 Aa (λw Z=>?_);unfold BR at h;refine Ak (wa Aa (Av (AH [(2,rB ((decide (0≤n))&&(decide (n≤1073741824))))] [] ?_ ?_)))
 ·refine Ai (wm Aa (wv (GH Aa Aa) (wm Aa (AO (decide (0≤n)) (λc1=>?_) (λc1=>?_)))))
  ·refine wo c1 (wm Aa (wo c1 (wv (KL Aa Aa) (Er Aa c1 Aa (wa Aa (Am ?_))))));exact BV c1
  ·refine wf c1 (wf c1 (wv (r:=rB false) (A8 Aa c1 Aa) (wa Aa (Am ?_))));exact BV c1
 refine A1 ?_;obtain rfl:=A5 h;exact A0 (BJ Tryz.results54 (AM Aa)) sN ⟨Aa,Aa⟩
theorem HJ (k:Int)(r:Bool)(h:EO k=some r):Fn Tryz.prog GE 66 [At k] [] (λR H=>R=rB r∧H=[]):=by
 refine enter (n:=13) Tryz.func66 Aa Tryz.ntmps66 Aa (λw Z=>?_);unfold EO at h;refine Ak (wa Aa (Av (AH [(2,rB ((decide (k=3))||((decide (k=4))||(decide (k=5)))))] [] ?_ ?_)))
 ·refine Ai (wm Aa (wv (B5 Aa Aa) (wm Aa (AO (decide (k=3)) (λc1=>?_) (λc1=>?_)))))
  ·refine wf c1 (wf c1 (wv (r:=rB true) (A2 Aa c1 Aa) (wm Aa (wz Aa Aa (wz Aa Aa (wv (r:=rB true) (A2 (b:=true) Aa Aa Aa) (wa Aa (Am ?_))))))));exact BV c1
  ·refine wo c1 (wm Aa (wo c1 (wv (B5 Aa Aa) (E2 Aa c1 Aa (wm Aa (AO (decide (k=4)) (λc2=>?_) (λc2=>?_)))))))
   ·refine wf c2 (wf c2 (wv (r:=rB true) (A2 Aa c2 Aa) (wa Aa (Am ?_))));exact BV (And.intro c1 c2)
   ·refine wo c2 (wm Aa (wo c2 (wv (B5 Aa Aa) (E2 Aa c2 Aa (wa Aa (Am ?_))))));exact BV (And.intro c1 c2)
 refine A1 ?_;obtain rfl:=A5 h;exact A0 (BJ Tryz.results66 (AM Aa)) sN ⟨Aa,Aa⟩
theorem WO (x:Ar)(r:Bool)(h:Q5 x=some r):Fn Tryz.prog GE 90 [BQ (Ah x)] [] (λR H=>R=rB r∧H=[]):=by
 refine enter (n:=17) Tryz.func90 Aa Tryz.ntmps90 Aa (λw Z=>?_);unfold Q5 at h;refine Ak (C3 Aa Aa (λb1=>?_));refine wa Aa (Av (An (AH [(1,rP b1 0),(10,rB ((decide (x.fKind=3))||(decide (x.fKind=4))))] [.blk b1 (Ah x) 65] ?_ ?_)))
 ·refine Ai (vF BP Aa D4 (vL 0 D5 Aa (wv (B5 Aa Aa) (wm Aa (AO (decide (x.fKind=3)) (λc2=>?_) (λc2=>?_))))))
  ·refine wf c2 (wf c2 (wf c2 (wv (r:=rB true) (A2 Aa c2 Aa) (Am ?_))));exact BV c2
  ·refine wo c2 (vF BP Aa D4 (wo c2 (vL 0 D5 Aa (wo c2 (wv (B5 Aa Aa) (E2 Aa c2 Aa (Am ?_)))))));exact BV c2
 refine cz h Aa (λc3 h4=>?_) (λc3 h5=>?_)
 ·refine Ak (vF BP Aa Cv (vL 0 CD Aa (Cz (rs:=[rS x.fKey]) (r:=rB (Dx x.fKey)) Tryz.call53 Aa (Th x.fKey) Aa Aa (wa Aa (Av (A1 (Ae ?_)))))));obtain rfl:=A5 h4;exact A0 (BJ Tryz.results90 (AM Aa)) (sS sN) ⟨Aa,Aa⟩
 ·refine Ay (AP (Ak (vF BP Aa Cv (vL 0 CD Aa (Cz (rs:=[rS x.fKey]) (r:=rB (HR x.fKey)) VT Aa (YA x.fKey) Aa Aa (wa Aa (Av (A1 ?_))))))));obtain rfl:=A5 h5;exact A0 (BJ Tryz.results90 (AM Aa)) (sS sN) ⟨Aa,Aa⟩
theorem LN (v:(List Ac))(r:Bool)(h:CS v=some r):Fn Tryz.prog GE 91 [AY 4 (A4 Ab v)] [] (λR H=>R=rB r∧H=[]):=by
 refine enter (n:=20) Tryz.func91 Aa Tryz.ntmps91 Aa (λw Z=>?_);unfold CS at h;refine Ak (wa Aa (Av (ck h λg1 h2=>ck h2 λg3 h4=>AH [(2,rB ((decide (1<(v.length:Int)))&&((decide (((Ap v 0).fKind)=5))&&(decide (((Ap v 1).fKind)=4)))))] [] ?_ ?_)))
 ·refine Ai (wm Aa (wv (Bq (ys:=v) (enc:=Ab) Co Aa) (wv (CI Aa Aa) (wm Aa (AO (decide (1<(v.length:Int))) (λc5=>?_) (λc5=>?_))))))
  ·refine wo c5 (wm Aa (wo c5 (wv (By (enc:=Ab) (ys:=v) Co CC Aa Aa (Cr g1 c5)) (wo c5 (wv (Bi B9 Aa DC Aa Aa) (wo c5 (wv (Bg DD Aa Aa) (wo c5 (wv (B5 Aa Aa) (Er Aa c5 Aa (wm Aa (AO (decide (((Ap v 0).fKind)=5)) (λc6=>?_) (λc6=>?_)))))))))))))
   ·refine wo c6 (wm Aa (wo c6 (wv (By (enc:=Ab) (ys:=v) Co CC Aa Aa (Cr (Cr g3 c5) c6)) (wo c6 (wv (Bi B9 Aa DC Aa Aa) (wo c6 (wv (Bg DD Aa Aa) (wo c6 (wv (B5 Aa Aa) (Er Aa c6 Aa (wa Aa (Am ?_))))))))))));exact BV (And.intro c5 c6)
   ·refine wf c6 (wf c6 (wf c6 (wf c6 (wf c6 (wv (r:=rB false) (A8 Aa c6 Aa) (wa Aa (Am ?_)))))));exact BV (And.intro c5 c6)
  ·refine wf c5 (wf c5 (wf c5 (wf c5 (wf c5 (wv (r:=rB false) (A8 Aa c5 Aa) (wm Aa (wz Aa Aa (wz Aa Aa (wz Aa Aa (wz Aa Aa (wz Aa Aa (wv (r:=rB false) (A8 (b:=false) Aa Aa Aa) (wa Aa (Am ?_))))))))))))));exact BV c5
 refine A1 ?_;obtain rfl:=A5 h4;exact A0 (BJ Tryz.results91 (AM Aa)) sN ⟨Aa,Aa⟩
theorem PD (F:Nat)(event:Al)(x:Ar)(i:Int)(r:Int)(h:Kw F event x i=some r):Fn Tryz.prog GE 56 [rS event,BQ (Ah x),At i] [] (λR H=>R=At r∧H=[]):=by
 refine enter (n:=67) Tryz.func56 Aa Tryz.ntmps56 Aa (λw Z=>?_);unfold Kw at h;refine Ak (C3 Aa Aa (λb1=>?_));refine wa Aa (Av (An (AH [(0,rS event),(2,At i),(4,rP b1 0),(17,rB ((decide (x.fKind<1))||(decide (5<x.fKind))))] [.blk b1 (Ah x) 65] ?_ ?_)))
 ·refine Ai (vF BP Aa D4 (vL 0 D5 Aa (wv (C0 Aa Aa) (wm Aa (AO (decide (x.fKind<1)) (λc2=>?_) (λc2=>?_))))))
  ·refine wf c2 (wf c2 (wf c2 (wv (r:=rB true) (A2 Aa c2 Aa) (Am ?_))));exact BV c2
  ·refine wo c2 (vF BP Aa D4 (wo c2 (vL 0 D5 Aa (wo c2 (wv (CI Aa Aa) (E2 Aa c2 Aa (Am ?_)))))));exact BV c2
 refine cz h Aa (λc3 h4=>?_) (λc3 h5=>?_)
 ·refine Ak (wa Aa (Av (A1 (Ae ?_))));obtain rfl:=A5 h4;exact A0 (BJ Ne (AM Aa)) (sS sN) ⟨Aa,Aa⟩
 ·refine Ay (AP (An (Ak (wv (Bf (i:=0) H9 Dl Aa Aa Aa Aa) (ob h5 λr6 e8 h7=>CG Tryz.call90 (WO x r6 e8) Aa (wv (BE Aa) (Av (cz h7 Aa (λc9 hg=>?_) (λc9 hh=>?_)))))))))
  ·refine Ak (wa Aa (Av (A1 (Ae ?_))));obtain rfl:=A5 hg;exact A0 (BJ Ne (AM Aa)) (sS sN) ⟨Aa,Aa⟩
  ·refine Ay (AP (An (Ak (vF BP Aa D4 (vL 0 D5 Aa (wv (B5 Aa Aa) (Av (cz hh Aa (λhi hj=>?_) (λhi hk=>?_)))))))))
   ·refine Ak (vF BP Aa C5 (vL 0 Dt Aa (wv (Bq (ys:=x.fValue) (enc:=Ab) Co Aa) (wv (CI Aa Aa) (Av (cz hj Aa (λhl hm=>?_) (λhl hn=>?_)))))))
    ·refine Ak (wa Aa (Av (A1 (Ae ?_))));obtain rfl:=A5 hm;exact A0 (BJ Ne (AM Aa)) (sS sN) ⟨Aa,Aa⟩
    ·refine Ay (AP (An (ck hn λg17 ho=>AH [(0,rS event),(2,At i),(4,rP b1 0),(42,rB ((decide (x.fKind=5))&&(!(ov (CS x.fValue)))))] [.blk b1 (Ah x) 65] ?_ ?_)))
     ·refine Ai (vF BP Aa D4 (vL 0 D5 Aa (wv (B5 Aa Aa) (wm Aa (AO (decide (x.fKind=5)) (λha=>?_) (λha=>?_))))))
      ·refine wo ha (vF BP Aa C5 (wo ha (vL 0 Dt Aa (wo ha (CG Tryz.call91 (LN x.fValue (ov (CS x.fValue)) (E4 (Cr g17 ha))) Aa (wo ha (wv (BE Aa) (Er Aa ha Aa (Am ?_)))))))));exact BV ha
      ·refine wf ha (wf ha (wf ha (wf ha (wv (r:=rB false) (A8 Aa ha Aa) (Am ?_)))));exact BV ha
     refine cz ho Aa (λc20 hp=>?_) (λc20 hq=>?_)
     ·refine Ak (wa Aa (Av (A1 (Ae ?_))));obtain rfl:=A5 hp;exact A0 (BJ Ne (AM Aa)) (sS sN) ⟨Aa,Aa⟩
     ·refine Ay (AP (An (ck hq λhr hs=>ck hs λht hu=>AH [(0,rS event),(2,At i),(4,rP b1 0),(56,rB (bif !decide (x.fKind=4) then((!decide (x.fDelay=0))||(!(ov (BR x.fDelay)))) else !(ov (BR x.fDelay))))] [.blk b1 (Ah x) 65] ?_ ?_)))
      ·refine Ai (vF BP Aa D4 (vL 0 D5 Aa (wv (BT Aa Aa) (wm Aa (AO (!decide (x.fKind=4)) (λhb=>?_) (λhb=>?_))))))
       ·refine wo hb (vF BP Aa C6 (wo hb (vL 0 CM Aa (wo hb (wv (BT Aa Aa) (Er Aa hb Aa (wm Aa (AO (!decide (x.fDelay=0)) (λhd=>?_) (λhd=>?_)))))))))
        ·refine wf hd (wf hd (wf hd (wf hd (wv (r:=rB true) (A2 Aa hd Aa) (Am ?_)))));exact BV (And.intro hb hd)
        ·refine wo hd (vF BP Aa C6 (wo hd (vL 0 CM Aa (wo hd (CG U1 (Gt x.fDelay (ov (BR x.fDelay)) (E4 (CE (Cr hr hb) hd))) Aa (wo hd (wv (BE Aa) (E2 Aa hd Aa (Am ?_)))))))));exact BV (And.intro hb hd)
       ·refine wf hb (wf hb (wf hb (wv (r:=rB false) (A8 Aa hb Aa) (wm Aa (AE (b:=false) Aa Aa Aa (vF BP Aa C6 (AE (b:=false) Aa Aa Aa (vL 0 CM Aa (AE (b:=false) Aa Aa Aa (CG U1 (Gt x.fDelay (ov (BR x.fDelay)) (E4 (CE ht hb))) Aa (AE (b:=false) Aa Aa Aa (wv (BE Aa) (wv (r:=rB (!(ov (BR x.fDelay)))) (A8 (b:=false) Aa Aa Aa) (Am ?_))))))))))))));exact BV hb
      refine cz hu Aa (λhw hx=>?_) (λhw hy=>?_)
      ·refine Ak (wa Aa (Av (A1 (Ae ?_))));obtain rfl:=A5 hx;exact A0 (BJ Ne (AM Aa)) (sS sN) ⟨Aa,Aa⟩
      ·refine Ay (AP (An (Ak (vF BP Aa D4 (vL 0 D5 Aa (ob hy λhz h0 h1=>CG Tryz.call66 (HJ x.fKind hz h0) Aa (Av (cz h1 Aa (λh2 h3=>?_) (λh2 h6=>?_)))))))))
       ·refine Ak (wm Aa (wm Aa (ck h3 λh8 h9=>ck h9 λhA hB=>Cz (rs:=[rS event,At i]) (r:=C7 [rS (BY event i),At (Cg event i)]) Tryz.call67 Aa (N8 event i h8 hA) Aa Aa (wm Aa (wv (AA Aa Aa) (wv (AA Aa Aa) (wa Aa (wa Aa (Bs (wm Aa (wa Aa (Av (A1 (Ae ?_))))))))))))));obtain rfl:=A5 hB;exact A0 (BJ Ne (AM Aa)) (sS sN) ⟨Aa,Aa⟩
       ·refine Ay (AP (Ak (wa Aa (Av (A1 ?_)))));obtain rfl:=A5 h6;exact A0 (BJ Ne (AM Aa)) (sS sN) ⟨Aa,Aa⟩
   ·refine Ak (vF BP Aa C5 (vL 0 Dt Aa (ob hk λhC hD hE=>CG VS (JF F x.fValue hC hD) Aa (wa Aa (Bs (wm Aa (wv (BT Aa Aa) (Av (cz hE Aa (λc46 hG=>?_) (λc46 hH=>?_))))))))))
    ·refine Ak (wm Aa (wa Aa (Av (A1 (Ae ?_)))));obtain rfl:=A5 hG;exact A0 (BJ Ne (AM Aa)) (sS sN) ⟨Aa,Aa⟩
    ·refine Ay (AP (An (ck hH λhI hJ=>AH [(0,rS event),(2,At i),(4,rP b1 0),(42,rB ((decide (x.fKind=5))&&(!(ov (CS x.fValue)))))] [.blk b1 (Ah x) 65] ?_ ?_)))
     ·refine Ai (vF BP Aa D4 (vL 0 D5 Aa (wv (B5 Aa Aa) (wm Aa (AO (decide (x.fKind=5)) (λc51=>?_) (λc51=>?_))))))
      ·refine wo c51 (vF BP Aa C5 (wo c51 (vL 0 Dt Aa (wo c51 (CG Tryz.call91 (LN x.fValue (ov (CS x.fValue)) (E4 (Cr hI c51))) Aa (wo c51 (wv (BE Aa) (Er Aa c51 Aa (Am ?_)))))))));exact BV c51
      ·refine wf c51 (wf c51 (wf c51 (wf c51 (wv (r:=rB false) (A8 Aa c51 Aa) (Am ?_)))));exact BV c51
     refine cz hJ Aa (λhK hL=>?_) (λhK hN=>?_)
     ·refine Ak (wa Aa (Av (A1 (Ae ?_))));obtain rfl:=A5 hL;exact A0 (BJ Ne (AM Aa)) (sS sN) ⟨Aa,Aa⟩
     ·refine Ay (AP (An (ck hN λhO hP=>ck hP λhQ hR=>AH [(0,rS event),(2,At i),(4,rP b1 0),(56,rB (bif !decide (x.fKind=4) then((!decide (x.fDelay=0))||(!(ov (BR x.fDelay)))) else !(ov (BR x.fDelay))))] [.blk b1 (Ah x) 65] ?_ ?_)))
      ·refine Ai (vF BP Aa D4 (vL 0 D5 Aa (wv (BT Aa Aa) (wm Aa (AO (!decide (x.fKind=4)) (λhe=>?_) (λhe=>?_))))))
       ·refine wo he (vF BP Aa C6 (wo he (vL 0 CM Aa (wo he (wv (BT Aa Aa) (Er Aa he Aa (wm Aa (AO (!decide (x.fDelay=0)) (λhf=>?_) (λhf=>?_)))))))))
        ·refine wf hf (wf hf (wf hf (wf hf (wv (r:=rB true) (A2 Aa hf Aa) (Am ?_)))));exact BV (And.intro he hf)
        ·refine wo hf (vF BP Aa C6 (wo hf (vL 0 CM Aa (wo hf (CG U1 (Gt x.fDelay (ov (BR x.fDelay)) (E4 (CE (Cr hO he) hf))) Aa (wo hf (wv (BE Aa) (E2 Aa hf Aa (Am ?_)))))))));exact BV (And.intro he hf)
       ·refine wf he (wf he (wf he (wv (r:=rB false) (A8 Aa he Aa) (wm Aa (AE (b:=false) Aa Aa Aa (vF BP Aa C6 (AE (b:=false) Aa Aa Aa (vL 0 CM Aa (AE (b:=false) Aa Aa Aa (CG U1 (Gt x.fDelay (ov (BR x.fDelay)) (E4 (CE hQ he))) Aa (AE (b:=false) Aa Aa Aa (wv (BE Aa) (wv (r:=rB (!(ov (BR x.fDelay)))) (A8 (b:=false) Aa Aa Aa) (Am ?_))))))))))))));exact BV he
      refine cz hR Aa (λhS hT=>?_) (λhS hU=>?_)
      ·refine Ak (wa Aa (Av (A1 (Ae ?_))));obtain rfl:=A5 hT;exact A0 (BJ Ne (AM Aa)) (sS sN) ⟨Aa,Aa⟩
      ·refine Ay (AP (An (Ak (vF BP Aa D4 (vL 0 D5 Aa (ob hU λhV hW hX=>CG Tryz.call66 (HJ x.fKind hV hW) Aa (Av (cz hX Aa (λhY hZ=>?_) (λhY ga=>?_)))))))))
       ·refine Ak (wm Aa (wm Aa (ck hZ λgb gc=>ck gc λgd ge=>Cz (rs:=[rS event,At i]) (r:=C7 [rS (BY event i),At (Cg event i)]) Tryz.call67 Aa (N8 event i gb gd) Aa Aa (wm Aa (wv (AA Aa Aa) (wv (AA Aa Aa) (wa Aa (wa Aa (Bs (wm Aa (wa Aa (Av (A1 (Ae ?_))))))))))))));obtain rfl:=A5 ge;exact A0 (BJ Ne (AM Aa)) (sS sN) ⟨Aa,Aa⟩
       ·refine Ay (AP (Ak (wa Aa (Av (A1 ?_)))));obtain rfl:=A5 ga;exact A0 (BJ Ne (AM Aa)) (sS sN) ⟨Aa,Aa⟩
theorem O0 (F:Nat)(c:AS)(r:Int)(h:Gw F c=some r):Fn Tryz.prog GE 27 [BQ (AV c)] [] (λR H=>R=At r∧H=[]):=by
 refine enter (n:=58) Tryz.func27 Aa Tryz.ntmps27 Aa (λw Z=>?_);unfold Gw at h;refine Ak (C3 Aa Aa (λb1=>?_));refine wa Aa (Av (An (AH [(1,rP b1 0),(16,rB ((!(HR c.fEvent))||(!(Dx c.fTenant))))] [.blk b1 (AV c) 34] ?_ ?_)))
 ·refine Ai (vF Cl Aa Cv (vL 0 CD Aa (Cz (rs:=[rS c.fEvent]) (r:=rB (HR c.fEvent)) VT Aa (YA c.fEvent) Aa Aa (wv (BE Aa) (wm Aa (AO (!(HR c.fEvent)) (λc2=>?_) (λc2=>?_)))))))
  ·refine wf c2 (wf c2 (wf c2 (wf c2 (wv (r:=rB true) (A2 Aa c2 Aa) (Am ?_)))));exact BV c2
  ·refine wo c2 (vF Cl Aa Cv (wo c2 (vL 0 CD Aa (wo c2 (Cz (rs:=[rS c.fTenant]) (r:=rB (Dx c.fTenant)) Tryz.call53 Aa (Th c.fTenant) Aa Aa (wo c2 (wv (BE Aa) (E2 Aa c2 Aa (Am ?_)))))))));exact BV c2
 refine cz h Aa (λc3 h4=>?_) (λc3 h5=>?_)
 ·refine Ak (wa Aa (Av (A1 (Ae ?_))));obtain rfl:=A5 h4;exact A0 (BJ Nf (AM Aa)) (sS sN) ⟨Aa,Aa⟩
 ·refine Ay (AP (An (ck h5 λg6 h7=>AH [(1,rP b1 0),(30,rB ((decide (c.fAttempt<1))||((decide (1073741824<c.fAttempt))||(!(ov (BR c.fAt))))))] [.blk b1 (AV c) 34] ?_ ?_)))
  ·refine Ai (vF Cl Aa C6 (vL 0 CM Aa (wv (C0 Aa Aa) (wm Aa (AO (decide (c.fAttempt<1)) (λc8=>?_) (λc8=>?_))))))
   ·refine wf c8 (wf c8 (wf c8 (wv (r:=rB true) (A2 Aa c8 Aa) (wm Aa (wz Aa Aa (wz Aa Aa (wz Aa Aa (wz Aa Aa (wv (r:=rB true) (A2 (b:=true) Aa Aa Aa) (Am ?_))))))))));exact BV c8
   ·refine wo c8 (vF Cl Aa C6 (wo c8 (vL 0 CM Aa (wo c8 (wv (CI Aa Aa) (E2 Aa c8 Aa (wm Aa (AO (decide (1073741824<c.fAttempt)) (λc9=>?_) (λc9=>?_)))))))))
    ·refine wf c9 (wf c9 (wf c9 (wf c9 (wv (r:=rB true) (A2 Aa c9 Aa) (Am ?_)))));exact BV (And.intro c8 c9)
    ·refine wo c9 (vF Cl Aa C6 (wo c9 (vL 0 CM Aa (wo c9 (CG U1 (Gt c.fAt (ov (BR c.fAt)) (E4 (CE (CE g6 c8) c9))) Aa (wo c9 (wv (BE Aa) (E2 Aa c9 Aa (Am ?_)))))))));exact BV (And.intro c8 c9)
  refine cz h7 Aa (λhg hh=>?_) (λhg hi=>?_)
  ·refine Ak (wa Aa (Av (A1 (Ae ?_))));obtain rfl:=A5 hh;exact A0 (BJ Nf (AM Aa)) (sS sN) ⟨Aa,Aa⟩
  ·refine Ay (AP (An (Ak (vF Cl Aa C5 (vL 0 Dt Aa (ob hi λhj hk hl=>CG VS (JF F c.fResult hj hk) Aa (wa Aa (Bs (wm Aa (wv (BT Aa Aa) (Av (cz hl Aa (λhm hn=>?_) (λhm ho=>?_)))))))))))))
   ·refine Ak (wm Aa (wa Aa (Av (A1 (Ae ?_)))));obtain rfl:=A5 hn;exact A0 (BJ Nf (AM Aa)) (sS sN) ⟨Aa,Aa⟩
   ·refine Ay (AP (An (Ak (vF Cl Aa H8 (vL 0 J2 Aa (wv (Bq (ys:=c.fEffects) (enc:=Ah) EV Aa) (wv (CI Aa Aa) (Av (cz ho Aa (λhp hq=>?_) (λhp hr=>?_))))))))))
    ·refine Ak (wa Aa (Av (A1 (Ae ?_))));obtain rfl:=A5 hq;exact A0 (BJ Nf (AM Aa)) (sS sN) ⟨Aa,Aa⟩
    ·refine Ay (AP (An (Ak (vF Cl Aa H8 (vL 0 J2 Aa (wv (Bq (ys:=c.fEffects) (enc:=Ah) EV Aa) (wv (r:=At 0) (Aq Aa) (Av (AJ (ob hr λhs ht hf=>Bu (S:=Nat×(Int)×(Unit)) (V:=(Unit)×(Unit)) 0 (λσ=>Ci (λσ=>EQ F c σ) σ.1 σ.2.1=some hs) (λσ=>[(1,rP b1 0),(42,AY 4 (A4 Ah c.fEffects)),(43,At (c.fEffects.length:Int)),(44,At σ.2.1)]) (λσ=>[.blk b1 (AV c) 34]) (λσ=>σ.1) (F,0,()) ht (AL.c Aa (AL.c Aa (AL.c Aa (AL.c Aa AL.nil)))) (sC sN) (λσ=>I1 =some r) (λσ=>[]) (λσ=>[]) ?_ ?_))))))))))
     ·rintro⟨hJ,ha,⟨⟩⟩ hu;refine BW (l':=[(1,rP b1 0),(42,AY 4 (A4 Ah c.fEffects)),(43,At (c.fEffects.length:Int)),(44,At ha)]) (H':=[.blk b1 (AV c) 34]) Aa Aa ?_;obtain⟨hw,rfl,hx,hb,he⟩:=C4 hu;replace hb:EQ F c ha=some hx:=hb;unfold EQ at hb;refine Ak (wv (C0 Aa Aa) (Av (An (cz hb Aa (λhy hz=>?_) (λhy h0=>?_)))))
      ·refine Ay (AP (An (AJ (Ak (wm Aa (ck hz λh1 h2=>wv (By (enc:=Ah) (ys:=c.fEffects) EV Dl Aa Aa h1) (wv (Di H9 Dl Aa Aa Aa) (Cc (cs:=[At 0,rS ([]:Al),rv (.slice none 0 0),At 0]) Lt Aa Aa (λh3=>?_)))))))));refine wa Aa (Br (i:=0) Dl Aa Aa Aa (Cq.c Aa) Aa Aa (cs':=[At ((Ap c.fEffects ha).fKind),rS ((Ap c.fEffects ha).fKey),AY 4 (A4 Ab ((Ap c.fEffects ha).fValue)),At ((Ap c.fEffects ha).fDelay)]) Aa (H':=[.blk h3 (Ah (Ap c.fEffects ha)) 65,.blk b1 (AV c) 34]) Aa (Bs (vF Cl Aa Cv (vL 1 CD Aa (wv (Bf (i:=0) H9 Dl Aa Aa Aa Aa) (wm Aa (ob h2 λh6 h8 h9=>CG Tryz.call56 (PD F c.fEvent (Ap c.fEffects ha) ha h6 h8) Aa (wa Aa (Bs (wm Aa (wv (BT Aa Aa) (Av (cz h9 Aa (λhA hB=>?_) (λhA hC=>?_))))))))))))))
       ·refine Ak (wm Aa (wa Aa (Av (A1 (AC (Ae (Ae (Bj ?_))))))));have hD:=BB hB he hf;refine AC (Ae ?_);obtain rfl:=A5 hD;exact A0 (BJ Nf (AM Aa)) (sS (sS sN)) ⟨Aa,Aa⟩
       ·refine Ay (AG (AP (Ai (ck hC λhE hG=>wv (Bz Aa Aa hE) (wm Aa (Am ?_))))));have hH:=Bk hG he;exact Aw (AI (hw,ha+1,()) ⟨hH,Aby _⟩ (AL.c Aa (AL.c Aa (AL.c Aa (AL.c Aa AL.nil)))) (sS (sC sN)))
      ·refine Bx (A6 ?_);have hI:=BX h0 he hf;exact A6 (Be (AI ((),()) hI AL.nil (sS sN)))
     ·rintro⟨⟨⟩,⟨⟩⟩ hd;refine Cy (l':=[]) (H':=[]) Aa Aa ?_;replace hd:I1 =some r:=hd;unfold I1 at hd;refine Bc (AP (Ak (wa Aa (Av (A1 ?_)))));obtain rfl:=A5 hd;exact A0 (BJ Nf (AM Aa)) sN ⟨Aa,Aa⟩
theorem Tb (x:Ar)(r:Ar)(h:WM x=some r):Fn Tryz.prog GE 44 [BQ (Ah x)] [] (λR H=>R=BQ (Ah r)∧H=[]):=by
 refine enter (n:=8) Tryz.func44 Aa Tryz.ntmps44 Aa (λw Z=>?_);unfold WM at h;refine Ak (C3 Aa Aa (λb1=>?_));refine Cc (cs:=[At 0,rS ([]:Al),rv (.slice none 0 0),At 0]) Lt Aa Aa (λb2=>?_);refine Bs (vF BP Aa C5 (vL 1 Dt Aa (ob h λr3 e5 h4=>CG SD (H4 x.fValue r3 e5) Aa (vF BP Aa C5 (BA (i:=1) C5 Aa Aa (BD Aa) Aa Aa (cs':=[At x.fKind,rS x.fKey,AY 4 (A4 Ab r3),At x.fDelay]) Aa (H':=[.blk b2 [At 0,rS ([]:Al),rv (.slice none 0 0),At 0] 65,.blk b1 [At x.fKind,rS x.fKey,AY 4 (A4 Ab r3),At x.fDelay] 65]) Aa (Bs (wv (Bf (i:=1) H9 Dl Aa Aa Aa Aa) (Br (i:=0) Dl Aa Aa Aa (Cq.c Aa) Aa Aa (cs':=[At x.fKind,rS x.fKey,AY 4 (A4 Ab r3),At x.fDelay]) Aa (H':=[.blk b2 [At x.fKind,rS x.fKey,AY 4 (A4 Ab r3),At x.fDelay] 65,.blk b1 [At x.fKind,rS x.fKey,AY 4 (A4 Ab r3),At x.fDelay] 65]) Aa (Av (A1 ?_))))))))));obtain rfl:=A5 h4;exact A0 (BJ Tryz.results44 (Io (i:=0) H9 Dl Aa Aa Aa)) (sS (sS sN)) ⟨Aa,Aa⟩
theorem N0 (F:Nat)(v:(List Ac))(r:Al)(h:MS F v=some r):Fn Tryz.prog GE 47 [AY 4 (A4 Ab v)] [] (λR H=>R=rS r∧H=[]):=by
 refine enter (n:=11) Tryz.func47 Aa Tryz.ntmps47 Aa (λw Z=>?_);unfold MS at h;refine Ak (wv (r:=rS ([]:Al)) (Az Aa) (Bs (wm Aa (ob h λr1 e3 h2=>CG Tryz.call80 (U9 F v r1 e3) Aa (wm Aa (wv (AA Aa Aa) (wv (AA Aa Aa) (wa Aa (wa Aa (Bs (wm Aa (wa Aa (Av (A1 ?_))))))))))))));obtain rfl:=A5 h2;exact A0 (BJ Tryz.results47 (AM Aa)) sN ⟨Aa,Aa⟩
theorem Q6 (F:Nat)(records:(List (List Al)))(r:Al×Int)(h:Ov F records=some r):Fn Tryz.prog GE 48 [AY 1 (A4 Bm records)] [] (λR H=>R=C7 [rS r.1,At r.2]∧H=[]):=by
 refine enter (n:=37) Tryz.func48 Aa Tryz.ntmps48 Aa (λw Z=>?_);unfold Ov at h;refine Ak (wv (r:=rS ([]:Al)) (Az Aa) (wa Aa (Bs (wa Aa (Av (An (Ak (wm Aa (wv (Bq (ys:=records) (enc:=Bm) Hg Aa) (wv (r:=At 0) (Aq Aa) (Av (AJ (WC.nilrow (e:=9) (sz:=1) (ob h λhk hl hi=>Bu (S:=Nat×((List Al)×Int)×(Value)) (V:=((List Al))×(Value)) 0 (λσ=>Ci (λσ=>G9 F records σ.1 σ.2) σ.1 σ.2.1=some hk) (λσ=>[(4,rv σ.2.2),(11,AY 1 (A4 Bm records)),(12,At (records.length:Int)),(13,At σ.2.1.2)]) (λσ=>[.row σ.2.2 9 1 (A4 eS σ.2.1.1)]) (λσ=>σ.1) (F,(([]:List Al),0),(.slice none 0 0         )) hl (AL.c Aa (AL.c Aa (AL.c Aa (AL.c Aa AL.nil)))) (sC sN) (λσ=>Hv F σ.1=some r) (λσ=>[(4,rv σ.2)]) (λσ=>[.row σ.2 9 1 (A4 eS σ.1)]) ?_ ?_))))))))))))))
 ·rintro⟨hE,⟨ha,hd⟩,v37⟩ hm;refine BW (l':=[(4,rv v37),(11,AY 1 (A4 Bm records)),(12,At (records.length:Int)),(13,At hd)]) (H':=[.row v37 9 1 (A4 eS ha)]) Aa Aa ?_;obtain⟨hn,rfl,ho,he,hh⟩:=C4 hm;replace he:G9 F records ha hd=some ho:=he;unfold G9 at he;refine Ak (wv (C0 Aa Aa) (Av (An (cz he Aa (λhp hq=>?_) (λhp hr=>?_)))))
  ·refine Ay (AP (An (AJ (Ak (ck hq λhs ht=>wv (By (enc:=Bm) (ys:=records) Hg GN Aa Aa hs) (wv (Bg Mj Aa Aa) (wa Aa (Bs (wm Aa (ob ht λhb hu hw=>CG Tryz.call81 (YJ F (Ap records hd) hb hu) Aa (wm Aa (wv (AA Aa Aa) (wv (AA Aa Aa) (wa Aa (wa Aa (Av (An (Ak (wm Aa (wv (BT Aa Aa) (Av ?_)))))))))))))))))))));refine cz hw Aa (λhx hy=>?_) (λhx hz=>?_)
   ·refine Ak (wv (r:=rS ([]:Al)) (Az Aa) (wa Aa (Av (A1 (Ae (AC (Ae (Ae (Bj ?_)))))))));have h0:=BB hy hh hi;refine AC (Ae ?_);obtain rfl:=A5 h0;exact A0 (DJ Tryz.results48 (AM Aa) (AM Aa)) (sS sN) ⟨Aa,Aa⟩
   ·refine Ay (AP (Ai (wm Aa (wm Aa (Bb (ys:=([hb.1]:List Al)) (enc:=eS) (css:=[[rS hb.1]]) (xs:=[.tmp 25]) Cn Cv PW Aa Aa Aa ⟨D1.one Aa (Up.refl _),trivial⟩ Aa CY Aa Aa Aa (λhG=>?_))))));refine ck hz λh1 h2=>Exists.elim MX λinf hinf=>Cb (xs:=ha) (ys:=([hb.1]:List Al)) (enc:=eS) (i:=1) Cn hinf.1 hinf.2.1 hinf.2.2.1 hinf.2.2.2 Aa Aa Aa Aa Aa (If.w (i:=0) Aa Aa) CY JT h1 Aa (λh3=>?_);refine wa Aa (Am (AG (AP (Ai (ck h2 λh4 h5=>wv (Bz Aa Aa h4) (wm Aa (Am ?_)))))));have h6:=Bk h5 hh;exact Aw (AI (hn,(ha++([hb.1]:List Al),hd+1),h3) ⟨h6,Aby _⟩ (AL.c Aa (AL.c Aa (AL.c Aa (AL.c Aa AL.nil)))) (sC (sS sN)))
  ·refine Bx (A6 ?_);have h7:=BX hr hh hi;exact A6 (Be (AI (ha,v37) h7 (AL.c Aa AL.nil) (sC sN)))
 ·rintro⟨hf,hj⟩ hg;refine Cy (l':=[(4,rv hj)]) (H':=[.row hj 9 1 (A4 eS hf)]) Aa Aa ?_;replace hg:Hv F hf=some r:=hg;unfold Hv at hg;refine Bc (AP (Ak (wm Aa (WL.freeze (i:=0) Aa (WL.up (d:=30) (r:=AY 1 (A4 eS hf)) Aa (Up.fact (i:=0) Aa) (ob hg λh8 h9 hA=>CG Tryz.call82 (YL F hf h8 h9) Aa (wm Aa (wv (AA Aa Aa) (wv (AA Aa Aa) (wa Aa (wa Aa (Av (An (Ak (wm Aa (wv (BT Aa Aa) (Av (cz hA Aa (λhB hC=>?_) (λhB hD=>?_)))))))))))))))))))
  ·refine Ak (wv (r:=rS ([]:Al)) (Az Aa) (wa Aa (Av (A1 (Ae ?_)))));obtain rfl:=A5 hC;exact A0 (DJ Tryz.results48 (AM Aa) (AM Aa)) (sS sN) ⟨Aa,Aa⟩
  ·refine Ay (AP (Ak (wm Aa (wa Aa (wa Aa (Av (A1 ?_)))))));obtain rfl:=A5 hD;exact A0 (DJ Tryz.results48 (AM Aa) (AM Aa)) (sS sN) ⟨Aa,Aa⟩
theorem PC (F:Nat)(c:AS)(r:Al×Int)(h:IR F c=some r):Fn Tryz.prog GE 25 [BQ (AV c)] [] (λR H=>R=C7 [rS r.1,At r.2]∧H=[]):=by
 refine enter (n:=55) Tryz.func25 Aa Tryz.ntmps25 Aa (λw Z=>?_);unfold IR at h;refine Ak (C3 Aa Aa (λb1=>?_));refine wv (r:=rS ([]:Al)) (Az Aa) (wa Aa (Av (An (Ak (wv (Bf (i:=0) Gh Ec Aa Aa Aa Aa) (ob h λr2 e4 h3=>CG U2 (O0 F c r2 e4) Aa (wa Aa (Bs (wm Aa (wv (BT Aa Aa) (Av (cz h3 Aa (λc5 h6=>?_) (λc5 h7=>?_)))))))))))))
 ·refine Ak (wm Aa (wv (r:=rS ([]:Al)) (Az Aa) (wa Aa (Av (A1 (Ae ?_))))));obtain rfl:=A5 h6;exact A0 (DJ XT (AM Aa) (AM Aa)) (sS sN) ⟨Aa,Aa⟩
 ·refine Ay (AP (An (ck h7 λg8 h9=>ck h9 λhl hm=>ob hm λhd hn ho=>Db 13 [1] [⟨[],rP b1 0,none,none,none⟩,⟨[0],rS c.fEvent,none,none,none⟩,⟨[],rP b1 1,none,none,none⟩,⟨[2],rS c.fTenant,none,none,none⟩,⟨[],rP b1 2,none,none,none⟩,⟨[4],At c.fAttempt,none,none,none⟩,⟨[5],rS (Lib.itoa c.fAttempt),none,none,none⟩,⟨[],rP b1 5,none,none,none⟩,⟨[7],At c.fAt,none,none,none⟩,⟨[8],rS (Lib.itoa c.fAt),none,none,none⟩,⟨[],rP b1 3,none,none,none⟩,⟨[10],AY 4 (A4 Ab c.fResult),none,none,none⟩,⟨[11],rS hd,none,none,none⟩] ?_ (λβ=>?_))))
  ·refine CL (A9 Cl Aa Cv Aa Aa) (Gi (AT (i:=0) CD Aa Aa Aa) (CL (A9 Cl Aa Cv Aa Aa) (Gi (AT (i:=0) CD Aa Aa Aa) (CL (A9 Cl Aa C6 Aa Aa) (Gi (AT (i:=0) CM Aa Aa Aa) (KS (Dw (rs:=[At c.fAttempt]) (r:=rS (Lib.itoa c.fAttempt)) NE Aa (E6 c.fAttempt g8) Aa) (CL (A9 Cl Aa C6 Aa Aa) (Gi (AT (i:=0) CM Aa Aa Aa) (KS (Dw (rs:=[At c.fAt]) (r:=rS (Lib.itoa c.fAt)) NE Aa (E6 c.fAt hl) Aa) (CL (A9 Cl Aa C5 Aa Aa) (Gi (AT (i:=0) Dt Aa Aa Aa) (KS (Em Tryz.call47 (N0 F c.fResult hd hn) Aa) ?_))))))))))));exact Pb
  refine Dg (H1:=[.blk b1 (AV c) 34]) [13,14,15,16,17,18,19,20,21,22,23,24,25,1] ?_;refine Bb (ys:=([([99,111,109,109,105,116]:Al),c.fEvent,c.fTenant,Lib.itoa c.fAttempt,Lib.itoa c.fAt,hd]:List Al)) (enc:=eS) (css:=[[rS ([99,111,109,109,105,116]:Al)],[rS c.fEvent],[rS c.fTenant],[rS (Lib.itoa c.fAttempt)],[rS (Lib.itoa c.fAt)],[rS hd]]) (xs:=[.const (.string ⟨#[99,111,109,109,105,116]⟩),.tmp 14,.tmp 16,.tmp 19,.tmp 22,.tmp 25]) Cn Cv PW Aa Aa Aa ⟨D1.one Aa (Up.refl _),D1.one Aa (Up.refl _),D1.one Aa (Up.refl _),D1.one Aa (Up.refl _),D1.one Aa (Up.refl _),D1.one Aa (Up.refl _),trivial⟩ Aa CY Aa Aa Aa (λhN=>?_);refine WL.freeze (i:=0) Aa (Bb (ys:=([([([99,111,109,109,105,116]:Al),c.fEvent,c.fTenant,Lib.itoa c.fAttempt,Lib.itoa c.fAt,hd]:List Al)]:List (List Al))) (enc:=Bm) (css:=[[AY 1 (A4 eS ([([99,111,109,109,105,116]:Al),c.fEvent,c.fTenant,Lib.itoa c.fAttempt,Lib.itoa c.fAt,hd]:List Al))]]) (xs:=[.tmp 26]) Hg GN PX Aa Aa Aa ⟨D1.one Aa (Up.fact (i:=0) Aa),trivial⟩ Aa CZ Aa Aa Aa (λhp=>?_));refine wa Aa (Av (An (Ak (vF Cl Aa H8 (vL 2 J2 Aa (wv (Bq (ys:=c.fEffects) (enc:=Ah) EV Aa) (wv (r:=At 0) (Aq Aa) (Av (AJ (ob ho λhq hr hs=>Bu (S:=Nat×((List (List Al))×Int)×(Value)) (V:=((List (List Al)))×(Value)) 0 (λσ=>Ci (λσ=>Eo F c σ.1 σ.2) σ.1 σ.2.1=some hq) (λσ=>[(5,rv σ.2.2),(29,AY 4 (A4 Ah c.fEffects)),(30,At (c.fEffects.length:Int)),(31,At σ.2.1.2)]) (λσ=>[.row σ.2.2 42 1 (A4 Bm σ.2.1.1)]) (λσ=>σ.1) (F,(([([([99,111,109,109,105,116]:Al),c.fEvent,c.fTenant,Lib.itoa c.fAttempt,Lib.itoa c.fAt,hd]:List Al)]:List (List Al)),0),(.slice (some ⟨hp,0,none⟩) 1 1)) hr (AL.c Aa (AL.c Aa (AL.c Aa (AL.c Aa AL.nil)))) (sC (sS (sS sN))) (λσ=>EG F σ.1=some r) (λσ=>[(5,rv σ.2)]) (λσ=>[.row σ.2 42 1 (A4 Bm σ.1)]) ?_ ?_))))))))))
  ·rintro⟨hO,⟨he,ha⟩,hf⟩ ht;refine BW (l':=[(5,rv hf),(29,AY 4 (A4 Ah c.fEffects)),(30,At (c.fEffects.length:Int)),(31,At ha)]) (H':=[.row hf 42 1 (A4 Bm he)]) Aa Aa ?_;obtain⟨hu,rfl,t80,hh,hk⟩:=C4 ht;replace hh:Eo F c he ha=some t80:=hh;unfold Eo at hh;refine Ak (wv (C0 Aa Aa) (Av (An (cz hh Aa (λhw hx=>?_) (λhw hy=>?_)))))
   ·refine Ay (AP (An (AJ (Ak (ck hx λhz h0=>wv (By (enc:=Ah) (ys:=c.fEffects) EV Dl Aa Aa hz) (wv (Di H9 Dl Aa Aa Aa) (Cc (cs:=[At 0,rS ([]:Al),rv (.slice none 0 0),At 0]) Lt Aa Aa (λhg=>?_))))))));refine Br (i:=0) Dl Aa Aa Aa (Cq.c Aa) Aa Aa (cs':=[At ((Ap c.fEffects ha).fKind),rS ((Ap c.fEffects ha).fKey),AY 4 (A4 Ab ((Ap c.fEffects ha).fValue)),At ((Ap c.fEffects ha).fDelay)]) Aa (H':=[.blk hg (Ah (Ap c.fEffects ha)) 65,.row hf 42 1 (A4 Bm he)]) Aa (Av (ck h0 λh1 h2=>ck h2 λh4 h5=>ob h5 λhb h8 hA=>Db 14 [5,7,29,30,31] [⟨[],rv hf,none,none,none⟩,⟨[],rP hg 0,none,none,none⟩,⟨[1],At ((Ap c.fEffects ha).fKind),none,none,none⟩,⟨[2],rS (Lib.itoa ((Ap c.fEffects ha).fKind)),none,none,none⟩,⟨[],rP hg 1,none,none,none⟩,⟨[4],rS ((Ap c.fEffects ha).fKey),none,none,none⟩,⟨[],rP hg 3,none,none,none⟩,⟨[6],At ((Ap c.fEffects ha).fDelay),none,none,none⟩,⟨[7],rS (Lib.itoa ((Ap c.fEffects ha).fDelay)),none,none,none⟩,⟨[],rP hg 2,none,none,none⟩,⟨[9],AY 4 (A4 Ab ((Ap c.fEffects ha).fValue)),none,none,none⟩,⟨[10],rS hb,none,none,none⟩,⟨[3,5,8,11],AY 1 (A4 eS ([Lib.itoa ((Ap c.fEffects ha).fKind),(Ap c.fEffects ha).fKey,Lib.itoa ((Ap c.fEffects ha).fDelay),hb]:List Al)),none,none,none⟩,⟨[12],AY 1 (A4 Bm ([([Lib.itoa ((Ap c.fEffects ha).fKind),(Ap c.fEffects ha).fKey,Lib.itoa ((Ap c.fEffects ha).fDelay),hb]:List Al)]:List (List Al))),none,none,none⟩] ?_ (λβ=>?_)))
    ·refine CL (Aq Aa) (CL (A9 BP Aa D4 Aa Aa) (Gi (AT (i:=0) D5 Aa Aa Aa) (KS (Dw (rs:=[At ((Ap c.fEffects ha).fKind)]) (r:=rS (Lib.itoa ((Ap c.fEffects ha).fKind))) NE Aa (E6 ((Ap c.fEffects ha).fKind) h1) Aa) (CL (A9 BP Aa Cv Aa Aa) (Gi (AT (i:=0) CD Aa Aa Aa) (CL (A9 BP Aa C6 Aa Aa) (Gi (AT (i:=0) CM Aa Aa Aa) (KS (Dw (rs:=[At ((Ap c.fEffects ha).fDelay)]) (r:=rS (Lib.itoa ((Ap c.fEffects ha).fDelay))) NE Aa (E6 ((Ap c.fEffects ha).fDelay) h4) Aa) (CL (A9 BP Aa C5 Aa Aa) (Gi (AT (i:=0) Dt Aa Aa Aa) (KS (Em Tryz.call47 (N0 F ((Ap c.fEffects ha).fValue) hb h8) Aa) (KS (Ck (ys:=([Lib.itoa ((Ap c.fEffects ha).fKind),(Ap c.fEffects ha).fKey,Lib.itoa ((Ap c.fEffects ha).fDelay),hb]:List Al)) (enc:=eS) (css:=[[rS (Lib.itoa ((Ap c.fEffects ha).fKind))],[rS ((Ap c.fEffects ha).fKey)],[rS (Lib.itoa ((Ap c.fEffects ha).fDelay))],[rS hb]]) (xs:=[.tmp 38,.tmp 40,.tmp 43,.tmp 46]) Cn Cv PW Aa Aa Aa ⟨D1.one Aa (Up.refl _),D1.one Aa (Up.refl _),D1.one Aa (Up.refl _),D1.one Aa (Up.refl _),trivial⟩ Aa CY Aa Aa) (KS (Ck (ys:=([([Lib.itoa ((Ap c.fEffects ha).fKind),(Ap c.fEffects ha).fKey,Lib.itoa ((Ap c.fEffects ha).fDelay),hb]:List Al)]:List (List Al))) (enc:=Bm) (css:=[[AY 1 (A4 eS ([Lib.itoa ((Ap c.fEffects ha).fKind),(Ap c.fEffects ha).fKey,Lib.itoa ((Ap c.fEffects ha).fDelay),hb]:List Al))]]) (xs:=[.tmp 47]) Hg GN PX Aa Aa Aa ⟨D1.one Aa (Up.refl _),trivial⟩ Aa CZ Aa Aa) ?_)))))))))))));exact Pb
    refine Dg (H1:=[.blk hg (Ah (Ap c.fEffects ha)) 65,.row hf 42 1 (A4 Bm he)]) [35,36,37,38,39,40,41,42,43,44,45,46,47,48,5,7,29,30,31] ?_;refine ck hA λhB hC=>Exists.elim QF λinf hinf=>Cb (xs:=he) (ys:=([([Lib.itoa ((Ap c.fEffects ha).fKind),(Ap c.fEffects ha).fKey,Lib.itoa ((Ap c.fEffects ha).fDelay),hb]:List Al)]:List (List Al))) (enc:=Bm) (i:=1) Hg hinf.1 hinf.2.1 hinf.2.2.1 hinf.2.2.2 Aa Aa Aa Aa Aa (If.z Aa Aa) CZ Jj hB Aa (λhD=>?_);refine wa Aa (Am (AG (AP (Ai (ck hC λhE hG=>wv (Bz Aa Aa hE) (wm Aa (Am ?_)))))));have hH:=Bk hG hk;exact Aw (AI (hu,(he++([([Lib.itoa ((Ap c.fEffects ha).fKind),(Ap c.fEffects ha).fKey,Lib.itoa ((Ap c.fEffects ha).fDelay),hb]:List Al)]:List (List Al)),ha+1),hD) ⟨hH,Aby _⟩ (AL.c Aa (AL.c Aa (AL.c Aa (AL.c Aa AL.nil)))) (sC (sS sN)))
   ·refine Bx (A6 ?_);have hI:=BX hy hk hs;exact A6 (Be (AI (he,hf) hI (AL.c Aa AL.nil) (sC sN)))
  ·rintro⟨hi,v76⟩ hj;refine Cy (l':=[(5,rv v76)]) (H':=[.row v76 42 1 (A4 Bm hi)]) Aa Aa ?_;replace hj:EG F hi=some r:=hj;unfold EG at hj;refine Bc (AP (Ak (wm Aa (WL.freeze (i:=0) Aa (WL.up (d:=51) (r:=AY 1 (A4 Bm hi)) Aa (Up.fact (i:=0) Aa) (ob hj λhJ hK hL=>CG Tryz.call48 (Q6 F hi hJ hK) Aa (wv (AA Aa Aa) (wv (AA Aa Aa) (wa Aa (wa Aa (Av (A1 ?_))))))))))));obtain rfl:=A5 hL;exact A0 (DJ XT (AM Aa) (AM Aa)) (sS sN) ⟨Aa,Aa⟩
theorem IQ (F:Nat)(id:Al)(r:Al×Int)(h:EH F id=some r):Fn Tryz.prog GE 29 [rS id] [] (λR H=>R=C7 [rS r.1,At r.2]∧H=[]):=by
 refine enter (n:=13) Tryz.func29 Aa Tryz.ntmps29 Aa (λw Z=>?_);unfold EH at h;refine Ak (wv (r:=rS ([]:Al)) (Az Aa) (wa Aa (Av (An (Ak (wm Aa (Cz (rs:=[rS id]) (r:=rB (HR id)) VT Aa (YA id) Aa Aa (wv (BE Aa) (Av (cz h Aa (λc1 h2=>?_) (λc1 h3=>?_)))))))))))
 ·refine Ak (wv (r:=rS ([]:Al)) (Az Aa) (wa Aa (Av (A1 (Ae ?_)))));obtain rfl:=A5 h2;exact A0 (DJ Tryz.results29 (AM Aa) (AM Aa)) sN ⟨Aa,Aa⟩
 ·refine Ay (AP (Ak (wm Aa (Bb (ys:=([([97,99,107]:Al),id]:List Al)) (enc:=eS) (css:=[[rS ([97,99,107]:Al)],[rS id]]) (xs:=[.const (.string ⟨#[97,99,107]⟩),.tmp 7]) Cn Cv PW Aa Aa Aa ⟨D1.one Aa (Up.refl _),D1.one Aa (Up.refl _),trivial⟩ Aa CY Aa Aa Aa (λb4=>?_)))));refine WL.freeze (i:=0) Aa (Bb (ys:=([([([97,99,107]:Al),id]:List Al)]:List (List Al))) (enc:=Bm) (css:=[[AY 1 (A4 eS ([([97,99,107]:Al),id]:List Al))]]) (xs:=[.tmp 8]) Hg GN PX Aa Aa Aa ⟨D1.one Aa (Up.fact (i:=0) Aa),trivial⟩ Aa CZ Aa Aa Aa (λb5=>?_));refine WL.freeze (i:=0) Aa (WL.up (d:=9) (r:=AY 1 (A4 Bm ([([([97,99,107]:Al),id]:List Al)]:List (List Al)))) Aa (Up.fact (i:=0) Aa) (ob h3 λr6 e8 h7=>CG Tryz.call48 (Q6 F ([([([97,99,107]:Al),id]:List Al)]:List (List Al)) r6 e8) Aa (wv (AA Aa Aa) (wv (AA Aa Aa) (wa Aa (wa Aa (Av (A1 ?_))))))));obtain rfl:=A5 h7;exact A0 (DJ Tryz.results29 (AM Aa) (AM Aa)) (sS (sS sN)) ⟨Aa,Aa⟩
theorem Ve (F:Nat)(l:(List (List Al)))(r:AS×Bool)(h:Q8 F l=some r):Fn Tryz.prog GE 64 [AY 1 (A4 Bm l)] [] (λR H=>R=C7 [BQ (AV r.1),rB r.2]∧H=[]):=by
 refine enter (n:=131) Tryz.func64 Aa Tryz.ntmps64 Aa (λw Z=>?_);unfold Q8 at h;refine Ak (Cc (cs:=[rS ([]:Al),rS ([]:Al),At 0,rv (.slice none 0 0),rv (.slice none 0 0),At 0]) XO Aa Aa (λb1=>?_));refine wa Aa (Bs (Cc (cs:=[rS ([]:Al),rS ([]:Al),At 0,rv (.slice none 0 0),rv (.slice none 0 0),At 0]) XO Aa Aa (λb2=>?_)));refine Av (An (Ak (wm Aa (wv (Bq (ys:=l) (enc:=Bm) Hg Aa) (wv (r:=At 0) (Aq Aa) (Av (AJ (WC.nilrow (e:=65) (sz:=4) (WC.upBlk (i:=1) (cs':=[rS ([]:Al),rS ([]:Al),At 0,AY 4 (A4 Ab ([]:List Ac)),rv (.slice none 0 0),At 0]) Aa ⟨Up.refl _,Up.refl _,Up.refl _,Up.le (KZ.nil _),Up.refl _,Up.refl _,trivial⟩ (GO (H2:=[.blk b2 [rS ([]:Al),rS ([]:Al),At 0,AY 4 (A4 Ab ([]:List Ac)),rv (.slice none 0 0),At 0] 34,.blk b1 [rS ([]:Al),rS ([]:Al),At 0,rv (.slice none 0 0),rv (.slice none 0 0),At 0] 34,.row (.slice none 0 0                                                                 ) 65 4 (A4 Ah ([]:List Ar))]) ((As (i:=1) Aa).trans (Abp _ ((As (i:=1) Aa).trans (Abp _ (Abq _))))) (ob h λhH hI hr=>Bu (S:=Nat×(Int×Al×Al×Int×(List Ac)×(List Ar)×Int)×(Value)) (V:=(Al×Al×Int×(List Ac)×(List Ar)×Int)×(Value)) 0 (λσ=>Ci (λσ=>IT F l σ.1 σ.2.1 σ.2.2.1 σ.2.2.2.1 σ.2.2.2.2.1 σ.2.2.2.2.2.1 σ.2.2.2.2.2.2) σ.1 σ.2.1=some hH) (λσ=>[(2,rP b1 0),(4,rP b2 0),(14,AY 1 (A4 Bm l)),(15,At (l.length:Int)),(16,At σ.2.1.1)]) (λσ=>[.blk b2 [rS σ.2.1.2.1,rS σ.2.1.2.2.1,At σ.2.1.2.2.2.1,AY 4 (A4 Ab σ.2.1.2.2.2.2.1),rv σ.2.2,At σ.2.1.2.2.2.2.2.2] 34,.blk b1 [rS ([]:Al),rS ([]:Al),At 0,rv (.slice none 0 0),rv (.slice none 0 0),At 0] 34,.row σ.2.2 65 4 (A4 Ah σ.2.1.2.2.2.2.2.1)]) (λσ=>σ.1) (F,(0,([]:Al),([]:Al),0,([]:List Ac),([]:List Ar),0),(.slice none 0 0                                                                 )) hI (AL.c5 Aa Aa Aa Aa Aa AL.nil) (sC (sC (sC sN))) (λσ=>IS σ.1.1 σ.1.2.1 σ.1.2.2.1 σ.1.2.2.2.1 σ.1.2.2.2.2.1 σ.1.2.2.2.2.2=some r) (λσ=>[(2,rP b1 0),(4,rP b2 0)]) (λσ=>[.blk b2 [rS σ.1.1,rS σ.1.2.1,At σ.1.2.2.1,AY 4 (A4 Ab σ.1.2.2.2.1),rv σ.2,At σ.1.2.2.2.2.2] 34,.blk b1 [rS ([]:Al),rS ([]:Al),At 0,rv (.slice none 0 0),rv (.slice none 0 0),At 0] 34,.row σ.2 65 4 (A4 Ah σ.1.2.2.2.2.1)]) ?_ ?_)))))))))))
 ·rintro⟨gV,⟨ha,hi,hh,hf,hd,hg,he⟩,hb⟩ hJ;refine BW (l':=[(2,rP b1 0),(4,rP b2 0),(14,AY 1 (A4 Bm l)),(15,At (l.length:Int)),(16,At ha)]) (H':=[.blk b2 [rS hi,rS hh,At hf,AY 4 (A4 Ab hd),rv hb,At he] 34,.blk b1 [rS ([]:Al),rS ([]:Al),At 0,rv (.slice none 0 0),rv (.slice none 0 0),At 0] 34,.row hb 65 4 (A4 Ah hg)]) Aa Aa ?_;obtain⟨hK,rfl,h5,h1,hq⟩:=C4 hJ;replace h1:IT F l ha hi hh hf hd hg he=some h5:=h1;unfold IT at h1;refine Ak (wv (C0 Aa Aa) (Av (An (cz h1 Aa (λhL hN=>?_) (λhL hO=>?_)))))
  ·refine Ay (AP (Dm (S:=(Al×Al×Int×(List Ac)×(List Ar)×Int)×(Value)) (λσ=>Gu ha σ.1.1 σ.1.2.1 σ.1.2.2.1 σ.1.2.2.2.1 σ.1.2.2.2.2.1 σ.1.2.2.2.2.2=some h5) (λσ=>[(2,rP b1 0),(4,rP b2 0),(14,AY 1 (A4 Bm l)),(15,At (l.length:Int)),(16,At ha)]) (λσ=>[.blk b2 [rS σ.1.1,rS σ.1.2.1,At σ.1.2.2.1,AY 4 (A4 Ab σ.1.2.2.2.1),rv σ.2,At σ.1.2.2.2.2.2] 34,.blk b1 [rS ([]:Al),rS ([]:Al),At 0,rv (.slice none 0 0),rv (.slice none 0 0),At 0] 34,.row σ.2 65 4 (A4 Ah σ.1.2.2.2.2.1)]) ?_ ?_))
   ·refine AJ (Ak (wm Aa (ck hN λhP hQ=>wv (By (enc:=Bm) (ys:=l) Hg GN Aa Aa hP) (wv (Bg Mj Aa Aa) (wa Aa (wa Aa (Bs (wa Aa (Bs (wa Aa (wa Aa (Av (AJ (AH [(2,rP b1 0),(4,rP b2 0),(5,At ha),(6,AY 1 (A4 eS (Ap l ha))),(7,rv (.slice none 0 0)),(14,AY 1 (A4 Bm l)),(15,At (l.length:Int)),(16,At ha),(22,rB ((decide (ha=0))&&(decide (((Ap l ha).length:Int)=6))))] [.blk b2 [rS hi,rS hh,At hf,AY 4 (A4 Ab hd),rv hb,At he] 34,.blk b1 [rS ([]:Al),rS ([]:Al),At 0,rv (.slice none 0 0),rv (.slice none 0 0),At 0] 34,.row hb 65 4 (A4 Ah hg)] ?_ ?_))))))))))))))
    ·refine Ai (wm Aa (wv (B5 Aa Aa) (wm Aa (AO (decide (ha=0)) (λhk=>?_) (λhk=>?_)))))
     ·refine wo hk (wm Aa (wo hk (wv (Bq (ys:=Ap l ha) (enc:=eS) Cn Aa) (wo hk (wv (B5 Aa Aa) (Er Aa hk Aa (wa Aa (Am ?_))))))));exact BV hk
     ·refine wf hk (wf hk (wf hk (wv (r:=rB false) (A8 Aa hk Aa) (wa Aa (Am ?_)))));exact BV hk
    refine cz hQ Aa (λhR hS=>?_) (λhR hT=>?_)
    ·refine An (ck hS λhU hV=>ck hV λhW hX=>Hk (H1:=[.blk b2 [rS (Ap (Ap l ha) 1),rS (Ap (Ap l ha) 2),At hf,AY 4 (A4 Ab hd),rv hb,At he] 34,.blk b1 [rS ([]:Al),rS ([]:Al),At 0,rv (.slice none 0 0),rv (.slice none 0 0),At 0] 34,.row hb 65 4 (A4 Ah hg)]) [2,4,6,14,15,16] [⟨[],AY 1 (A4 eS (Ap l ha)),0⟩,⟨[0],SW [rS (Ap (Ap l ha) 1)],0⟩,⟨[1],rS (Ap (Ap l ha) 1),0⟩,⟨[],AY 1 (A4 eS (Ap l ha)),0⟩,⟨[3],SW [rS (Ap (Ap l ha) 2)],0⟩,⟨[4],rS (Ap (Ap l ha) 2),0⟩,⟨[],rP b2 0,0⟩,⟨[6,2],rv undef,2⟩,⟨[],rP b2 1,0⟩,⟨[8,5],rv undef,2⟩] (rle [(8,_),(2,[.blk b2 [rS (Ap (Ap l ha) 1),rS hh,At hf,AY 4 (A4 Ab hd),rv hb,At he] 34,.blk b1 [rS ([]:Al),rS ([]:Al),At 0,rv (.slice none 0 0),rv (.slice none 0 0),At 0] 34,.row hb 65 4 (A4 Ah hg)]),(1,[.blk b2 [rS (Ap (Ap l ha) 1),rS (Ap (Ap l ha) 2),At hf,AY 4 (A4 Ab hd),rv hb,At he] 34,.blk b1 [rS ([]:Al),rS ([]:Al),At 0,rv (.slice none 0 0),rv (.slice none 0 0),At 0] 34,.row hb 65 4 (A4 Ah hg)])]) [2,4,6,14,15,16] ?_ ?_)
     ·refine oq (Aq Aa) (oq (By (enc:=eS) (ys:=Ap l ha) Cn Cv Aa Aa hU) (oq (Bg CD Aa Aa) (oq (Aq Aa) (oq (By (enc:=eS) (ys:=Ap l ha) Cn Cv Aa Aa hW) (oq (Bg CD Aa Aa) (oq (A9 Cl Aa Cv Aa Aa) (JM Aa (Qz (KI (i:=0) Cv Aa Aa (BD Aa) Aa Aa (cs':=[rS (Ap (Ap l ha) 1),rS hh,At hf,AY 4 (A4 Ab hd),rv hb,At he]) Aa (H':=[.blk b2 [rS (Ap (Ap l ha) 1),rS hh,At hf,AY 4 (A4 Ab hd),rv hb,At he] 34,.blk b1 [rS ([]:Al),rS ([]:Al),At 0,rv (.slice none 0 0),rv (.slice none 0 0),At 0] 34,.row hb 65 4 (A4 Ah hg)]) Aa)) ?_)))))));refine oq (A9 Cl Aa Cv Aa Aa) (JM Aa (Qz (KI (i:=0) Cv Aa Aa (BD Aa) Aa Aa (cs':=[rS (Ap (Ap l ha) 1),rS (Ap (Ap l ha) 2),At hf,AY 4 (A4 Ab hd),rv hb,At he]) Aa (H':=[.blk b2 [rS (Ap (Ap l ha) 1),rS (Ap (Ap l ha) 2),At hf,AY 4 (A4 Ab hd),rv hb,At he] 34,.blk b1 [rS ([]:Al),rS ([]:Al),At 0,rv (.slice none 0 0),rv (.slice none 0 0),At 0] 34,.row hb 65 4 (A4 Ah hg)]) Aa)) ?_);exact CN
     refine AP (Ak (wa Aa (wa Aa (wa Aa (Bs (wm Aa (ck hX λhY hZ=>wv (By (enc:=eS) (ys:=Ap l ha) Cn Cv Aa Aa hY) (wv (Bg CD Aa Aa) (ck hZ λga gb=>Cz (rs:=[rS (Ap (Ap l ha) 3)]) (r:=C7 [At (AX (Ap (Ap l ha) 3)),At (C2 (Ap (Ap l ha) 3))]) VQ Aa (LL (Ap (Ap l ha) 3) ga) Aa Aa (wm Aa (wv (AA Aa Aa) (wv (AA Aa Aa) (vF Cl Aa C6 (BA (i:=0) C6 Aa Aa (BD Aa) Aa Aa (cs':=[rS (Ap (Ap l ha) 1),rS (Ap (Ap l ha) 2),At (AX (Ap (Ap l ha) 3)),AY 4 (A4 Ab hd),rv hb,At he]) Aa (H':=[.blk b2 [rS (Ap (Ap l ha) 1),rS (Ap (Ap l ha) 2),At (AX (Ap (Ap l ha) 3)),AY 4 (A4 Ab hd),rv hb,At he] 34,.blk b1 [rS ([]:Al),rS ([]:Al),At 0,rv (.slice none 0 0),rv (.slice none 0 0),At 0] 34,.row hb 65 4 (A4 Ah hg)]) Aa (wa Aa (Bs (wm Aa (ck gb λgc gd=>wv (By (enc:=eS) (ys:=Ap l ha) Cn Cv Aa Aa gc) (wv (Bg CD Aa Aa) (ck gd λge gf=>?_))))))))))))))))))));refine Cz (rs:=[rS (Ap (Ap l ha) 4)]) (r:=C7 [At (AX (Ap (Ap l ha) 4)),At (C2 (Ap (Ap l ha) 4))]) VQ Aa (LL (Ap (Ap l ha) 4) ge) Aa Aa (wm Aa (wv (AA Aa Aa) (wv (AA Aa Aa) (vF Cl Aa C6 (BA (i:=0) C6 Aa Aa (BD Aa) Aa Aa (cs':=[rS (Ap (Ap l ha) 1),rS (Ap (Ap l ha) 2),At (AX (Ap (Ap l ha) 3)),AY 4 (A4 Ab hd),rv hb,At (AX (Ap (Ap l ha) 4))]) Aa (H':=[.blk b2 [rS (Ap (Ap l ha) 1),rS (Ap (Ap l ha) 2),At (AX (Ap (Ap l ha) 3)),AY 4 (A4 Ab hd),rv hb,At (AX (Ap (Ap l ha) 4))] 34,.blk b1 [rS ([]:Al),rS ([]:Al),At 0,rv (.slice none 0 0),rv (.slice none 0 0),At 0] 34,.row hb 65 4 (A4 Ah hg)]) Aa (wa Aa (Bs (wm Aa (ck gf λgg gh=>wv (By (enc:=eS) (ys:=Ap l ha) Cn Cv Aa Aa gg) (wv (Bg CD Aa Aa) (ob gh λhm gi gj=>CG Tryz.call100 (Pr F (Ap (Ap l ha) 5) hm gi) Aa (wm Aa (wv (AA Aa Aa) (wv (AA Aa Aa) (vF Cl Aa C5 (BA (i:=0) C5 Aa Aa (BD Aa) Aa Aa (cs':=[rS (Ap (Ap l ha) 1),rS (Ap (Ap l ha) 2),At (AX (Ap (Ap l ha) 3)),AY 4 (A4 Ab hm.1),rv hb,At (AX (Ap (Ap l ha) 4))]) Aa (H':=[.blk b2 [rS (Ap (Ap l ha) 1),rS (Ap (Ap l ha) 2),At (AX (Ap (Ap l ha) 3)),AY 4 (A4 Ab hm.1),rv hb,At (AX (Ap (Ap l ha) 4))] 34,.blk b1 [rS ([]:Al),rS ([]:Al),At 0,rv (.slice none 0 0),rv (.slice none 0 0),At 0] 34,.row hb 65 4 (A4 Ah hg)]) Aa (wa Aa (Av (AH [(2,rP b1 0),(4,rP b2 0),(14,AY 1 (A4 Bm l)),(15,At (l.length:Int)),(16,At ha),(71,rB ((!decide ((C2 (Ap (Ap l ha) 3))=0))||((!decide ((C2 (Ap (Ap l ha) 4))=0))||(!decide (hm.2=0)))))] [.blk b2 [rS (Ap (Ap l ha) 1),rS (Ap (Ap l ha) 2),At (AX (Ap (Ap l ha) 3)),AY 4 (A4 Ab hm.1),rv hb,At (AX (Ap (Ap l ha) 4))] 34,.blk b1 [rS ([]:Al),rS ([]:Al),At 0,rv (.slice none 0 0),rv (.slice none 0 0),At 0] 34,.row hb 65 4 (A4 Ah hg)] ?_ ?_)))))))))))))))))))
     ·refine Ai (wm Aa (wv (BT Aa Aa) (wm Aa (AO (!decide ((C2 (Ap (Ap l ha) 3))=0)) (λhn=>?_) (λhn=>?_)))))
      ·refine wf hn (wf hn (wv (r:=rB true) (A2 Aa hn Aa) (wm Aa (wz Aa Aa (wz Aa Aa (wv (r:=rB true) (A2 (b:=true) Aa Aa Aa) (Am ?_)))))));exact BV hn
      ·refine wo hn (wm Aa (wo hn (wv (BT Aa Aa) (E2 Aa hn Aa (wm Aa (AO (!decide ((C2 (Ap (Ap l ha) 4))=0)) (λhp=>?_) (λhp=>?_)))))))
       ·refine wf hp (wf hp (wv (r:=rB true) (A2 Aa hp Aa) (Am ?_)));exact BV (And.intro hn hp)
       ·refine wo hp (wm Aa (wo hp (wv (BT Aa Aa) (E2 Aa hp Aa (Am ?_)))));exact BV (And.intro hn hp)
     refine cz gj Aa (λgl gm=>?_) (λgl gp=>?_)
     ·refine Ak (wv (Bf (i:=0) Gh Ec Aa Aa Aa Aa) (Br (i:=1) Ec Aa Aa Aa ⟨(BD Aa),(BD Aa),(BD Aa),(BD Aa),(CB (i:=2) Aa),(BD Aa),trivial⟩ Aa Aa (cs':=[rS (Ap (Ap l ha) 1),rS (Ap (Ap l ha) 2),At (AX (Ap (Ap l ha) 3)),AY 4 (A4 Ab hm.1),rv hb,At (AX (Ap (Ap l ha) 4))]) Aa (H':=[.blk b2 [rS (Ap (Ap l ha) 1),rS (Ap (Ap l ha) 2),At (AX (Ap (Ap l ha) 3)),AY 4 (A4 Ab hm.1),rv hb,At (AX (Ap (Ap l ha) 4))] 34,.blk b1 [rS (Ap (Ap l ha) 1),rS (Ap (Ap l ha) 2),At (AX (Ap (Ap l ha) 3)),AY 4 (A4 Ab hm.1),rv hb,At (AX (Ap (Ap l ha) 4))] 34,.row hb 65 4 (A4 Ah hg)]) Aa (wa Aa (Av (A1 (AC (AC (Ae (Ae (Bj ?_))))))))));have gq:=BB gm hq hr;refine AC (Ae (WK.freeze (i:=2) Aa (WK.upBlk (i:=2) (cs':=[rS (Ap (Ap l ha) 1),rS (Ap (Ap l ha) 2),At (AX (Ap (Ap l ha) 3)),AY 4 (A4 Ab hm.1),AY 4 (A4 Ah hg),At (AX (Ap (Ap l ha) 4))]) Aa ⟨Up.refl _,Up.refl _,Up.refl _,Up.refl _,Up.fact (i:=0) Aa,Up.refl _,trivial⟩ ?_)));obtain rfl:=A5 gq;exact A0 (DJ Uv (Io (i:=2) Gh Ec Aa Aa Aa) (AM Aa)) (sS (sS (sS sN))) ⟨Aa,Aa⟩
     ·exact Ay (AG (AG (Aw (AI ((Ap (Ap l ha) 1,Ap (Ap l ha) 2,AX (Ap (Ap l ha) 3),hm.1,hg,AX (Ap (Ap l ha) 4)),hb) gp (AL.c5 Aa Aa Aa Aa Aa AL.nil) (sC (sC (sC sN)))))))
    ·refine AH [(2,rP b1 0),(4,rP b2 0),(6,AY 1 (A4 eS (Ap l ha))),(7,rv (.slice none 0 0)),(14,AY 1 (A4 Bm l)),(15,At (l.length:Int)),(16,At ha),(73,rB ((decide (0<ha))&&(decide (((Ap l ha).length:Int)=4))))] [.blk b2 [rS hi,rS hh,At hf,AY 4 (A4 Ab hd),rv hb,At he] 34,.blk b1 [rS ([]:Al),rS ([]:Al),At 0,rv (.slice none 0 0),rv (.slice none 0 0),At 0] 34,.row hb 65 4 (A4 Ah hg)] ?_ ?_
     ·refine Ai (wm Aa (wv (CI Aa Aa) (wm Aa (AO (decide (0<ha)) (λhl=>?_) (λhl=>?_)))))
      ·refine wo hl (wm Aa (wo hl (wv (Bq (ys:=Ap l ha) (enc:=eS) Cn Aa) (wo hl (wv (B5 Aa Aa) (Er Aa hl Aa (wa Aa (Am ?_))))))));exact BV hl
      ·refine wf hl (wf hl (wf hl (wv (r:=rB false) (A8 Aa hl Aa) (wa Aa (Am ?_)))));exact BV hl
     refine cz hT Aa (λgr gs=>?_) (λgr gt=>?_)
     ·refine An (Ak (wm Aa (ck gs λgu gv=>wv (By (enc:=eS) (ys:=Ap l ha) Cn Cv Aa Aa gu) (wv (Bg CD Aa Aa) (ck gv λgw gx=>Cz (rs:=[rS (Ap (Ap l ha) 0)]) (r:=C7 [At (AX (Ap (Ap l ha) 0)),At (C2 (Ap (Ap l ha) 0))]) VQ Aa (LL (Ap (Ap l ha) 0) gw) Aa Aa (wm Aa (wv (AA Aa Aa) (wv (AA Aa Aa) (wa Aa (wa Aa (Bs (wm Aa (wv (BT Aa Aa) (Av (cz gx Aa (λgy gz=>?_) (λgy g0=>?_))))))))))))))))
      ·refine Ak (wv (Bf (i:=0) Gh Ec Aa Aa Aa Aa) (Br (i:=1) Ec Aa Aa Aa ⟨(BD Aa),(BD Aa),(BD Aa),(BD Aa),(CB (i:=2) Aa),(BD Aa),trivial⟩ Aa Aa (cs':=[rS hi,rS hh,At hf,AY 4 (A4 Ab hd),rv hb,At he]) Aa (H':=[.blk b2 [rS hi,rS hh,At hf,AY 4 (A4 Ab hd),rv hb,At he] 34,.blk b1 [rS hi,rS hh,At hf,AY 4 (A4 Ab hd),rv hb,At he] 34,.row hb 65 4 (A4 Ah hg)]) Aa (wa Aa (Av (A1 (Ae (AC (AC (Ae (Ae (Bj ?_)))))))))));have g1:=BB gz hq hr;refine AC (Ae (WK.freeze (i:=2) Aa (WK.upBlk (i:=2) (cs':=[rS hi,rS hh,At hf,AY 4 (A4 Ab hd),AY 4 (A4 Ah hg),At he]) Aa ⟨Up.refl _,Up.refl _,Up.refl _,Up.refl _,Up.fact (i:=0) Aa,Up.refl _,trivial⟩ ?_)));obtain rfl:=A5 g1;exact A0 (DJ Uv (Io (i:=2) Gh Ec Aa Aa Aa) (AM Aa)) (sS (sS (sS sN))) ⟨Aa,Aa⟩
      ·refine Ay (AP (Ak (wm Aa (wm Aa (ck g0 λg2 g3=>wv (By (enc:=eS) (ys:=Ap l ha) Cn Cv Aa Aa g2) (wv (Bg CD Aa Aa) (wv (r:=BQ [At (AX (Ap (Ap l ha) 0)),rS (Ap (Ap l ha) 1),rv (.slice none 0 0),At 0]) (Pd Aa Aa Aa Aa) (Cc (cs:=[At 0,rS ([]:Al),rv (.slice none 0 0),At 0]) Lt Aa Aa (λho=>?_)))))))));refine Br (i:=0) Dl Aa Aa Aa (Cq.c Aa) Aa Aa (cs':=[At (AX (Ap (Ap l ha) 0)),rS (Ap (Ap l ha) 1),rv (.slice none 0 0),At 0]) Aa (H':=[.blk ho [At (AX (Ap (Ap l ha) 0)),rS (Ap (Ap l ha) 1),rv (.slice none 0 0),At 0] 65,.blk b2 [rS hi,rS hh,At hf,AY 4 (A4 Ab hd),rv hb,At he] 34,.blk b1 [rS ([]:Al),rS ([]:Al),At 0,rv (.slice none 0 0),rv (.slice none 0 0),At 0] 34,.row hb 65 4 (A4 Ah hg)]) Aa (Av (An (Ak (wm Aa (ck g3 λg4 g5=>wv (By (enc:=eS) (ys:=Ap l ha) Cn Cv Aa Aa g4) (wv (Bg CD Aa Aa) (ck g5 λg6 g7=>Cz (rs:=[rS (Ap (Ap l ha) 2)]) (r:=C7 [At (AX (Ap (Ap l ha) 2)),At (C2 (Ap (Ap l ha) 2))]) VQ Aa (LL (Ap (Ap l ha) 2) g6) Aa Aa (wm Aa (wv (AA Aa Aa) (wv (AA Aa Aa) (vF BP Aa C6 (BA (i:=0) C6 Aa Aa (BD Aa) Aa Aa (cs':=[At (AX (Ap (Ap l ha) 0)),rS (Ap (Ap l ha) 1),rv (.slice none 0 0),At (AX (Ap (Ap l ha) 2))]) Aa (H':=[.blk ho [At (AX (Ap (Ap l ha) 0)),rS (Ap (Ap l ha) 1),rv (.slice none 0 0),At (AX (Ap (Ap l ha) 2))] 65,.blk b2 [rS hi,rS hh,At hf,AY 4 (A4 Ab hd),rv hb,At he] 34,.blk b1 [rS ([]:Al),rS ([]:Al),At 0,rv (.slice none 0 0),rv (.slice none 0 0),At 0] 34,.row hb 65 4 (A4 Ah hg)]) Aa (wa Aa (Bs (wm Aa (wv (BT Aa Aa) (Av (cz g7 Aa (λg8 g9=>?_) (λg8 gA=>?_)))))))))))))))))))
       ·refine Ak (wv (Bf (i:=1) Gh Ec Aa Aa Aa Aa) (Br (i:=2) Ec Aa Aa Aa ⟨(BD Aa),(BD Aa),(BD Aa),(BD Aa),(CB (i:=3) Aa),(BD Aa),trivial⟩ Aa Aa (cs':=[rS hi,rS hh,At hf,AY 4 (A4 Ab hd),rv hb,At he]) Aa (H':=[.blk ho [At (AX (Ap (Ap l ha) 0)),rS (Ap (Ap l ha) 1),rv (.slice none 0 0),At (AX (Ap (Ap l ha) 2))] 65,.blk b2 [rS hi,rS hh,At hf,AY 4 (A4 Ab hd),rv hb,At he] 34,.blk b1 [rS hi,rS hh,At hf,AY 4 (A4 Ab hd),rv hb,At he] 34,.row hb 65 4 (A4 Ah hg)]) Aa (wa Aa (Av (A1 (Ae (AC (AC (Ae (Ae (Bj ?_)))))))))));have gB:=BB g9 hq hr;refine AC (Ae (WK.freeze (i:=3) Aa (WK.upBlk (i:=3) (cs':=[rS hi,rS hh,At hf,AY 4 (A4 Ab hd),AY 4 (A4 Ah hg),At he]) Aa ⟨Up.refl _,Up.refl _,Up.refl _,Up.refl _,Up.fact (i:=0) Aa,Up.refl _,trivial⟩ ?_)));obtain rfl:=A5 gB;exact A0 (DJ Uv (Io (i:=3) Gh Ec Aa Aa Aa) (AM Aa)) (sS (sS (sS (sS sN)))) ⟨Aa,Aa⟩
       ·refine Ay (AP (An (Ak (wm Aa (ck gA λhD gC=>wv (By (enc:=eS) (ys:=Ap l ha) Cn Cv Aa Aa hD) (wv (Bg CD Aa Aa) (wv (I0 Aa Aa) (Av (cz gC Aa (λgD gE=>?_) (λgD gF=>?_))))))))))
        ·refine Ak (wm Aa (wv (By (enc:=eS) (ys:=Ap l ha) Cn Cv Aa Aa hD) (wv (Bg CD Aa Aa) (ob gE λhj gG gH=>CG Tryz.call100 (Pr F (Ap (Ap l ha) 3) hj gG) Aa (wm Aa (wv (AA Aa Aa) (wv (AA Aa Aa) (wa Aa (wa Aa (Bs (wm Aa (wv (BT Aa Aa) (Av (cz gH Aa (λgI gJ=>?_) (λgI gK=>?_)))))))))))))))
         ·refine Ak (wv (Bf (i:=1) Gh Ec Aa Aa Aa Aa) (Br (i:=2) Ec Aa Aa Aa ⟨(BD Aa),(BD Aa),(BD Aa),(BD Aa),(CB (i:=3) Aa),(BD Aa),trivial⟩ Aa Aa (cs':=[rS hi,rS hh,At hf,AY 4 (A4 Ab hd),rv hb,At he]) Aa (H':=[.blk ho [At (AX (Ap (Ap l ha) 0)),rS (Ap (Ap l ha) 1),rv (.slice none 0 0),At (AX (Ap (Ap l ha) 2))] 65,.blk b2 [rS hi,rS hh,At hf,AY 4 (A4 Ab hd),rv hb,At he] 34,.blk b1 [rS hi,rS hh,At hf,AY 4 (A4 Ab hd),rv hb,At he] 34,.row hb 65 4 (A4 Ah hg)]) Aa (wa Aa (Av (A1 (Ae (AC (AC (Ae (Ae (Bj ?_)))))))))));have gL:=BB gJ hq hr;refine AC (Ae (WK.freeze (i:=3) Aa (WK.upBlk (i:=3) (cs':=[rS hi,rS hh,At hf,AY 4 (A4 Ab hd),AY 4 (A4 Ah hg),At he]) Aa ⟨Up.refl _,Up.refl _,Up.refl _,Up.refl _,Up.fact (i:=0) Aa,Up.refl _,trivial⟩ ?_)));obtain rfl:=A5 gL;exact A0 (DJ Uv (Io (i:=3) Gh Ec Aa Aa Aa) (AM Aa)) (sS (sS (sS (sS sN)))) ⟨Aa,Aa⟩
         ·refine Ay (AP (Ak (wm Aa (vF BP Aa C5 (BA (i:=0) C5 Aa Aa (BD Aa) Aa Aa (cs':=[At (AX (Ap (Ap l ha) 0)),rS (Ap (Ap l ha) 1),AY 4 (A4 Ab hj.1),At (AX (Ap (Ap l ha) 2))]) Aa (H':=[.blk ho [At (AX (Ap (Ap l ha) 0)),rS (Ap (Ap l ha) 1),AY 4 (A4 Ab hj.1),At (AX (Ap (Ap l ha) 2))] 65,.blk b2 [rS hi,rS hh,At hf,AY 4 (A4 Ab hd),rv hb,At he] 34,.blk b1 [rS ([]:Al),rS ([]:Al),At 0,rv (.slice none 0 0),rv (.slice none 0 0),At 0] 34,.row hb 65 4 (A4 Ah hg)]) Aa (Av (Ai (vF Cl Aa H8 (vL 1 J2 Aa (wv (Bf (i:=0) H9 Dl Aa Aa Aa Aa) (Bb (ys:=([(Ar.mk (AX (Ap (Ap l ha) 0)) (Ap (Ap l ha) 1) hj.1 (AX (Ap (Ap l ha) 2)))]:List Ar)) (enc:=Ah) (css:=[[At (AX (Ap (Ap l ha) 0)),rS (Ap (Ap l ha) 1),AY 4 (A4 Ab hj.1),At (AX (Ap (Ap l ha) 2))]]) (xs:=[.tmp 125]) EV Dl Lt Aa Aa Aa ⟨D1.agg ⟨Up.refl _,Up.refl _,Up.refl _,Up.refl _,trivial⟩,trivial⟩ Aa D3 Aa Aa Aa (λhE=>?_))))))))))));refine ck gK λgM gN=>Exists.elim Xm λinf hinf=>Cb (xs:=hg) (ys:=([(Ar.mk (AX (Ap (Ap l ha) 0)) (Ap (Ap l ha) 1) hj.1 (AX (Ap (Ap l ha) 2)))]:List Ar)) (enc:=Ah) (i:=4) EV hinf.1 hinf.2.1 hinf.2.2.1 hinf.2.2.2 Aa Aa Aa Aa Aa (If.w (i:=0) Aa Aa) D3 Jy gM Aa (λhs=>?_);exact vF Cl Aa H8 (BA (i:=3) H8 Aa Aa (CB (i:=0) Aa) Aa Aa (cs':=[rS hi,rS hh,At hf,AY 4 (A4 Ab hd),rv hs,At he]) Aa (H':=[.row hs 65 4 (A4 Ah (hg++([(Ar.mk (AX (Ap (Ap l ha) 0)) (Ap (Ap l ha) 1) hj.1 (AX (Ap (Ap l ha) 2)))]:List Ar))),.row (.slice (some ⟨hE,0,none⟩) 1 1) 65 4 (A4 Ah ([(Ar.mk (AX (Ap (Ap l ha) 0)) (Ap (Ap l ha) 1) hj.1 (AX (Ap (Ap l ha) 2)))]:List Ar)),.blk ho [At (AX (Ap (Ap l ha) 0)),rS (Ap (Ap l ha) 1),AY 4 (A4 Ab hj.1),At (AX (Ap (Ap l ha) 2))] 65,.blk b2 [rS hi,rS hh,At hf,AY 4 (A4 Ab hd),rv hs,At he] 34,.blk b1 [rS ([]:Al),rS ([]:Al),At 0,rv (.slice none 0 0),rv (.slice none 0 0),At 0] 34]) Aa (Am (AG (AG (BU (H2:=[.blk b2 [rS hi,rS hh,At hf,AY 4 (A4 Ab hd),rv hs,At he] 34,.blk b1 [rS ([]:Al),rS ([]:Al),At 0,rv (.slice none 0 0),rv (.slice none 0 0),At 0] 34,.row hs 65 4 (A4 Ah (hg++([(Ar.mk (AX (Ap (Ap l ha) 0)) (Ap (Ap l ha) 1) hj.1 (AX (Ap (Ap l ha) 2)))]:List Ar))),.row (.slice (some ⟨hE,0,none⟩) 1 1) 65 4 (A4 Ah ([(Ar.mk (AX (Ap (Ap l ha) 0)) (Ap (Ap l ha) 1) hj.1 (AX (Ap (Ap l ha) 2)))]:List Ar)),.blk ho [At (AX (Ap (Ap l ha) 0)),rS (Ap (Ap l ha) 1),AY 4 (A4 Ab hj.1),At (AX (Ap (Ap l ha) 2))] 65]) ((As (i:=3) Aa).trans (Abp _ ((As (i:=3) Aa).trans (Abp _ (Abq _))))) (Aw (AI ((hi,hh,hf,hd,hg++([(Ar.mk (AX (Ap (Ap l ha) 0)) (Ap (Ap l ha) 1) hj.1 (AX (Ap (Ap l ha) 2)))]:List Ar),he),hs) gN (AL.c5 Aa Aa Aa Aa Aa AL.nil) (sC (sC (sC (sS (sS sN))))))))))))
        ·refine Ay (AP (Ak (wm Aa (vF BP Aa C5 (BA (i:=0) C5 Aa Aa (BD Aa) Aa Aa (cs':=[At (AX (Ap (Ap l ha) 0)),rS (Ap (Ap l ha) 1),rv (.slice none 0 0),At (AX (Ap (Ap l ha) 2))]) Aa (H':=[.blk ho [At (AX (Ap (Ap l ha) 0)),rS (Ap (Ap l ha) 1),rv (.slice none 0 0),At (AX (Ap (Ap l ha) 2))] 65,.blk b2 [rS hi,rS hh,At hf,AY 4 (A4 Ab hd),rv hb,At he] 34,.blk b1 [rS ([]:Al),rS ([]:Al),At 0,rv (.slice none 0 0),rv (.slice none 0 0),At 0] 34,.row hb 65 4 (A4 Ah hg)]) Aa (Av (Ai (vF Cl Aa H8 (vL 1 J2 Aa (wv (Bf (i:=0) H9 Dl Aa Aa Aa Aa) (Bb (ys:=([(Ar.mk (AX (Ap (Ap l ha) 0)) (Ap (Ap l ha) 1) ([]:List Ac) (AX (Ap (Ap l ha) 2)))]:List Ar)) (enc:=Ah) (css:=[[At (AX (Ap (Ap l ha) 0)),rS (Ap (Ap l ha) 1),AY 4 (A4 Ab ([]:List Ac)),At (AX (Ap (Ap l ha) 2))]]) (xs:=[.tmp 125]) EV Dl Lt Aa Aa Aa ⟨D1.agg ⟨Up.refl _,Up.refl _,Up.le (KZ.nil _),Up.refl _,trivial⟩,trivial⟩ Aa D3 Aa Aa Aa (λhG=>?_))))))))))));refine ck gF λgO gP=>Exists.elim Xm λinf hinf=>Cb (xs:=hg) (ys:=([(Ar.mk (AX (Ap (Ap l ha) 0)) (Ap (Ap l ha) 1) ([]:List Ac) (AX (Ap (Ap l ha) 2)))]:List Ar)) (enc:=Ah) (i:=4) EV hinf.1 hinf.2.1 hinf.2.2.1 hinf.2.2.2 Aa Aa Aa Aa Aa (If.w (i:=0) Aa Aa) D3 Jy gO Aa (λht=>?_);exact vF Cl Aa H8 (BA (i:=3) H8 Aa Aa (CB (i:=0) Aa) Aa Aa (cs':=[rS hi,rS hh,At hf,AY 4 (A4 Ab hd),rv ht,At he]) Aa (H':=[.row ht 65 4 (A4 Ah (hg++([(Ar.mk (AX (Ap (Ap l ha) 0)) (Ap (Ap l ha) 1) ([]:List Ac) (AX (Ap (Ap l ha) 2)))]:List Ar))),.row (.slice (some ⟨hG,0,none⟩) 1 1) 65 4 (A4 Ah ([(Ar.mk (AX (Ap (Ap l ha) 0)) (Ap (Ap l ha) 1) ([]:List Ac) (AX (Ap (Ap l ha) 2)))]:List Ar)),.blk ho [At (AX (Ap (Ap l ha) 0)),rS (Ap (Ap l ha) 1),rv (.slice none 0 0),At (AX (Ap (Ap l ha) 2))] 65,.blk b2 [rS hi,rS hh,At hf,AY 4 (A4 Ab hd),rv ht,At he] 34,.blk b1 [rS ([]:Al),rS ([]:Al),At 0,rv (.slice none 0 0),rv (.slice none 0 0),At 0] 34]) Aa (Am (AG (AG (BU (H2:=[.blk b2 [rS hi,rS hh,At hf,AY 4 (A4 Ab hd),rv ht,At he] 34,.blk b1 [rS ([]:Al),rS ([]:Al),At 0,rv (.slice none 0 0),rv (.slice none 0 0),At 0] 34,.row ht 65 4 (A4 Ah (hg++([(Ar.mk (AX (Ap (Ap l ha) 0)) (Ap (Ap l ha) 1) ([]:List Ac) (AX (Ap (Ap l ha) 2)))]:List Ar))),.row (.slice (some ⟨hG,0,none⟩) 1 1) 65 4 (A4 Ah ([(Ar.mk (AX (Ap (Ap l ha) 0)) (Ap (Ap l ha) 1) ([]:List Ac) (AX (Ap (Ap l ha) 2)))]:List Ar)),.blk ho [At (AX (Ap (Ap l ha) 0)),rS (Ap (Ap l ha) 1),rv (.slice none 0 0),At (AX (Ap (Ap l ha) 2))] 65]) ((As (i:=3) Aa).trans (Abp _ ((As (i:=3) Aa).trans (Abp _ (Abq _))))) (Aw (AI ((hi,hh,hf,hd,hg++([(Ar.mk (AX (Ap (Ap l ha) 0)) (Ap (Ap l ha) 1) ([]:List Ac) (AX (Ap (Ap l ha) 2)))]:List Ar),he),ht) gP (AL.c5 Aa Aa Aa Aa Aa AL.nil) (sC (sC (sC (sS (sS sN))))))))))))
     ·refine Ak (wv (Bf (i:=0) Gh Ec Aa Aa Aa Aa) (Br (i:=1) Ec Aa Aa Aa ⟨(BD Aa),(BD Aa),(BD Aa),(BD Aa),(CB (i:=2) Aa),(BD Aa),trivial⟩ Aa Aa (cs':=[rS hi,rS hh,At hf,AY 4 (A4 Ab hd),rv hb,At he]) Aa (H':=[.blk b2 [rS hi,rS hh,At hf,AY 4 (A4 Ab hd),rv hb,At he] 34,.blk b1 [rS hi,rS hh,At hf,AY 4 (A4 Ab hd),rv hb,At he] 34,.row hb 65 4 (A4 Ah hg)]) Aa (wa Aa (Av (A1 (AC (AC (Ae (Ae (Bj ?_))))))))));have gQ:=BB gt hq hr;refine AC (Ae (WK.freeze (i:=2) Aa (WK.upBlk (i:=2) (cs':=[rS hi,rS hh,At hf,AY 4 (A4 Ab hd),AY 4 (A4 Ah hg),At he]) Aa ⟨Up.refl _,Up.refl _,Up.refl _,Up.refl _,Up.fact (i:=0) Aa,Up.refl _,trivial⟩ ?_)));obtain rfl:=A5 gQ;exact A0 (DJ Uv (Io (i:=2) Gh Ec Aa Aa Aa) (AM Aa)) (sS (sS (sS sN))) ⟨Aa,Aa⟩
   ·rintro⟨⟨h6,h7,h8,h9,hA,hB⟩,hC⟩ h2;refine BW (l':=[(2,rP b1 0),(4,rP b2 0),(14,AY 1 (A4 Bm l)),(15,At (l.length:Int)),(16,At ha)]) (H':=[.blk b2 [rS h6,rS h7,At h8,AY 4 (A4 Ab h9),rv hC,At hB] 34,.blk b1 [rS ([]:Al),rS ([]:Al),At 0,rv (.slice none 0 0),rv (.slice none 0 0),At 0] 34,.row hC 65 4 (A4 Ah hA)]) Aa Aa ?_;replace h2:Gu ha h6 h7 h8 h9 hA hB=some h5:=h2;unfold Gu at h2;refine Ai (ck h2 λgR gS=>wv (Bz Aa Aa gR) (wm Aa (Am ?_)));have gT:=Bk gS hq;exact Aw (AI (hK,(ha+1,h6,h7,h8,h9,hA,hB),hC) ⟨gT,Aby _⟩ (AL.c5 Aa Aa Aa Aa Aa AL.nil) (sC (sC (sC sN))))
  ·refine Bx (A6 ?_);have gU:=BX hO hq hr;exact A6 (Be (AI ((hi,hh,hf,hd,hg,he),hb) gU (AL.c Aa (AL.c Aa AL.nil)) (sC (sC (sC sN)))))
 ·rintro⟨⟨hu,hw,hx,hy,h3,hz⟩,h0⟩ h4;refine Cy (l':=[(2,rP b1 0),(4,rP b2 0)]) (H':=[.blk b2 [rS hu,rS hw,At hx,AY 4 (A4 Ab hy),rv h0,At hz] 34,.blk b1 [rS ([]:Al),rS ([]:Al),At 0,rv (.slice none 0 0),rv (.slice none 0 0),At 0] 34,.row h0 65 4 (A4 Ah h3)]) Aa Aa ?_;replace h4:IS hu hw hx hy h3 hz=some r:=h4;unfold IS at h4;refine Bc (AP (Ak (wv (Bf (i:=0) Gh Ec Aa Aa Aa Aa) (Br (i:=1) Ec Aa Aa Aa ⟨(BD Aa),(BD Aa),(BD Aa),(BD Aa),(CB (i:=2) Aa),(BD Aa),trivial⟩ Aa Aa (cs':=[rS hu,rS hw,At hx,AY 4 (A4 Ab hy),rv h0,At hz]) Aa (H':=[.blk b2 [rS hu,rS hw,At hx,AY 4 (A4 Ab hy),rv h0,At hz] 34,.blk b1 [rS hu,rS hw,At hx,AY 4 (A4 Ab hy),rv h0,At hz] 34,.row h0 65 4 (A4 Ah h3)]) Aa (wa Aa (Av (A1 (WK.freeze (i:=2) Aa (WK.upBlk (i:=2) (cs':=[rS hu,rS hw,At hx,AY 4 (A4 Ab hy),AY 4 (A4 Ah h3),At hz]) Aa ⟨Up.refl _,Up.refl _,Up.refl _,Up.refl _,Up.fact (i:=0) Aa,Up.refl _,trivial⟩ ?_)))))))));obtain rfl:=A5 h4;exact A0 (DJ Uv (Io (i:=2) Gh Ec Aa Aa Aa) (AM Aa)) (sS (sS (sS sN))) ⟨Aa,Aa⟩
end Go.Proofs.YtfobhhegpkinaaaGreatDoor.Q
namespace Go.Proofs.YtfobhhegpkinaaaGreatDoor
open Go
set_option linter.unusedVariables false
structure BN where
 fKey:Al
 fValue:(List Ac)
 fVersion:Int
 deriving DecidableEq,Inhabited
structure Nq where
 fTenant:Al
 fItem:BN
 deriving DecidableEq,Inhabited
structure OP where
 fEvent:Al
 fResult:(List Ac)
 deriving DecidableEq,Inhabited
structure VC where
 fMade:Bool
 fEvents:(List OP)
 fItems:(List Nq)
 fPending:(List A3)
 deriving DecidableEq,Inhabited
def CQ (n:Int):Option (Bool):=
 some ((decide (0≤n))&&(decide (n≤1073741824)))
def EM (k:Int):Option (Bool):=
 some ((decide (k=3))||((decide (k=4))||(decide (k=5))))
def LF (F:Nat)(event:Al)(i:Int)(x:Ar):Option (Int):=
 B2 (((decide (x.fKind<1))||(decide (5<x.fKind)))) (some 7) (Ba (CX 1 x.fKey.length)<|B2 (((decide (x.fKind=3))||(decide (x.fKind=4)))) (B2 (!(Dx x.fKey)) (some 4) (B2 (decide (x.fKind=2)) (B2 (decide (0<(x.fValue.length:Int))) (some 7) (Ba (imp (decide (x.fKind=5)) (CP 0 (x.fValue.length:Int)))<|Ba (imp (decide (x.fKind=5)) (imp (!(!decide (((Ap x.fValue 0).fKind)=5))) (imp (!(decide (((Ap x.fValue 0).fN)=0))) (CP 1 (x.fValue.length:Int)))))<|B2 (((decide (x.fKind=5))&&((!decide (((Ap x.fValue 0).fKind)=5))||((decide (((Ap x.fValue 0).fN)=0))||(!decide (((Ap x.fValue 1).fKind)=4)))))) (some 7) (Ba (imp (decide (x.fKind=4)) ((CQ x.fDelay).isSome))<|B2 ((bif decide (x.fKind=4) then !(ov (CQ x.fDelay)) else !decide (x.fDelay=0))) (some 2) (B3 (EM x.fKind) λhd=>B2 (!hd) (some 0) (Ba (CX 1 event.length)<|Ba (BF .i64 i)<|some (Cg event i)))))) (B3 (JK F x.fValue) λha=>B2 (!decide (ha=0)) (some ha) (Ba (imp (decide (x.fKind=5)) (CP 0 (x.fValue.length:Int)))<|Ba (imp (decide (x.fKind=5)) (imp (!(!decide (((Ap x.fValue 0).fKind)=5))) (imp (!(decide (((Ap x.fValue 0).fN)=0))) (CP 1 (x.fValue.length:Int)))))<|B2 (((decide (x.fKind=5))&&((!decide (((Ap x.fValue 0).fKind)=5))||((decide (((Ap x.fValue 0).fN)=0))||(!decide (((Ap x.fValue 1).fKind)=4)))))) (some 7) (Ba (imp (decide (x.fKind=4)) ((CQ x.fDelay).isSome))<|B2 ((bif decide (x.fKind=4) then !(ov (CQ x.fDelay)) else !decide (x.fDelay=0))) (some 2) (B3 (EM x.fKind) λhe=>B2 (!he) (some 0) (Ba (CX 1 event.length)<|Ba (BF .i64 i)<|some (Cg event i)))))))) (B2 (!(HR x.fKey)) (some 4) (B2 (decide (x.fKind=2)) (B2 (decide (0<(x.fValue.length:Int))) (some 7) (Ba (imp (decide (x.fKind=5)) (CP 0 (x.fValue.length:Int)))<|Ba (imp (decide (x.fKind=5)) (imp (!(!decide (((Ap x.fValue 0).fKind)=5))) (imp (!(decide (((Ap x.fValue 0).fN)=0))) (CP 1 (x.fValue.length:Int)))))<|B2 (((decide (x.fKind=5))&&((!decide (((Ap x.fValue 0).fKind)=5))||((decide (((Ap x.fValue 0).fN)=0))||(!decide (((Ap x.fValue 1).fKind)=4)))))) (some 7) (Ba (imp (decide (x.fKind=4)) ((CQ x.fDelay).isSome))<|B2 ((bif decide (x.fKind=4) then !(ov (CQ x.fDelay)) else !decide (x.fDelay=0))) (some 2) (B3 (EM x.fKind) λhf=>B2 (!hf) (some 0) (Ba (CX 1 event.length)<|Ba (BF .i64 i)<|some (Cg event i)))))) (B3 (JK F x.fValue) λhb=>B2 (!decide (hb=0)) (some hb) (Ba (imp (decide (x.fKind=5)) (CP 0 (x.fValue.length:Int)))<|Ba (imp (decide (x.fKind=5)) (imp (!(!decide (((Ap x.fValue 0).fKind)=5))) (imp (!(decide (((Ap x.fValue 0).fN)=0))) (CP 1 (x.fValue.length:Int)))))<|B2 (((decide (x.fKind=5))&&((!decide (((Ap x.fValue 0).fKind)=5))||((decide (((Ap x.fValue 0).fN)=0))||(!decide (((Ap x.fValue 1).fKind)=4)))))) (some 7) (Ba (imp (decide (x.fKind=4)) ((CQ x.fDelay).isSome))<|B2 ((bif decide (x.fKind=4) then !(ov (CQ x.fDelay)) else !decide (x.fDelay=0))) (some 2) (B3 (EM x.fKind) λhg=>B2 (!hg) (some 0) (Ba (CX 1 event.length)<|Ba (BF .i64 i)<|some (Cg event i)))))))))
def DM (F:Nat)(c:AS)(ha:Int):Option (Stp (Int) (Out (Int) (Unit))):=
 B2 (decide (ha<(c.fEffects.length:Int))) (Ba (CP ha (c.fEffects.length:Int))<|B3 (LF F c.fEvent ha (Ap c.fEffects ha)) λhb=>B2 (!decide (hb=0)) (some (.out (.ret hb))) (Ba (BF .i64 (ha+1))<|some (.next (ha+1)))) (some (.out (.go ())))
def G5 :Option (Int):=
 some 0
def DW (F:Nat)(c:AS):Option (Int):=
 Ba (CX 1 c.fEvent.length)<|Ba (imp (!(!(HR c.fEvent))) (CX 1 c.fTenant.length))<|B2 (((!(HR c.fEvent))||(!(Dx c.fTenant)))) (some 4) (Ba (imp (!(decide (c.fAttempt<1))) (imp (!(decide (1073741824<c.fAttempt))) ((CQ c.fAt).isSome)))<|B2 (((decide (c.fAttempt<1))||((decide (1073741824<c.fAttempt))||(!(ov (CQ c.fAt)))))) (some 2) (B3 (JK F c.fResult) λha=>B2 (!decide (ha=0)) (some ha) (B2 (decide (32<(c.fEffects.length:Int))) (some 3) (B3 (Ci (λσ=>DM F c σ) F 0) (BS λν=>G5 )))))
def Ek (F:Nat)(l:(List (List Al)))(hd:(List Al))(ha:Int):Option (Stp ((List Al)×Int) (Out (Al×Int) ((List Al)))):=
 B2 (decide (ha<(l.length:Int))) (Ba (CP ha (l.length:Int))<|B3 (Ol F (Ap l ha)) λhb=>B2 (!decide (hb.2=0)) (some (.out (.ret (([]:Al),hb.2)))) (Ba (CX 16 (hd.length+([hb.1]:List Al).length))<|Ba (BF .i64 (ha+1))<|some (.next (hd++([hb.1]:List Al),ha+1)))) (some (.out (.go hd)))
def EE (F:Nat)(hb:(List Al)):Option (Al×Int):=
 B3 (Om F hb) λha=>some (ha.1,ha.2)
def Kn (F:Nat)(l:(List (List Al))):Option (Al×Int):=
 B3 (Ci (λσ=>Ek F l σ.1 σ.2) F (([]:List Al),0)) (BS λν=>EE F ν)
def Kk (F:Nat)(v:(List Ac)):Option (Al):=
 B2 (decide ((v.length:Int)=0)) (some ([]:Al)) (B3 (LE F v) λr4=>some r4.1)
def D7 (F:Nat)(c:AS)(hb:(List (List Al)))(ha:Int):Option (Stp ((List (List Al))×Int) (Out (Al×Int) ((List (List Al))))):=
 B2 (decide (ha<(c.fEffects.length:Int))) (Ba (CP ha (c.fEffects.length:Int))<|Ba (BF .i64 ((Ap c.fEffects ha).fKind))<|Ba (BF .i64 ((Ap c.fEffects ha).fDelay))<|B3 (Kk F ((Ap c.fEffects ha).fValue)) λhd=>Ba (CX 24 (hb.length+([([Lib.itoa ((Ap c.fEffects ha).fKind),(Ap c.fEffects ha).fKey,Lib.itoa ((Ap c.fEffects ha).fDelay),hd]:List Al)]:List (List Al)).length))<|Ba (BF .i64 (ha+1))<|some (.next (hb++([([Lib.itoa ((Ap c.fEffects ha).fKind),(Ap c.fEffects ha).fKey,Lib.itoa ((Ap c.fEffects ha).fDelay),hd]:List Al)]:List (List Al)),ha+1))) (some (.out (.go hb)))
def DS (F:Nat)(hb:(List (List Al))):Option (Al×Int):=
 B3 (Kn F hb) λha=>some (ha.1,ha.2)
def GY (F:Nat)(c:AS):Option (Al×Int):=
 B3 (DW F c) λr2=>B2 (!decide (r2=0)) (some (([]:Al),r2)) (Ba (BF .i64 c.fAttempt)<|Ba (BF .i64 c.fAt)<|B3 (Kk F c.fResult) λha=>B3 (Ci (λσ=>D7 F c σ.1 σ.2) F (([([([99,111,109,109,105,116]:Al),c.fEvent,c.fTenant,Lib.itoa c.fAttempt,Lib.itoa c.fAt,ha]:List Al)]:List (List Al)),0)) (BS λν=>DS F ν))
def EW (F:Nat)(id:Al):Option (Al×Int):=
 Ba (CX 1 id.length)<|B2 (!(HR id)) (some (([]:Al),4)) (B3 (Kn F ([([([97,99,107]:Al),id]:List Al)]:List (List Al))) λr8=>some (r8.1,r8.2))
end Go.Proofs.YtfobhhegpkinaaaGreatDoor
namespace Go.Proofs.YtfobhhegpkinaaaGreatDoor.Q
open Go Go.RowKit
set_option linter.unusedVariables false
section
variable {P : Program} {n : Nat} {c : Cx} {x : Code} {Q : Exit → Act → World → Prop} {l : Fr} {H : List Ent}
end
section
variable {P : Program} {n : Nat} {c : Cx} {opsA : Array Oper} {Q : Exit → Act → World → Prop} {l : Fr} {H : List Ent} {d : Nat} {ty : TypeId} {pos : String} {af : Array Edge}
end
section
variable {P : Program} {n : Nat} {c : Cx} {l : Fr} {H : List Ent} {d : Option Nat} {ty rty t e e' : TypeId} {pos : String} {af : Array Edge} {g : Option (Nat × Bool)} {x : Operand} {sz : Nat} {xs : List (List Rp)} {v : Value}
theorem P8 (i:Nat)(ht:P.underlying t=some (.slice e))(h:ev l x=some (rv v))(hi:H[i]? =some (.row v e' sz xs)):B0 P n c l H { dst:=d,op:=.binOp .eql t x (.const (.slice none 0 0)) rty,type:=ty,pos:=pos,after:=af,guard:=g } (rBx (λb=>b=true→xs=[])):=λa w Z ha hw=>by
 obtain⟨_,_,_,A,cap,e0,h1,h2,h3,h4⟩:=hw.freeze hi;have e1:a.eval x = .slice A xs.length cap:=(ha.ev h:a.eval x=v).trans e0;refine⟨.bool A.isNone,⟨_,rfl,λhb=>?_⟩,?_⟩
 ·cases A with
  | some a=>cases hb
  | none=>
   have:=h3 rfl;exact List.length_eq_zero_iff.1 (by omega)
 ·have:=run_equal_slice_nil (P:=P) w t e A xs.length cap ht;have e2:a.eval (.const (.slice none 0 0)) = .slice none 0 0:=rfl;simp[execOp,e1,e2,binOp,this,eqGuard]
end
set_option linter.unusedSimpArgs false
set_option maxRecDepth 100000
set_option maxHeartbeats 4000000
@[reducible] def Cw (x:BN):List Rp:=[rS x.fKey,AY 4 (A4 Ab x.fValue),At x.fVersion]
theorem KY (x:BN):(Cw x).length=3:=rfl
theorem Pk (x:BN):(Cw x).all (·.one)=true:=rfl
theorem ZF:∃inf,Tryz.prog.info? 75=some inf∧inf.zero=some (.agg #[(.string ⟨#[]⟩),(.slice none 0 0),(.int .i64 0)])∧inf.size=3∧inf.bytes=48:=by
  have key:(Tryz.prog.info? 75).map (λi=>(i.zero,i.size,i.bytes))=some (some (.agg #[(.string ⟨#[]⟩),(.slice none 0 0),(.int .i64 0)]),3,48):=by kernel_rfl
  obtain⟨inf,h1,h2⟩:=Option.map_eq_some_iff.1 key;simp only[Prod.mk.injEq] at h2;exact⟨inf,h1,h2.1,h2.2.1,h2.2.2⟩
theorem YU (parts:List (Nat×Value)):Tryz.prog.built 34 parts=Instr.fill (λi=>(#[(0,1),(1,1),(2,1),(3,1),(4,1),(5,1)]:Array (Nat×Nat))[i]?) #[(.string ⟨#[]⟩),(.string ⟨#[]⟩),(.int .i64 0),((.slice none 0 0)),((.slice none 0 0)),(.int .i64 0)] parts:=by kernel_rfl
theorem YS (parts:List (Nat×Value)):Tryz.prog.built 67 parts=Instr.fill (λi=>(#[(0,1),(1,1),(2,1),(3,1),(4,4)]:Array (Nat×Nat))[i]?) #[(.string ⟨#[]⟩),(.string ⟨#[]⟩),(.string ⟨#[]⟩),(.int .i64 0),(.int .i64 0),(.string ⟨#[]⟩),((.slice none 0 0)),(.int .i64 0)] parts:=by kernel_rfl
theorem GK {n:Nat}{c:Cx}{l:Fr}{H:List Ent}{d:Option Nat}{ty:TypeId}{pos:String}{af:Array Edge}{g:Option (Nat×Bool)}{x0:Operand}{r0:Rp}(h0:ev l x0=some r0)(u0:r0.one=true){x1:Operand}{r1:Rp}(h1:ev l x1=some r1)(u1:r1.one=true){x2:Operand}{r2:Rp}(h2:ev l x2=some r2)(u2:r2.one=true){x3:Operand}{r3:Rp}(h3:ev l x3=some r3)(u3:r3.one=true){x4:Operand}{r4_0 r4_1 r4_2 r4_3:Rp}(h4:ev l x4=some (BQ [r4_0,r4_1,r4_2,r4_3])):B0 Tryz.prog n c l H { dst:=d,op:=.build 67 #[(0,x0),(1,x1),(2,x2),(3,x3),(4,x4)],type:=ty,pos:=pos,after:=af,guard:=g } (BQ [r0,r1,r2,r3,r4_0,r4_1,r4_2,r4_3]):=λa w Z ha _=>by
  have p0:=ha.ev h0;have c0:=B6 (r0.hone u0 Z _ p0);have p1:=ha.ev h1;have c1:=B6 (r1.hone u1 Z _ p1);have p2:=ha.ev h2;have c2:=B6 (r2.hone u2 Z _ p2);have p3:=ha.ev h3;have c3:=B6 (r3.hone u3 Z _ p3);obtain⟨us4,e4,q4⟩:=ha.ev h4;obtain⟨y4_0,y4_1,y4_2,y4_3,rfl,q4⟩:=Bo.d4 q4;have cg:∀cs:Array Value,(Value.agg cs).cells=cs:=λ_=>rfl;have hb:Tryz.prog.built 67 [(0,a.eval x0),(1,a.eval x1),(2,a.eval x2),(3,a.eval x3),(4,a.eval x4)]=some #[a.eval x0,a.eval x1,a.eval x2,a.eval x3,y4_0,y4_1,y4_2,y4_3]:=by
    rw[YS];generalize a.eval x0=v0 at *;generalize a.eval x1=v1 at *;generalize a.eval x2=v2 at *;generalize a.eval x3=v3 at *;simp[Instr.fill,c0,c1,c2,c3,e4,cg]
  refine⟨.agg #[a.eval x0,a.eval x1,a.eval x2,a.eval x3,y4_0,y4_1,y4_2,y4_3],⟨[a.eval x0,a.eval x1,a.eval x2,a.eval x3,y4_0,y4_1,y4_2,y4_3],rfl,p0,p1,p2,p3,q4.1,q4.2.1,q4.2.2.1,q4.2.2.2.1,trivial⟩,?_⟩;have:=run_build w 67 #[(0,a.eval x0),(1,a.eval x1),(2,a.eval x2),(3,a.eval x3),(4,a.eval x4)] _ (by simpa using hb);simp[execOp,this]
theorem YR (parts:List (Nat×Value)):Tryz.prog.built 75 parts=Instr.fill (λi=>(#[(0,1),(1,1),(2,1)]:Array (Nat×Nat))[i]?) #[(.string ⟨#[]⟩),((.slice none 0 0)),(.int .i64 0)] parts:=by kernel_rfl
theorem Ni {n:Nat}{c:Cx}{l:Fr}{H:List Ent}{d:Option Nat}{ty:TypeId}{pos:String}{af:Array Edge}{g:Option (Nat×Bool)}{x0:Operand}{r0:Rp}(h0:ev l x0=some r0)(u0:r0.one=true){x1:Operand}{r1:Rp}(h1:ev l x1=some r1)(u1:r1.one=true){x2:Operand}{r2:Rp}(h2:ev l x2=some r2)(u2:r2.one=true):B0 Tryz.prog n c l H { dst:=d,op:=.build 75 #[(0,x0),(1,x1),(2,x2)],type:=ty,pos:=pos,after:=af,guard:=g } (BQ [r0,r1,r2]):=λa w Z ha _=>by
  have p0:=ha.ev h0;have c0:=B6 (r0.hone u0 Z _ p0);have p1:=ha.ev h1;have c1:=B6 (r1.hone u1 Z _ p1);have p2:=ha.ev h2;have c2:=B6 (r2.hone u2 Z _ p2);have hb:Tryz.prog.built 75 [(0,a.eval x0),(1,a.eval x1),(2,a.eval x2)]=some #[a.eval x0,a.eval x1,a.eval x2]:=by
    rw[YR];generalize a.eval x0=v0 at *;generalize a.eval x1=v1 at *;generalize a.eval x2=v2 at *;simp[Instr.fill,c0,c1,c2]
  refine⟨.agg #[a.eval x0,a.eval x1,a.eval x2],⟨[a.eval x0,a.eval x1,a.eval x2],rfl,p0,p1,p2,trivial⟩,?_⟩;have:=run_build w 75 #[(0,a.eval x0),(1,a.eval x1),(2,a.eval x2)] _ (by simpa using hb);simp[execOp,this]
theorem JI (n:Int)(r:Bool)(h:CQ n=some r):Fn Tryz.prog GE 59 [At n] [] (λR H=>R=rB r∧H=[]):=by
 refine enter (n:=9) Tryz.func59 Aa Tryz.ntmps59 Aa (λw Z=>?_);unfold CQ at h;refine Ak (wa Aa (Av (AH [(2,rB ((decide (0≤n))&&(decide (n≤1073741824))))] [] ?_ ?_)))
 ·refine Ai (wm Aa (wv (GH Aa Aa) (wm Aa (AO (decide (0≤n)) (λc1=>?_) (λc1=>?_)))))
  ·refine wo c1 (wm Aa (wo c1 (wv (KL Aa Aa) (Er Aa c1 Aa (wa Aa (Am ?_))))));exact BV c1
  ·refine wf c1 (wf c1 (wv (r:=rB false) (A8 Aa c1 Aa) (wa Aa (Am ?_))));exact BV c1
 refine A1 ?_;obtain rfl:=A5 h;exact A0 (BJ Tryz.results59 (AM Aa)) sN ⟨Aa,Aa⟩
theorem HF (k:Int)(r:Bool)(h:EM k=some r):Fn Tryz.prog GE 73 [At k] [] (λR H=>R=rB r∧H=[]):=by
 refine enter (n:=13) Tryz.func73 Aa Tryz.ntmps73 Aa (λw Z=>?_);unfold EM at h;refine Ak (wa Aa (Av (AH [(2,rB ((decide (k=3))||((decide (k=4))||(decide (k=5)))))] [] ?_ ?_)))
 ·refine Ai (wm Aa (wv (B5 Aa Aa) (wm Aa (AO (decide (k=3)) (λc1=>?_) (λc1=>?_)))))
  ·refine wf c1 (wf c1 (wv (r:=rB true) (A2 Aa c1 Aa) (wm Aa (wz Aa Aa (wz Aa Aa (wv (r:=rB true) (A2 (b:=true) Aa Aa Aa) (wa Aa (Am ?_))))))));exact BV c1
  ·refine wo c1 (wm Aa (wo c1 (wv (B5 Aa Aa) (E2 Aa c1 Aa (wm Aa (AO (decide (k=4)) (λc2=>?_) (λc2=>?_)))))))
   ·refine wf c2 (wf c2 (wv (r:=rB true) (A2 Aa c2 Aa) (wa Aa (Am ?_))));exact BV (And.intro c1 c2)
   ·refine wo c2 (wm Aa (wo c2 (wv (B5 Aa Aa) (E2 Aa c2 Aa (wa Aa (Am ?_))))));exact BV (And.intro c1 c2)
 refine A1 ?_;obtain rfl:=A5 h;exact A0 (BJ Tryz.results73 (AM Aa)) sN ⟨Aa,Aa⟩
theorem UO (F:Nat)(event:Al)(i:Int)(x:Ar)(r:Int)(h:LF F event i x=some r):Fn Tryz.prog GE 61 [rS event,At i,BQ (Ah x)] [] (λR H=>R=At r∧H=[]):=by
 refine enter (n:=105) Tryz.func61 Aa Tryz.ntmps61 Aa (λw Z=>?_);unfold LF at h;refine Ak (C3 Aa Aa (λb1=>?_));refine wa Aa (Av (An (AH [(0,rS event),(1,At i),(5,rP b1 0),(18,rB ((decide (x.fKind<1))||(decide (5<x.fKind))))] [.blk b1 (Ah x) 65] ?_ ?_)))
 ·refine Ai (vF BP Aa D4 (vL 0 D5 Aa (wv (C0 Aa Aa) (wm Aa (AO (decide (x.fKind<1)) (λc2=>?_) (λc2=>?_))))))
  ·refine wf c2 (wf c2 (wf c2 (wv (r:=rB true) (A2 Aa c2 Aa) (Am ?_))));exact BV c2
  ·refine wo c2 (vF BP Aa D4 (wo c2 (vL 0 D5 Aa (wo c2 (wv (CI Aa Aa) (E2 Aa c2 Aa (Am ?_)))))));exact BV c2
 refine cz h Aa (λc3 h4=>?_) (λc3 h5=>?_)
 ·refine Ak (wa Aa (Av (A1 (Ae ?_))));obtain rfl:=A5 h4;exact A0 (BJ Hh (AM Aa)) (sS sN) ⟨Aa,Aa⟩
 ·refine Ay (AP (Ak (vF BP Aa Cv (vL 0 CD Aa (ck h5 λg6 h7=>Cz (rs:=[rS x.fKey]) (r:=rB (HR x.fKey)) Tryz.call57 Aa (Xo x.fKey g6) Aa Aa (wa Aa (Av (An (AH [(0,rS event),(1,At i),(5,rP b1 0),(7,rB (HR x.fKey)),(29,rB ((decide (x.fKind=3))||(decide (x.fKind=4))))] [.blk b1 (Ah x) 65] ?_ ?_)))))))))
  ·refine Ai (vF BP Aa D4 (vL 0 D5 Aa (wv (B5 Aa Aa) (wm Aa (AO (decide (x.fKind=3)) (λc8=>?_) (λc8=>?_))))))
   ·refine wf c8 (wf c8 (wf c8 (wv (r:=rB true) (A2 Aa c8 Aa) (Am ?_))));exact BV c8
   ·refine wo c8 (vF BP Aa D4 (wo c8 (vL 0 D5 Aa (wo c8 (wv (B5 Aa Aa) (E2 Aa c8 Aa (Am ?_)))))));exact BV c8
  refine cz h7 Aa (λc9 hy=>?_) (λc9 hz=>?_)
  ·refine Ai (vF BP Aa Cv (vL 0 CD Aa (Cz (rs:=[rS x.fKey]) (r:=rB (Dx x.fKey)) Tryz.call58 Aa (TU x.fKey g6) Aa Aa (wa Aa (Av (An (Ak (wm Aa (wv (BE Aa) (Av (cz hy Aa (λh0 h1=>?_) (λh0 h2=>?_))))))))))))
   ·refine Ak (wa Aa (Av (A1 (Ae ?_))));obtain rfl:=A5 h1;exact A0 (BJ Hh (AM Aa)) (sS sN) ⟨Aa,Aa⟩
   ·refine Ay (AP (An (Ak (vF BP Aa D4 (vL 0 D5 Aa (wv (B5 Aa Aa) (Av (cz h2 Aa (λh3 h6=>?_) (λh3 h8=>?_)))))))))
    ·refine Ak (vF BP Aa C5 (vL 0 Dt Aa (wv (Bq (ys:=x.fValue) (enc:=Ab) Co Aa) (wv (CI Aa Aa) (Av (cz h6 Aa (λh9 hA=>?_) (λh9 hB=>?_)))))))
     ·refine Ak (wa Aa (Av (A1 (Ae ?_))));obtain rfl:=A5 hA;exact A0 (BJ Hh (AM Aa)) (sS sN) ⟨Aa,Aa⟩
     ·refine Ay (AP (An (ck hB λg19 hC=>ck hC λhD hE=>AH [(0,rS event),(1,At i),(5,rP b1 0),(74,rB ((decide (x.fKind=5))&&((!decide (((Ap x.fValue 0).fKind)=5))||((decide (((Ap x.fValue 0).fN)=0))||(!decide (((Ap x.fValue 1).fKind)=4))))))] [.blk b1 (Ah x) 65] ?_ ?_)))
      ·refine Ai (vF BP Aa D4 (vL 0 D5 Aa (wv (B5 Aa Aa) (wm Aa (AO (decide (x.fKind=5)) (λha=>?_) (λha=>?_))))))
       ·refine wo ha (vF BP Aa C5 (wo ha (vL 0 Dt Aa (wo ha (wv (By (enc:=Ab) (ys:=x.fValue) Co CC Aa Aa (Cr g19 ha)) (wo ha (wv (Bi B9 Aa DC Aa Aa) (wo ha (wv (Bg DD Aa Aa) (wo ha (wv (BT Aa Aa) (wo ha (wm Aa (AO (!decide (((Ap x.fValue 0).fKind)=5)) (λhi=>?_) (λhi=>?_)))))))))))))))
        ·refine wf hi (wf hi (wf hi (wf hi (wf hi (wf hi (wo ha (wv (r:=rB true) (A2 Aa hi Aa) (wo ha (wm Aa (wz Aa Aa (wz Aa Aa (wz Aa Aa (wz Aa Aa (wz Aa Aa (wz Aa Aa (wo ha (wv (r:=rB true) (A2 (b:=true) Aa Aa Aa) (Er Aa ha Aa (Am ?_)))))))))))))))))));exact BV (And.intro ha hi)
        ·refine wo hi (vF BP Aa C5 (wo hi (vL 0 Dt Aa (wo hi (wv (By (enc:=Ab) (ys:=x.fValue) Co CC Aa Aa (Cr g19 ha)) (wo hi (wv (Bi B9 Aa C6 Aa Aa) (wo hi (wv (Bg CM Aa Aa) (wo hi (wv (B5 Aa Aa) (wo ha (E2 Aa hi Aa (wo ha (wm Aa (AO (decide (((Ap x.fValue 0).fN)=0)) (λhm=>?_) (λhm=>?_)))))))))))))))))
         ·refine wf hm (wf hm (wf hm (wf hm (wf hm (wf hm (wo ha (wv (r:=rB true) (A2 Aa hm Aa) (Er Aa ha Aa (Am ?_)))))))));exact BV (And.intro ha (And.intro hi hm))
         ·refine wo hm (vF BP Aa C5 (wo hm (vL 0 Dt Aa (wo hm (wv (By (enc:=Ab) (ys:=x.fValue) Co CC Aa Aa (CE (CE (Cr hD ha) hi) hm)) (wo hm (wv (Bi B9 Aa DC Aa Aa) (wo hm (wv (Bg DD Aa Aa) (wo hm (wv (BT Aa Aa) (wo ha (E2 Aa hm Aa (Er Aa ha Aa (Am ?_)))))))))))))));exact BV (And.intro ha (And.intro hi hm))
       ·refine wf ha (wf ha (wf ha (wf ha (wf ha (wf ha (wf ha (wu (wu (wu (wu (wu (wu (wf ha (wf ha (wu (wu (wu (wu (wu (wu (wf ha (wv (r:=rB false) (A8 Aa ha Aa) (Am ?_)))))))))))))))))))))));exact BV ha
      refine cz hE Aa (λhG hH=>?_) (λhG hI=>?_)
      ·refine Ak (wa Aa (Av (A1 (Ae ?_))));obtain rfl:=A5 hH;exact A0 (BJ Hh (AM Aa)) (sS sN) ⟨Aa,Aa⟩
      ·refine Ay (AP (An (ck hI λhJ hK=>AH [(0,rS event),(1,At i),(5,rP b1 0),(93,rB (bif decide (x.fKind=4) then !(ov (CQ x.fDelay)) else !decide (x.fDelay=0)))] [.blk b1 (Ah x) 65] ?_ ?_)))
       ·refine Ai (vF BP Aa D4 (vL 0 D5 Aa (wv (B5 Aa Aa) (wm Aa (AO (decide (x.fKind=4)) (λhe=>?_) (λhe=>?_))))))
        ·refine wo he (vF BP Aa C6 (wo he (vL 0 CM Aa (wo he (CG VR (JI x.fDelay (ov (CQ x.fDelay)) (E4 (Cr hJ he))) Aa (wo he (wv (BE Aa) (Er Aa he Aa (wm Aa (AO (!(ov (CQ x.fDelay))) (λhq=>?_) (λhq=>?_)))))))))))
         ·refine wf hq (wf hq (wf hq (wf hq (wu (wu (wu (wf hq (wv (r:=rB true) (A2 Aa hq Aa) (Am ?_)))))))));exact BV (And.intro he hq)
         ·refine wo hq (vF BP Aa D4 (wo hq (vL 0 D5 Aa (wo hq (wv (BT Aa Aa) (wo hq (wm Aa (A7 (b:=!decide (x.fKind=4)) Aa Aa (GB he) Aa (A7 (b:=!decide (x.fKind=4)) Aa Aa (GB he) Aa (A7 (b:=!decide (x.fKind=4)) Aa Aa (GB he) Aa (wo hq (wv (r:=rB false) (A8 (b:=!decide (x.fKind=4)) Aa (GB he) Aa) (E2 Aa hq Aa (Am ?_))))))))))))));exact BV (And.intro he hq)
        ·refine wf he (wf he (wf he (wf he (wv (r:=rB false) (A8 Aa he Aa) (wm Aa (AE (b:=false) Aa Aa Aa (vF BP Aa D4 (AE (b:=false) Aa Aa Aa (vL 0 D5 Aa (AE (b:=false) Aa Aa Aa (wv (BT Aa Aa) (AE (b:=false) Aa Aa Aa (wm Aa (AE (b:=!decide (x.fKind=4)) Aa Aa (Gm he) (vF BP Aa C6 (AE (b:=!decide (x.fKind=4)) Aa Aa (Gm he) (vL 0 CM Aa (AE (b:=!decide (x.fKind=4)) Aa Aa (Gm he) (wv (BT Aa Aa) (AE (b:=false) Aa Aa Aa (wv (r:=rB (!decide (x.fDelay=0))) (A2 (b:=!decide (x.fKind=4)) Aa (Gm he) Aa) (wv (r:=rB (!decide (x.fDelay=0))) (A8 (b:=false) Aa Aa Aa) (Am ?_)))))))))))))))))))))));exact BV he
       refine cz hK Aa (λhL hN=>?_) (λhL hO=>?_)
       ·refine Ak (wa Aa (Av (A1 (Ae ?_))));obtain rfl:=A5 hN;exact A0 (BJ Hh (AM Aa)) (sS sN) ⟨Aa,Aa⟩
       ·refine Ay (AP (An (Ak (vF BP Aa D4 (vL 0 D5 Aa (ob hO λhP hQ hR=>CG Tryz.call73 (HF x.fKind hP hQ) Aa (wv (BE Aa) (Av (cz hR Aa (λhS hT=>?_) (λhS hU=>?_))))))))))
        ·refine Ak (wa Aa (Av (A1 (Ae ?_))));obtain rfl:=A5 hT;exact A0 (BJ Hh (AM Aa)) (sS sN) ⟨Aa,Aa⟩
        ·refine Ay (AP (Ak (wm Aa (wm Aa (ck hU λhV hW=>ck hW λhX hY=>Cz (rs:=[rS event,At i]) (r:=C7 [rS (BY event i),At (Cg event i)]) Tryz.call74 Aa (Md event i hV hX) Aa Aa (wm Aa (wv (AA Aa Aa) (wv (AA Aa Aa) (wa Aa (wa Aa (Bs (wm Aa (wa Aa (Av (A1 ?_)))))))))))))));obtain rfl:=A5 hY;exact A0 (BJ Hh (AM Aa)) (sS sN) ⟨Aa,Aa⟩
    ·refine Ak (vF BP Aa C5 (vL 0 Dt Aa (ob h8 λhZ ga gb=>CG Tryz.call60 (LG F x.fValue hZ ga) Aa (wa Aa (Bs (wm Aa (wv (BT Aa Aa) (Av (cz gb Aa (λgc gd=>?_) (λgc ge=>?_))))))))))
     ·refine Ak (wm Aa (wa Aa (Av (A1 (Ae ?_)))));obtain rfl:=A5 gd;exact A0 (BJ Hh (AM Aa)) (sS sN) ⟨Aa,Aa⟩
     ·refine Ay (AP (An (ck ge λhu gf=>ck gf λgg gh=>AH [(0,rS event),(1,At i),(5,rP b1 0),(74,rB ((decide (x.fKind=5))&&((!decide (((Ap x.fValue 0).fKind)=5))||((decide (((Ap x.fValue 0).fN)=0))||(!decide (((Ap x.fValue 1).fKind)=4))))))] [.blk b1 (Ah x) 65] ?_ ?_)))
      ·refine Ai (vF BP Aa D4 (vL 0 D5 Aa (wv (B5 Aa Aa) (wm Aa (AO (decide (x.fKind=5)) (λhb=>?_) (λhb=>?_))))))
       ·refine wo hb (vF BP Aa C5 (wo hb (vL 0 Dt Aa (wo hb (wv (By (enc:=Ab) (ys:=x.fValue) Co CC Aa Aa (Cr hu hb)) (wo hb (wv (Bi B9 Aa DC Aa Aa) (wo hb (wv (Bg DD Aa Aa) (wo hb (wv (BT Aa Aa) (wo hb (wm Aa (AO (!decide (((Ap x.fValue 0).fKind)=5)) (λhj=>?_) (λhj=>?_)))))))))))))))
        ·refine wf hj (wf hj (wf hj (wf hj (wf hj (wf hj (wo hb (wv (r:=rB true) (A2 Aa hj Aa) (wo hb (wm Aa (wz Aa Aa (wz Aa Aa (wz Aa Aa (wz Aa Aa (wz Aa Aa (wz Aa Aa (wo hb (wv (r:=rB true) (A2 (b:=true) Aa Aa Aa) (Er Aa hb Aa (Am ?_)))))))))))))))))));exact BV (And.intro hb hj)
        ·refine wo hj (vF BP Aa C5 (wo hj (vL 0 Dt Aa (wo hj (wv (By (enc:=Ab) (ys:=x.fValue) Co CC Aa Aa (Cr hu hb)) (wo hj (wv (Bi B9 Aa C6 Aa Aa) (wo hj (wv (Bg CM Aa Aa) (wo hj (wv (B5 Aa Aa) (wo hb (E2 Aa hj Aa (wo hb (wm Aa (AO (decide (((Ap x.fValue 0).fN)=0)) (λhn=>?_) (λhn=>?_)))))))))))))))))
         ·refine wf hn (wf hn (wf hn (wf hn (wf hn (wf hn (wo hb (wv (r:=rB true) (A2 Aa hn Aa) (Er Aa hb Aa (Am ?_)))))))));exact BV (And.intro hb (And.intro hj hn))
         ·refine wo hn (vF BP Aa C5 (wo hn (vL 0 Dt Aa (wo hn (wv (By (enc:=Ab) (ys:=x.fValue) Co CC Aa Aa (CE (CE (Cr gg hb) hj) hn)) (wo hn (wv (Bi B9 Aa DC Aa Aa) (wo hn (wv (Bg DD Aa Aa) (wo hn (wv (BT Aa Aa) (wo hb (E2 Aa hn Aa (Er Aa hb Aa (Am ?_)))))))))))))));exact BV (And.intro hb (And.intro hj hn))
       ·refine wf hb (wf hb (wf hb (wf hb (wf hb (wf hb (wf hb (wu (wu (wu (wu (wu (wu (wf hb (wf hb (wu (wu (wu (wu (wu (wu (wf hb (wv (r:=rB false) (A8 Aa hb Aa) (Am ?_)))))))))))))))))))))));exact BV hb
      refine cz gh Aa (λgi gj=>?_) (λgi gl=>?_)
      ·refine Ak (wa Aa (Av (A1 (Ae ?_))));obtain rfl:=A5 gj;exact A0 (BJ Hh (AM Aa)) (sS sN) ⟨Aa,Aa⟩
      ·refine Ay (AP (An (ck gl λgm gp=>AH [(0,rS event),(1,At i),(5,rP b1 0),(93,rB (bif decide (x.fKind=4) then !(ov (CQ x.fDelay)) else !decide (x.fDelay=0)))] [.blk b1 (Ah x) 65] ?_ ?_)))
       ·refine Ai (vF BP Aa D4 (vL 0 D5 Aa (wv (B5 Aa Aa) (wm Aa (AO (decide (x.fKind=4)) (λhf=>?_) (λhf=>?_))))))
        ·refine wo hf (vF BP Aa C6 (wo hf (vL 0 CM Aa (wo hf (CG VR (JI x.fDelay (ov (CQ x.fDelay)) (E4 (Cr gm hf))) Aa (wo hf (wv (BE Aa) (Er Aa hf Aa (wm Aa (AO (!(ov (CQ x.fDelay))) (λhr=>?_) (λhr=>?_)))))))))))
         ·refine wf hr (wf hr (wf hr (wf hr (wu (wu (wu (wf hr (wv (r:=rB true) (A2 Aa hr Aa) (Am ?_)))))))));exact BV (And.intro hf hr)
         ·refine wo hr (vF BP Aa D4 (wo hr (vL 0 D5 Aa (wo hr (wv (BT Aa Aa) (wo hr (wm Aa (A7 (b:=!decide (x.fKind=4)) Aa Aa (GB hf) Aa (A7 (b:=!decide (x.fKind=4)) Aa Aa (GB hf) Aa (A7 (b:=!decide (x.fKind=4)) Aa Aa (GB hf) Aa (wo hr (wv (r:=rB false) (A8 (b:=!decide (x.fKind=4)) Aa (GB hf) Aa) (E2 Aa hr Aa (Am ?_))))))))))))));exact BV (And.intro hf hr)
        ·refine wf hf (wf hf (wf hf (wf hf (wv (r:=rB false) (A8 Aa hf Aa) (wm Aa (AE (b:=false) Aa Aa Aa (vF BP Aa D4 (AE (b:=false) Aa Aa Aa (vL 0 D5 Aa (AE (b:=false) Aa Aa Aa (wv (BT Aa Aa) (AE (b:=false) Aa Aa Aa (wm Aa (AE (b:=!decide (x.fKind=4)) Aa Aa (Gm hf) (vF BP Aa C6 (AE (b:=!decide (x.fKind=4)) Aa Aa (Gm hf) (vL 0 CM Aa (AE (b:=!decide (x.fKind=4)) Aa Aa (Gm hf) (wv (BT Aa Aa) (AE (b:=false) Aa Aa Aa (wv (r:=rB (!decide (x.fDelay=0))) (A2 (b:=!decide (x.fKind=4)) Aa (Gm hf) Aa) (wv (r:=rB (!decide (x.fDelay=0))) (A8 (b:=false) Aa Aa Aa) (Am ?_)))))))))))))))))))))));exact BV hf
       refine cz gp Aa (λgq gr=>?_) (λgq gs=>?_)
       ·refine Ak (wa Aa (Av (A1 (Ae ?_))));obtain rfl:=A5 gr;exact A0 (BJ Hh (AM Aa)) (sS sN) ⟨Aa,Aa⟩
       ·refine Ay (AP (An (Ak (vF BP Aa D4 (vL 0 D5 Aa (ob gs λgt gu gv=>CG Tryz.call73 (HF x.fKind gt gu) Aa (wv (BE Aa) (Av (cz gv Aa (λgw gx=>?_) (λgw gy=>?_))))))))))
        ·refine Ak (wa Aa (Av (A1 (Ae ?_))));obtain rfl:=A5 gx;exact A0 (BJ Hh (AM Aa)) (sS sN) ⟨Aa,Aa⟩
        ·refine Ay (AP (Ak (wm Aa (wm Aa (ck gy λgz g0=>ck g0 λg1 g2=>Cz (rs:=[rS event,At i]) (r:=C7 [rS (BY event i),At (Cg event i)]) Tryz.call74 Aa (Md event i gz g1) Aa Aa (wm Aa (wv (AA Aa Aa) (wv (AA Aa Aa) (wa Aa (wa Aa (Bs (wm Aa (wa Aa (Av (A1 ?_)))))))))))))));obtain rfl:=A5 g2;exact A0 (BJ Hh (AM Aa)) (sS sN) ⟨Aa,Aa⟩
  ·refine Ay (AP (An (Ak (wm Aa (wv (BE Aa) (Av (cz hz Aa (λg3 g4=>?_) (λg3 g5=>?_))))))))
   ·refine Ak (wa Aa (Av (A1 (Ae ?_))));obtain rfl:=A5 g4;exact A0 (BJ Hh (AM Aa)) (sS sN) ⟨Aa,Aa⟩
   ·refine Ay (AP (An (Ak (vF BP Aa D4 (vL 0 D5 Aa (wv (B5 Aa Aa) (Av (cz g5 Aa (λg7 g8=>?_) (λg7 g9=>?_)))))))))
    ·refine Ak (vF BP Aa C5 (vL 0 Dt Aa (wv (Bq (ys:=x.fValue) (enc:=Ab) Co Aa) (wv (CI Aa Aa) (Av (cz g8 Aa (λgA gB=>?_) (λgA gC=>?_)))))))
     ·refine Ak (wa Aa (Av (A1 (Ae ?_))));obtain rfl:=A5 gB;exact A0 (BJ Hh (AM Aa)) (sS sN) ⟨Aa,Aa⟩
     ·refine Ay (AP (An (ck gC λhw gD=>ck gD λgE gF=>AH [(0,rS event),(1,At i),(5,rP b1 0),(74,rB ((decide (x.fKind=5))&&((!decide (((Ap x.fValue 0).fKind)=5))||((decide (((Ap x.fValue 0).fN)=0))||(!decide (((Ap x.fValue 1).fKind)=4))))))] [.blk b1 (Ah x) 65] ?_ ?_)))
      ·refine Ai (vF BP Aa D4 (vL 0 D5 Aa (wv (B5 Aa Aa) (wm Aa (AO (decide (x.fKind=5)) (λhd=>?_) (λhd=>?_))))))
       ·refine wo hd (vF BP Aa C5 (wo hd (vL 0 Dt Aa (wo hd (wv (By (enc:=Ab) (ys:=x.fValue) Co CC Aa Aa (Cr hw hd)) (wo hd (wv (Bi B9 Aa DC Aa Aa) (wo hd (wv (Bg DD Aa Aa) (wo hd (wv (BT Aa Aa) (wo hd (wm Aa (AO (!decide (((Ap x.fValue 0).fKind)=5)) (λhk=>?_) (λhk=>?_)))))))))))))))
        ·refine wf hk (wf hk (wf hk (wf hk (wf hk (wf hk (wo hd (wv (r:=rB true) (A2 Aa hk Aa) (wo hd (wm Aa (wz Aa Aa (wz Aa Aa (wz Aa Aa (wz Aa Aa (wz Aa Aa (wz Aa Aa (wo hd (wv (r:=rB true) (A2 (b:=true) Aa Aa Aa) (Er Aa hd Aa (Am ?_)))))))))))))))))));exact BV (And.intro hd hk)
        ·refine wo hk (vF BP Aa C5 (wo hk (vL 0 Dt Aa (wo hk (wv (By (enc:=Ab) (ys:=x.fValue) Co CC Aa Aa (Cr hw hd)) (wo hk (wv (Bi B9 Aa C6 Aa Aa) (wo hk (wv (Bg CM Aa Aa) (wo hk (wv (B5 Aa Aa) (wo hd (E2 Aa hk Aa (wo hd (wm Aa (AO (decide (((Ap x.fValue 0).fN)=0)) (λho=>?_) (λho=>?_)))))))))))))))))
         ·refine wf ho (wf ho (wf ho (wf ho (wf ho (wf ho (wo hd (wv (r:=rB true) (A2 Aa ho Aa) (Er Aa hd Aa (Am ?_)))))))));exact BV (And.intro hd (And.intro hk ho))
         ·refine wo ho (vF BP Aa C5 (wo ho (vL 0 Dt Aa (wo ho (wv (By (enc:=Ab) (ys:=x.fValue) Co CC Aa Aa (CE (CE (Cr gE hd) hk) ho)) (wo ho (wv (Bi B9 Aa DC Aa Aa) (wo ho (wv (Bg DD Aa Aa) (wo ho (wv (BT Aa Aa) (wo hd (E2 Aa ho Aa (Er Aa hd Aa (Am ?_)))))))))))))));exact BV (And.intro hd (And.intro hk ho))
       ·refine wf hd (wf hd (wf hd (wf hd (wf hd (wf hd (wf hd (wu (wu (wu (wu (wu (wu (wf hd (wf hd (wu (wu (wu (wu (wu (wu (wf hd (wv (r:=rB false) (A8 Aa hd Aa) (Am ?_)))))))))))))))))))))));exact BV hd
      refine cz gF Aa (λgG gH=>?_) (λgG gI=>?_)
      ·refine Ak (wa Aa (Av (A1 (Ae ?_))));obtain rfl:=A5 gH;exact A0 (BJ Hh (AM Aa)) (sS sN) ⟨Aa,Aa⟩
      ·refine Ay (AP (An (ck gI λgJ gK=>AH [(0,rS event),(1,At i),(5,rP b1 0),(93,rB (bif decide (x.fKind=4) then !(ov (CQ x.fDelay)) else !decide (x.fDelay=0)))] [.blk b1 (Ah x) 65] ?_ ?_)))
       ·refine Ai (vF BP Aa D4 (vL 0 D5 Aa (wv (B5 Aa Aa) (wm Aa (AO (decide (x.fKind=4)) (λhg=>?_) (λhg=>?_))))))
        ·refine wo hg (vF BP Aa C6 (wo hg (vL 0 CM Aa (wo hg (CG VR (JI x.fDelay (ov (CQ x.fDelay)) (E4 (Cr gJ hg))) Aa (wo hg (wv (BE Aa) (Er Aa hg Aa (wm Aa (AO (!(ov (CQ x.fDelay))) (λhs=>?_) (λhs=>?_)))))))))))
         ·refine wf hs (wf hs (wf hs (wf hs (wu (wu (wu (wf hs (wv (r:=rB true) (A2 Aa hs Aa) (Am ?_)))))))));exact BV (And.intro hg hs)
         ·refine wo hs (vF BP Aa D4 (wo hs (vL 0 D5 Aa (wo hs (wv (BT Aa Aa) (wo hs (wm Aa (A7 (b:=!decide (x.fKind=4)) Aa Aa (GB hg) Aa (A7 (b:=!decide (x.fKind=4)) Aa Aa (GB hg) Aa (A7 (b:=!decide (x.fKind=4)) Aa Aa (GB hg) Aa (wo hs (wv (r:=rB false) (A8 (b:=!decide (x.fKind=4)) Aa (GB hg) Aa) (E2 Aa hs Aa (Am ?_))))))))))))));exact BV (And.intro hg hs)
        ·refine wf hg (wf hg (wf hg (wf hg (wv (r:=rB false) (A8 Aa hg Aa) (wm Aa (AE (b:=false) Aa Aa Aa (vF BP Aa D4 (AE (b:=false) Aa Aa Aa (vL 0 D5 Aa (AE (b:=false) Aa Aa Aa (wv (BT Aa Aa) (AE (b:=false) Aa Aa Aa (wm Aa (AE (b:=!decide (x.fKind=4)) Aa Aa (Gm hg) (vF BP Aa C6 (AE (b:=!decide (x.fKind=4)) Aa Aa (Gm hg) (vL 0 CM Aa (AE (b:=!decide (x.fKind=4)) Aa Aa (Gm hg) (wv (BT Aa Aa) (AE (b:=false) Aa Aa Aa (wv (r:=rB (!decide (x.fDelay=0))) (A2 (b:=!decide (x.fKind=4)) Aa (Gm hg) Aa) (wv (r:=rB (!decide (x.fDelay=0))) (A8 (b:=false) Aa Aa Aa) (Am ?_)))))))))))))))))))))));exact BV hg
       refine cz gK Aa (λgL gM=>?_) (λgL gN=>?_)
       ·refine Ak (wa Aa (Av (A1 (Ae ?_))));obtain rfl:=A5 gM;exact A0 (BJ Hh (AM Aa)) (sS sN) ⟨Aa,Aa⟩
       ·refine Ay (AP (An (Ak (vF BP Aa D4 (vL 0 D5 Aa (ob gN λgO gP gQ=>CG Tryz.call73 (HF x.fKind gO gP) Aa (wv (BE Aa) (Av (cz gQ Aa (λgR gS=>?_) (λgR gT=>?_))))))))))
        ·refine Ak (wa Aa (Av (A1 (Ae ?_))));obtain rfl:=A5 gS;exact A0 (BJ Hh (AM Aa)) (sS sN) ⟨Aa,Aa⟩
        ·refine Ay (AP (Ak (wm Aa (wm Aa (ck gT λgU gV=>ck gV λgW gX=>Cz (rs:=[rS event,At i]) (r:=C7 [rS (BY event i),At (Cg event i)]) Tryz.call74 Aa (Md event i gU gW) Aa Aa (wm Aa (wv (AA Aa Aa) (wv (AA Aa Aa) (wa Aa (wa Aa (Bs (wm Aa (wa Aa (Av (A1 ?_)))))))))))))));obtain rfl:=A5 gX;exact A0 (BJ Hh (AM Aa)) (sS sN) ⟨Aa,Aa⟩
    ·refine Ak (vF BP Aa C5 (vL 0 Dt Aa (ob g9 λgY gZ ca=>CG Tryz.call60 (LG F x.fValue gY gZ) Aa (wa Aa (Bs (wm Aa (wv (BT Aa Aa) (Av (cz ca Aa (λcb cc=>?_) (λcb cd=>?_))))))))))
     ·refine Ak (wm Aa (wa Aa (Av (A1 (Ae ?_)))));obtain rfl:=A5 cc;exact A0 (BJ Hh (AM Aa)) (sS sN) ⟨Aa,Aa⟩
     ·refine Ay (AP (An (ck cd λhx ce=>ck ce λcf cg=>AH [(0,rS event),(1,At i),(5,rP b1 0),(74,rB ((decide (x.fKind=5))&&((!decide (((Ap x.fValue 0).fKind)=5))||((decide (((Ap x.fValue 0).fN)=0))||(!decide (((Ap x.fValue 1).fKind)=4))))))] [.blk b1 (Ah x) 65] ?_ ?_)))
      ·refine Ai (vF BP Aa D4 (vL 0 D5 Aa (wv (B5 Aa Aa) (wm Aa (AO (decide (x.fKind=5)) (λc127=>?_) (λc127=>?_))))))
       ·refine wo c127 (vF BP Aa C5 (wo c127 (vL 0 Dt Aa (wo c127 (wv (By (enc:=Ab) (ys:=x.fValue) Co CC Aa Aa (Cr hx c127)) (wo c127 (wv (Bi B9 Aa DC Aa Aa) (wo c127 (wv (Bg DD Aa Aa) (wo c127 (wv (BT Aa Aa) (wo c127 (wm Aa (AO (!decide (((Ap x.fValue 0).fKind)=5)) (λhl=>?_) (λhl=>?_)))))))))))))))
        ·refine wf hl (wf hl (wf hl (wf hl (wf hl (wf hl (wo c127 (wv (r:=rB true) (A2 Aa hl Aa) (wo c127 (wm Aa (wz Aa Aa (wz Aa Aa (wz Aa Aa (wz Aa Aa (wz Aa Aa (wz Aa Aa (wo c127 (wv (r:=rB true) (A2 (b:=true) Aa Aa Aa) (Er Aa c127 Aa (Am ?_)))))))))))))))))));exact BV (And.intro c127 hl)
        ·refine wo hl (vF BP Aa C5 (wo hl (vL 0 Dt Aa (wo hl (wv (By (enc:=Ab) (ys:=x.fValue) Co CC Aa Aa (Cr hx c127)) (wo hl (wv (Bi B9 Aa C6 Aa Aa) (wo hl (wv (Bg CM Aa Aa) (wo hl (wv (B5 Aa Aa) (wo c127 (E2 Aa hl Aa (wo c127 (wm Aa (AO (decide (((Ap x.fValue 0).fN)=0)) (λhp=>?_) (λhp=>?_)))))))))))))))))
         ·refine wf hp (wf hp (wf hp (wf hp (wf hp (wf hp (wo c127 (wv (r:=rB true) (A2 Aa hp Aa) (Er Aa c127 Aa (Am ?_)))))))));exact BV (And.intro c127 (And.intro hl hp))
         ·refine wo hp (vF BP Aa C5 (wo hp (vL 0 Dt Aa (wo hp (wv (By (enc:=Ab) (ys:=x.fValue) Co CC Aa Aa (CE (CE (Cr cf c127) hl) hp)) (wo hp (wv (Bi B9 Aa DC Aa Aa) (wo hp (wv (Bg DD Aa Aa) (wo hp (wv (BT Aa Aa) (wo c127 (E2 Aa hp Aa (Er Aa c127 Aa (Am ?_)))))))))))))));exact BV (And.intro c127 (And.intro hl hp))
       ·refine wf c127 (wf c127 (wf c127 (wf c127 (wf c127 (wf c127 (wf c127 (wu (wu (wu (wu (wu (wu (wf c127 (wf c127 (wu (wu (wu (wu (wu (wu (wf c127 (wv (r:=rB false) (A8 Aa c127 Aa) (Am ?_)))))))))))))))))))))));exact BV c127
      refine cz cg Aa (λch ci=>?_) (λch cj=>?_)
      ·refine Ak (wa Aa (Av (A1 (Ae ?_))));obtain rfl:=A5 ci;exact A0 (BJ Hh (AM Aa)) (sS sN) ⟨Aa,Aa⟩
      ·refine Ay (AP (An (ck cj λcl cm=>AH [(0,rS event),(1,At i),(5,rP b1 0),(93,rB (bif decide (x.fKind=4) then !(ov (CQ x.fDelay)) else !decide (x.fDelay=0)))] [.blk b1 (Ah x) 65] ?_ ?_)))
       ·refine Ai (vF BP Aa D4 (vL 0 D5 Aa (wv (B5 Aa Aa) (wm Aa (AO (decide (x.fKind=4)) (λhh=>?_) (λhh=>?_))))))
        ·refine wo hh (vF BP Aa C6 (wo hh (vL 0 CM Aa (wo hh (CG VR (JI x.fDelay (ov (CQ x.fDelay)) (E4 (Cr cl hh))) Aa (wo hh (wv (BE Aa) (Er Aa hh Aa (wm Aa (AO (!(ov (CQ x.fDelay))) (λht=>?_) (λht=>?_)))))))))))
         ·refine wf ht (wf ht (wf ht (wf ht (wu (wu (wu (wf ht (wv (r:=rB true) (A2 Aa ht Aa) (Am ?_)))))))));exact BV (And.intro hh ht)
         ·refine wo ht (vF BP Aa D4 (wo ht (vL 0 D5 Aa (wo ht (wv (BT Aa Aa) (wo ht (wm Aa (A7 (b:=!decide (x.fKind=4)) Aa Aa (GB hh) Aa (A7 (b:=!decide (x.fKind=4)) Aa Aa (GB hh) Aa (A7 (b:=!decide (x.fKind=4)) Aa Aa (GB hh) Aa (wo ht (wv (r:=rB false) (A8 (b:=!decide (x.fKind=4)) Aa (GB hh) Aa) (E2 Aa ht Aa (Am ?_))))))))))))));exact BV (And.intro hh ht)
        ·refine wf hh (wf hh (wf hh (wf hh (wv (r:=rB false) (A8 Aa hh Aa) (wm Aa (AE (b:=false) Aa Aa Aa (vF BP Aa D4 (AE (b:=false) Aa Aa Aa (vL 0 D5 Aa (AE (b:=false) Aa Aa Aa (wv (BT Aa Aa) (AE (b:=false) Aa Aa Aa (wm Aa (AE (b:=!decide (x.fKind=4)) Aa Aa (Gm hh) (vF BP Aa C6 (AE (b:=!decide (x.fKind=4)) Aa Aa (Gm hh) (vL 0 CM Aa (AE (b:=!decide (x.fKind=4)) Aa Aa (Gm hh) (wv (BT Aa Aa) (AE (b:=false) Aa Aa Aa (wv (r:=rB (!decide (x.fDelay=0))) (A2 (b:=!decide (x.fKind=4)) Aa (Gm hh) Aa) (wv (r:=rB (!decide (x.fDelay=0))) (A8 (b:=false) Aa Aa Aa) (Am ?_)))))))))))))))))))))));exact BV hh
       refine cz cm Aa (λcn co=>?_) (λcn cp=>?_)
       ·refine Ak (wa Aa (Av (A1 (Ae ?_))));obtain rfl:=A5 co;exact A0 (BJ Hh (AM Aa)) (sS sN) ⟨Aa,Aa⟩
       ·refine Ay (AP (An (Ak (vF BP Aa D4 (vL 0 D5 Aa (ob cp λcq cr cs=>CG Tryz.call73 (HF x.fKind cq cr) Aa (wv (BE Aa) (Av (cz cs Aa (λc143 ct=>?_) (λc143 cu=>?_))))))))))
        ·refine Ak (wa Aa (Av (A1 (Ae ?_))));obtain rfl:=A5 ct;exact A0 (BJ Hh (AM Aa)) (sS sN) ⟨Aa,Aa⟩
        ·refine Ay (AP (Ak (wm Aa (wm Aa (ck cu λcv cw=>ck cw λcx cy=>Cz (rs:=[rS event,At i]) (r:=C7 [rS (BY event i),At (Cg event i)]) Tryz.call74 Aa (Md event i cv cx) Aa Aa (wm Aa (wv (AA Aa Aa) (wv (AA Aa Aa) (wa Aa (wa Aa (Bs (wm Aa (wa Aa (Av (A1 ?_)))))))))))))));obtain rfl:=A5 cy;exact A0 (BJ Hh (AM Aa)) (sS sN) ⟨Aa,Aa⟩
theorem Ok (F:Nat)(c:AS)(r:Int)(h:DW F c=some r):Fn Tryz.prog GE 28 [BQ (AV c)] [] (λR H=>R=At r∧H=[]):=by
 refine enter (n:=58) Tryz.func28 Aa Tryz.ntmps28 Aa (λw Z=>?_);unfold DW at h;refine Ak (C3 Aa Aa (λb1=>?_));refine wa Aa (Av (An (ck h λg2 h3=>ck h3 λg4 h5=>AH [(1,rP b1 0),(14,rB ((!(HR c.fEvent))||(!(Dx c.fTenant))))] [.blk b1 (AV c) 34] ?_ ?_)))
 ·refine Ai (vF Cl Aa Cv (vL 0 CD Aa (Cz (rs:=[rS c.fEvent]) (r:=rB (HR c.fEvent)) Tryz.call57 Aa (Xo c.fEvent g2) Aa Aa (wv (BE Aa) (wm Aa (AO (!(HR c.fEvent)) (λc6=>?_) (λc6=>?_)))))))
  ·refine wf c6 (wf c6 (wf c6 (wf c6 (wv (r:=rB true) (A2 Aa c6 Aa) (Am ?_)))));exact BV c6
  ·refine wo c6 (vF Cl Aa Cv (wo c6 (vL 0 CD Aa (wo c6 (Cz (rs:=[rS c.fTenant]) (r:=rB (Dx c.fTenant)) Tryz.call58 Aa (TU c.fTenant (CE g4 c6)) Aa Aa (wo c6 (wv (BE Aa) (E2 Aa c6 Aa (Am ?_)))))))));exact BV c6
 refine cz h5 Aa (λc7 h8=>?_) (λc7 h9=>?_)
 ·refine Ak (wa Aa (Av (A1 (Ae ?_))));obtain rfl:=A5 h8;exact A0 (BJ Uz (AM Aa)) (sS sN) ⟨Aa,Aa⟩
 ·refine Ay (AP (An (ck h9 λhi hj=>AH [(1,rP b1 0),(28,rB ((decide (c.fAttempt<1))||((decide (1073741824<c.fAttempt))||(!(ov (CQ c.fAt))))))] [.blk b1 (AV c) 34] ?_ ?_)))
  ·refine Ai (vF Cl Aa C6 (vL 0 CM Aa (wv (C0 Aa Aa) (wm Aa (AO (decide (c.fAttempt<1)) (λhb=>?_) (λhb=>?_))))))
   ·refine wf hb (wf hb (wf hb (wv (r:=rB true) (A2 Aa hb Aa) (wm Aa (wz Aa Aa (wz Aa Aa (wz Aa Aa (wz Aa Aa (wv (r:=rB true) (A2 (b:=true) Aa Aa Aa) (Am ?_))))))))));exact BV hb
   ·refine wo hb (vF Cl Aa C6 (wo hb (vL 0 CM Aa (wo hb (wv (CI Aa Aa) (E2 Aa hb Aa (wm Aa (AO (decide (1073741824<c.fAttempt)) (λha=>?_) (λha=>?_)))))))))
    ·refine wf ha (wf ha (wf ha (wf ha (wv (r:=rB true) (A2 Aa ha Aa) (Am ?_)))));exact BV (And.intro hb ha)
    ·refine wo ha (vF Cl Aa C6 (wo ha (vL 0 CM Aa (wo ha (CG VR (JI c.fAt (ov (CQ c.fAt)) (E4 (CE (CE hi hb) ha))) Aa (wo ha (wv (BE Aa) (E2 Aa ha Aa (Am ?_)))))))));exact BV (And.intro hb ha)
  refine cz hj Aa (λhk hl=>?_) (λhk hm=>?_)
  ·refine Ak (wa Aa (Av (A1 (Ae ?_))));obtain rfl:=A5 hl;exact A0 (BJ Uz (AM Aa)) (sS sN) ⟨Aa,Aa⟩
  ·refine Ay (AP (Ak (vF Cl Aa C5 (vL 0 Dt Aa (ob hm λhn ho hp=>CG Tryz.call60 (LG F c.fResult hn ho) Aa (wa Aa (Av (An (Ak (wm Aa (wv (BT Aa Aa) (Av (cz hp Aa (λc20 hq=>?_) (λc20 hr=>?_))))))))))))))
   ·refine Ak (wm Aa (wa Aa (Av (A1 (Ae ?_)))));obtain rfl:=A5 hq;exact A0 (BJ Uz (AM Aa)) (sS sN) ⟨Aa,Aa⟩
   ·refine Ay (AP (An (Ak (vF Cl Aa H8 (vL 0 J2 Aa (wv (Bq (ys:=c.fEffects) (enc:=Ah) EV Aa) (wv (CI Aa Aa) (Av (cz hr Aa (λhs ht=>?_) (λhs hu=>?_))))))))))
    ·refine Ak (wa Aa (Av (A1 (Ae ?_))));obtain rfl:=A5 ht;exact A0 (BJ Uz (AM Aa)) (sS sN) ⟨Aa,Aa⟩
    ·refine Ay (AP (An (Ak (wa Aa (Av (AJ (ob hu λhw hx hh=>Bu (S:=Nat×(Int)×(Unit)) (V:=(Unit)×(Unit)) 0 (λσ=>Ci (λσ=>DM F c σ) σ.1 σ.2.1=some hw) (λσ=>[(1,rP b1 0),(4,At σ.2.1)]) (λσ=>[.blk b1 (AV c) 34]) (λσ=>σ.1) (F,0,()) hx (AL.c Aa (AL.c Aa AL.nil)) (sC sN) (λσ=>G5 =some r) (λσ=>[]) (λσ=>[]) ?_ ?_)))))))
     ·rintro⟨hN,hd,⟨⟩⟩ hy;refine BW (l':=[(1,rP b1 0),(4,At hd)]) (H':=[.blk b1 (AV c) 34]) Aa Aa ?_;obtain⟨hz,rfl,h0,he,hg⟩:=C4 hy;replace he:DM F c hd=some h0:=he;unfold DM at he;refine An (Ak (wm Aa (vF Cl Aa H8 (vL 0 J2 Aa (wv (Bq (ys:=c.fEffects) (enc:=Ah) EV Aa) (wv (C0 Aa Aa) (Av (cz he Aa (λh1 h2=>?_) (λh1 h4=>?_)))))))))
      ·refine Ay (AP (An (AJ (An (ck h2 λh6 h7=>Db 8 [1,4] [⟨[],rP b1 0,none,none,none⟩,⟨[0],rS c.fEvent,none,none,none⟩,⟨[],At hd,none,none,none⟩,⟨[],rP b1 4,none,none,none⟩,⟨[3],AY 4 (A4 Ah c.fEffects),none,none,none⟩,⟨[],At hd,none,none,none⟩,⟨[4,5],SW (Ah (Ap c.fEffects hd)),none,none,none⟩,⟨[6],BQ (Ah (Ap c.fEffects hd)),none,none,none⟩] ?_ (λβ=>?_))))))
       ·refine CL (A9 Cl Aa Cv Aa Aa) (Gi (AT (i:=0) CD Aa Aa Aa) (CL (Aq Aa) (CL (A9 Cl Aa H8 Aa Aa) (Gi (AT (i:=0) J2 Aa Aa Aa) (CL (Aq Aa) (CL (By (enc:=Ah) (ys:=c.fEffects) EV Dl Aa Aa h6) (CL (Di H9 Dl Aa Aa Aa) ?_)))))));exact Pb
       refine Dg (H1:=[.blk b1 (AV c) 34]) [46,47,48,49,50,51,52,53,1,4] ?_;refine ob h7 λhA hB hC=>CG Tryz.call61 (UO F c.fEvent hd (Ap c.fEffects hd) hA hB) Aa (wa Aa (Bs (wm Aa (wv (BT Aa Aa) (Av (cz hC Aa (λhD hE=>?_) (λhD hG=>?_)))))))
       ·refine Ak (wm Aa (wa Aa (Av (A1 (AC (Ae (Ae (Bj ?_))))))));have hH:=BB hE hg hh;refine AC (Ae ?_);obtain rfl:=A5 hH;exact A0 (BJ Uz (AM Aa)) (sS sN) ⟨Aa,Aa⟩
       ·refine Ay (AG (AP (Ai (wm Aa (ck hG λhI hJ=>wv (Bz Aa Aa hI) (wa Aa (Am ?_)))))));have hK:=Bk hJ hg;exact Aw (AI (hz,hd+1,()) ⟨hK,Aby _⟩ (AL.c Aa (AL.c Aa AL.nil)) (sC sN))
      ·refine Bx (A6 ?_);have hL:=BX h4 hg hh;exact A6 (Be (AI ((),()) hL AL.nil (sS sN)))
     ·rintro⟨⟨⟩,⟨⟩⟩ hf;refine Cy (l':=[]) (H':=[]) Aa Aa ?_;replace hf:G5 =some r:=hf;unfold G5 at hf;refine Bc (AP (Ak (wa Aa (Av (A1 ?_)))));obtain rfl:=A5 hf;exact A0 (BJ Uz (AM Aa)) sN ⟨Aa,Aa⟩
theorem P3 (F:Nat)(l:(List (List Al)))(r:Al×Int)(h:Kn F l=some r):Fn Tryz.prog GE 51 [AY 1 (A4 Bm l)] [] (λR H=>R=C7 [rS r.1,At r.2]∧H=[]):=by
 refine enter (n:=34) Tryz.func51 Aa Tryz.ntmps51 Aa (λw Z=>?_);unfold Kn at h;refine Ak (wv (r:=rS ([]:Al)) (Az Aa) (wa Aa (Bs (Bb (ys:=([]:List Al)) (enc:=eS) (css:=[]) (xs:=[]) Cn Cv PW Aa Aa Aa trivial Aa CY Aa Aa Aa (λb1=>?_)))));refine wa Aa (Av (An (Ak (wa Aa (Av (AJ (ob h λhl hm hj=>Bu (S:=Nat×((List Al)×Int)×(Value)) (V:=((List Al))×(Value)) 0 (λσ=>Ci (λσ=>Ek F l σ.1 σ.2) σ.1 σ.2.1=some hl) (λσ=>[(0,AY 1 (A4 Bm l)),(4,rv σ.2.2),(5,At σ.2.1.2)]) (λσ=>[.row σ.2.2 9 1 (A4 eS σ.2.1.1)]) (λσ=>σ.1) (F,(([]:List Al),0),(.slice (some ⟨b1,0,none⟩) 0 0)) hm (AL.c Aa (AL.c Aa (AL.c Aa AL.nil))) (sC sN) (λσ=>EE F σ.1=some r) (λσ=>[(4,rv σ.2)]) (λσ=>[.row σ.2 9 1 (A4 eS σ.1)]) ?_ ?_)))))))
 ·rintro⟨hA,⟨ha,hd⟩,hh⟩ hn;refine BW (l':=[(0,AY 1 (A4 Bm l)),(4,rv hh),(5,At hd)]) (H':=[.row hh 9 1 (A4 eS ha)]) Aa Aa ?_;obtain⟨ho,rfl,hp,he,hi⟩:=C4 hn;replace he:Ek F l ha hd=some hp:=he;unfold Ek at he;refine An (Ak (wm Aa (wm Aa (wv (Bq (ys:=l) (enc:=Bm) Hg Aa) (wv (C0 Aa Aa) (Av (cz he Aa (λhq hr=>?_) (λhq hs=>?_))))))))
  ·refine Ay (AP (An (AJ (Ak (wm Aa (wm Aa (ck hr λht hu=>wv (By (enc:=Bm) (ys:=l) Hg GN Aa Aa ht) (wv (Bg Mj Aa Aa) (ob hu λhb hw hx=>CG Tryz.call84 (Wy F (Ap l hd) hb hw) Aa (wm Aa (wv (AA Aa Aa) (wv (AA Aa Aa) (wa Aa (wa Aa (Av (An (Ak (wm Aa (wv (BT Aa Aa) (Av (cz hx Aa (λc75 hy=>?_) (λc75 hz=>?_))))))))))))))))))))))
   ·refine Ak (wm Aa (wv (r:=rS ([]:Al)) (Az Aa) (wa Aa (Av (A1 (Ae (AC (Ae (Ae (Bj ?_))))))))));have h0:=BB hy hi hj;refine AC (Ae ?_);obtain rfl:=A5 h0;exact A0 (DJ Tryz.results51 (AM Aa) (AM Aa)) (sS sN) ⟨Aa,Aa⟩
   ·refine Ay (AP (Ai (wm Aa (wm Aa (Bb (ys:=([hb.1]:List Al)) (enc:=eS) (css:=[[rS hb.1]]) (xs:=[.tmp 27]) Cn Cv PW Aa Aa Aa ⟨D1.one Aa (Up.refl _),trivial⟩ Aa CY Aa Aa Aa (λhB=>?_))))));refine ck hz λh1 h2=>Exists.elim MX λinf hinf=>Cb (xs:=ha) (ys:=([hb.1]:List Al)) (enc:=eS) (i:=1) Cn hinf.1 hinf.2.1 hinf.2.2.1 hinf.2.2.2 Aa Aa Aa Aa Aa (If.w (i:=0) Aa Aa) CY JT h1 Aa (λv80=>?_);refine wa Aa (Am (AG (AP (Ai (wm Aa (ck h2 λh3 h4=>wv (Bz Aa Aa h3) (wa Aa (Am ?_))))))));have h5:=Bk h4 hi;exact Aw (AI (ho,(ha++([hb.1]:List Al),hd+1),v80) ⟨h5,Aby _⟩ (AL.c Aa (AL.c Aa (AL.c Aa AL.nil))) (sC (sS sN)))
  ·refine Bx (A6 ?_);have h6:=BX hs hi hj;exact A6 (Be (AI (ha,hh) h6 (AL.c Aa AL.nil) (sC sN)))
 ·rintro⟨hf,hk⟩ hg;refine Cy (l':=[(4,rv hk)]) (H':=[.row hk 9 1 (A4 eS hf)]) Aa Aa ?_;replace hg:EE F hf=some r:=hg;unfold EE at hg;refine Bc (AP (Ak (wm Aa (WL.freeze (i:=0) Aa (WL.up (d:=30) (r:=AY 1 (A4 eS hf)) Aa (Up.fact (i:=0) Aa) (ob hg λh7 h8 h9=>CG Tryz.call85 (Wz F hf h7 h8) Aa (wv (AA Aa Aa) (wv (AA Aa Aa) (wa Aa (wa Aa (Av (A1 ?_))))))))))));obtain rfl:=A5 h9;exact A0 (DJ Tryz.results51 (AM Aa) (AM Aa)) (sS sN) ⟨Aa,Aa⟩
theorem P1 (F:Nat)(v:(List Ac))(r:Al)(h:Kk F v=some r):Fn Tryz.prog GE 50 [AY 4 (A4 Ab v)] [] (λR H=>R=rS r∧H=[]):=by
 refine enter (n:=14) Tryz.func50 Aa Tryz.ntmps50 Aa (λw Z=>?_);unfold Kk at h;refine Ak (wv (r:=rS ([]:Al)) (Az Aa) (Av (An (Ak (wm Aa (wv (Bq (ys:=v) (enc:=Ab) Co Aa) (wv (B5 Aa Aa) (Av (cz h Aa (λc1 h2=>?_) (λc1 h3=>?_))))))))))
 ·refine Ak (wv (r:=rS ([]:Al)) (Az Aa) (Av (A1 (Ae ?_))));obtain rfl:=A5 h2;exact A0 (BJ Tryz.results50 (AM Aa)) sN ⟨Aa,Aa⟩
 ·refine Ay (AP (Ak (wm Aa (ob h3 λr4 e6 h5=>CG Tryz.call83 (UN F v r4 e6) Aa (wm Aa (wv (AA Aa Aa) (wv (AA Aa Aa) (wa Aa (wa Aa (Bs (wm Aa (wa Aa (Av (A1 ?_))))))))))))));obtain rfl:=A5 h5;exact A0 (BJ Tryz.results50 (AM Aa)) sN ⟨Aa,Aa⟩
theorem R6 (F:Nat)(c:AS)(r:Al×Int)(h:GY F c=some r):Fn Tryz.prog GE 26 [BQ (AV c)] [] (λR H=>R=C7 [rS r.1,At r.2]∧H=[]):=by
 refine enter (n:=59) Tryz.func26 Aa Tryz.ntmps26 Aa (λw Z=>?_);unfold GY at h;refine Ak (C3 Aa Aa (λb1=>?_));refine wv (r:=rS ([]:Al)) (Az Aa) (wa Aa (Bs (wv (Bf (i:=0) Gh Ec Aa Aa Aa Aa) (ob h λr2 e4 h3=>CG Tryz.call28 (Ok F c r2 e4) Aa (wa Aa (Av (An (Ak (wm Aa (wv (BT Aa Aa) (Av (cz h3 Aa (λc5 h6=>?_) (λc5 h7=>?_)))))))))))))
 ·refine Ak (wm Aa (wv (r:=rS ([]:Al)) (Az Aa) (wa Aa (Av (A1 (Ae ?_))))));obtain rfl:=A5 h6;exact A0 (DJ Tryz.results26 (AM Aa) (AM Aa)) (sS sN) ⟨Aa,Aa⟩
 ·refine Ay (AP (An (ck h7 λg8 h9=>ck h9 λhn ho=>ob ho λhd hp hq=>Db 13 [1] [⟨[],rP b1 0,none,none,none⟩,⟨[0],rS c.fEvent,none,none,none⟩,⟨[],rP b1 1,none,none,none⟩,⟨[2],rS c.fTenant,none,none,none⟩,⟨[],rP b1 2,none,none,none⟩,⟨[4],At c.fAttempt,none,none,none⟩,⟨[5],rS (Lib.itoa c.fAttempt),none,none,none⟩,⟨[],rP b1 5,none,none,none⟩,⟨[7],At c.fAt,none,none,none⟩,⟨[8],rS (Lib.itoa c.fAt),none,none,none⟩,⟨[],rP b1 3,none,none,none⟩,⟨[10],AY 4 (A4 Ab c.fResult),none,none,none⟩,⟨[11],rS hd,none,none,none⟩] ?_ (λβ=>?_))))
  ·refine CL (A9 Cl Aa Cv Aa Aa) (Gi (AT (i:=0) CD Aa Aa Aa) (CL (A9 Cl Aa Cv Aa Aa) (Gi (AT (i:=0) CD Aa Aa Aa) (CL (A9 Cl Aa C6 Aa Aa) (Gi (AT (i:=0) CM Aa Aa Aa) (KS (Dw (rs:=[At c.fAttempt]) (r:=rS (Lib.itoa c.fAttempt)) VU Aa (KB c.fAttempt g8) Aa) (CL (A9 Cl Aa C6 Aa Aa) (Gi (AT (i:=0) CM Aa Aa Aa) (KS (Dw (rs:=[At c.fAt]) (r:=rS (Lib.itoa c.fAt)) VU Aa (KB c.fAt hn) Aa) (CL (A9 Cl Aa C5 Aa Aa) (Gi (AT (i:=0) Dt Aa Aa Aa) (KS (Em Tryz.call50 (P1 F c.fResult hd hp) Aa) ?_))))))))))));exact Pb
  refine Dg (H1:=[.blk b1 (AV c) 34]) [13,14,15,16,17,18,19,20,21,22,23,24,25,1] ?_;refine Bb (ys:=([([99,111,109,109,105,116]:Al),c.fEvent,c.fTenant,Lib.itoa c.fAttempt,Lib.itoa c.fAt,hd]:List Al)) (enc:=eS) (css:=[[rS ([99,111,109,109,105,116]:Al)],[rS c.fEvent],[rS c.fTenant],[rS (Lib.itoa c.fAttempt)],[rS (Lib.itoa c.fAt)],[rS hd]]) (xs:=[.const (.string ⟨#[99,111,109,109,105,116]⟩),.tmp 14,.tmp 16,.tmp 19,.tmp 22,.tmp 25]) Cn Cv PW Aa Aa Aa ⟨D1.one Aa (Up.refl _),D1.one Aa (Up.refl _),D1.one Aa (Up.refl _),D1.one Aa (Up.refl _),D1.one Aa (Up.refl _),D1.one Aa (Up.refl _),trivial⟩ Aa CY Aa Aa Aa (λhr=>?_);refine WL.freeze (i:=0) Aa (Bb (ys:=([([([99,111,109,109,105,116]:Al),c.fEvent,c.fTenant,Lib.itoa c.fAttempt,Lib.itoa c.fAt,hd]:List Al)]:List (List Al))) (enc:=Bm) (css:=[[AY 1 (A4 eS ([([99,111,109,109,105,116]:Al),c.fEvent,c.fTenant,Lib.itoa c.fAttempt,Lib.itoa c.fAt,hd]:List Al))]]) (xs:=[.tmp 26]) Hg GN PX Aa Aa Aa ⟨D1.one Aa (Up.fact (i:=0) Aa),trivial⟩ Aa CZ Aa Aa Aa (λhk=>?_));refine wa Aa (Av (An (Ak (wa Aa (Av (AJ (GO (H2:=[.blk b1 (AV c) 34,.row (.slice (some ⟨hk,0,none⟩) 1 1) 42 1 (A4 Bm ([([([99,111,109,109,105,116]:Al),c.fEvent,c.fTenant,Lib.itoa c.fAttempt,Lib.itoa c.fAt,hd]:List Al)]:List (List Al))),.fact (.slice (some ⟨hr,0,none⟩) 6 6) (AY 1 (A4 eS ([([99,111,109,109,105,116]:Al),c.fEvent,c.fTenant,Lib.itoa c.fAttempt,Lib.itoa c.fAt,hd]:List Al)))]) ((As (i:=2) Aa).trans (Abp _ (Abq _))) (ob hq λhs ht hu=>Bu (S:=Nat×((List (List Al))×Int)×(Value)) (V:=((List (List Al)))×(Value)) 0 (λσ=>Ci (λσ=>D7 F c σ.1 σ.2) σ.1 σ.2.1=some hs) (λσ=>[(1,rP b1 0),(5,rv σ.2.2),(6,At σ.2.1.2)]) (λσ=>[.blk b1 (AV c) 34,.row σ.2.2 42 1 (A4 Bm σ.2.1.1)]) (λσ=>σ.1) (F,(([([([99,111,109,109,105,116]:Al),c.fEvent,c.fTenant,Lib.itoa c.fAttempt,Lib.itoa c.fAt,hd]:List Al)]:List (List Al)),0),(.slice (some ⟨hk,0,none⟩) 1 1)) ht (AL.c Aa (AL.c Aa (AL.c Aa AL.nil))) (sC (sC (sS sN))) (λσ=>DS F σ.1=some r) (λσ=>[(5,rv σ.2)]) (λσ=>[.row σ.2 42 1 (A4 Bm σ.1)]) ?_ ?_))))))))
  ·rintro⟨hO,⟨he,ha⟩,hg⟩ hw;refine BW (l':=[(1,rP b1 0),(5,rv hg),(6,At ha)]) (H':=[.blk b1 (AV c) 34,.row hg 42 1 (A4 Bm he)]) Aa Aa ?_;obtain⟨hx,rfl,t80,hh,hl⟩:=C4 hw;replace hh:D7 F c he ha=some t80:=hh;unfold D7 at hh;refine An (Ak (wm Aa (vF Cl Aa H8 (vL 0 J2 Aa (wv (Bq (ys:=c.fEffects) (enc:=Ah) EV Aa) (wv (C0 Aa Aa) (Av (cz hh Aa (λhy hz=>?_) (λhy h0=>?_)))))))))
   ·refine Ay (AP (An (AJ (Ak (vF Cl Aa H8 (vL 0 J2 Aa (wm Aa (ck hz λh1 h2=>wv (By (enc:=Ah) (ys:=c.fEffects) EV Dl Aa Aa h1) (wv (Di H9 Dl Aa Aa Aa) (Cc (cs:=[At 0,rS ([]:Al),rv (.slice none 0 0),At 0]) Lt Aa Aa (λhf=>?_)))))))))));refine Br (i:=0) Dl Aa Aa Aa (Cq.c Aa) Aa Aa (cs':=[At ((Ap c.fEffects ha).fKind),rS ((Ap c.fEffects ha).fKey),AY 4 (A4 Ab ((Ap c.fEffects ha).fValue)),At ((Ap c.fEffects ha).fDelay)]) Aa (H':=[.blk hf (Ah (Ap c.fEffects ha)) 65,.blk b1 (AV c) 34,.row hg 42 1 (A4 Bm he)]) Aa (Av (ck h2 λh4 h5=>ck h5 λh8 hA=>ob hA λhb hB hC=>Db 14 [1,5,6,7] [⟨[],rv hg,none,none,none⟩,⟨[],rP hf 0,none,none,none⟩,⟨[1],At ((Ap c.fEffects ha).fKind),none,none,none⟩,⟨[2],rS (Lib.itoa ((Ap c.fEffects ha).fKind)),none,none,none⟩,⟨[],rP hf 1,none,none,none⟩,⟨[4],rS ((Ap c.fEffects ha).fKey),none,none,none⟩,⟨[],rP hf 3,none,none,none⟩,⟨[6],At ((Ap c.fEffects ha).fDelay),none,none,none⟩,⟨[7],rS (Lib.itoa ((Ap c.fEffects ha).fDelay)),none,none,none⟩,⟨[],rP hf 2,none,none,none⟩,⟨[9],AY 4 (A4 Ab ((Ap c.fEffects ha).fValue)),none,none,none⟩,⟨[10],rS hb,none,none,none⟩,⟨[3,5,8,11],AY 1 (A4 eS ([Lib.itoa ((Ap c.fEffects ha).fKind),(Ap c.fEffects ha).fKey,Lib.itoa ((Ap c.fEffects ha).fDelay),hb]:List Al)),none,none,none⟩,⟨[12],AY 1 (A4 Bm ([([Lib.itoa ((Ap c.fEffects ha).fKind),(Ap c.fEffects ha).fKey,Lib.itoa ((Ap c.fEffects ha).fDelay),hb]:List Al)]:List (List Al))),none,none,none⟩] ?_ (λβ=>?_)))
    ·refine CL (Aq Aa) (CL (A9 BP Aa D4 Aa Aa) (Gi (AT (i:=0) D5 Aa Aa Aa) (KS (Dw (rs:=[At ((Ap c.fEffects ha).fKind)]) (r:=rS (Lib.itoa ((Ap c.fEffects ha).fKind))) VU Aa (KB ((Ap c.fEffects ha).fKind) h4) Aa) (CL (A9 BP Aa Cv Aa Aa) (Gi (AT (i:=0) CD Aa Aa Aa) (CL (A9 BP Aa C6 Aa Aa) (Gi (AT (i:=0) CM Aa Aa Aa) (KS (Dw (rs:=[At ((Ap c.fEffects ha).fDelay)]) (r:=rS (Lib.itoa ((Ap c.fEffects ha).fDelay))) VU Aa (KB ((Ap c.fEffects ha).fDelay) h8) Aa) (CL (A9 BP Aa C5 Aa Aa) (Gi (AT (i:=0) Dt Aa Aa Aa) (KS (Em Tryz.call50 (P1 F ((Ap c.fEffects ha).fValue) hb hB) Aa) (KS (Ck (ys:=([Lib.itoa ((Ap c.fEffects ha).fKind),(Ap c.fEffects ha).fKey,Lib.itoa ((Ap c.fEffects ha).fDelay),hb]:List Al)) (enc:=eS) (css:=[[rS (Lib.itoa ((Ap c.fEffects ha).fKind))],[rS ((Ap c.fEffects ha).fKey)],[rS (Lib.itoa ((Ap c.fEffects ha).fDelay))],[rS hb]]) (xs:=[.tmp 43,.tmp 45,.tmp 48,.tmp 51]) Cn Cv PW Aa Aa Aa ⟨D1.one Aa (Up.refl _),D1.one Aa (Up.refl _),D1.one Aa (Up.refl _),D1.one Aa (Up.refl _),trivial⟩ Aa CY Aa Aa) (KS (Ck (ys:=([([Lib.itoa ((Ap c.fEffects ha).fKind),(Ap c.fEffects ha).fKey,Lib.itoa ((Ap c.fEffects ha).fDelay),hb]:List Al)]:List (List Al))) (enc:=Bm) (css:=[[AY 1 (A4 eS ([Lib.itoa ((Ap c.fEffects ha).fKind),(Ap c.fEffects ha).fKey,Lib.itoa ((Ap c.fEffects ha).fDelay),hb]:List Al))]]) (xs:=[.tmp 52]) Hg GN PX Aa Aa Aa ⟨D1.one Aa (Up.refl _),trivial⟩ Aa CZ Aa Aa) ?_)))))))))))));exact Pb
    refine Dg (H1:=[.blk hf (Ah (Ap c.fEffects ha)) 65,.blk b1 (AV c) 34,.row hg 42 1 (A4 Bm he)]) [40,41,42,43,44,45,46,47,48,49,50,51,52,53,1,5,6,7] ?_;refine ck hC λhD hE=>Exists.elim QF λinf hinf=>Cb (xs:=he) (ys:=([([Lib.itoa ((Ap c.fEffects ha).fKind),(Ap c.fEffects ha).fKey,Lib.itoa ((Ap c.fEffects ha).fDelay),hb]:List Al)]:List (List Al))) (enc:=Bm) (i:=2) Hg hinf.1 hinf.2.1 hinf.2.2.1 hinf.2.2.2 Aa Aa Aa Aa Aa (If.z Aa Aa) CZ Jj hD Aa (λhm=>?_);refine wa Aa (Am (AG (AP (Ai (wm Aa (ck hE λhG hH=>wv (Bz Aa Aa hG) (wa Aa (Am (BU (H2:=[.blk b1 (AV c) 34,.row hm 42 1 (A4 Bm (he++([([Lib.itoa ((Ap c.fEffects ha).fKind),(Ap c.fEffects ha).fKey,Lib.itoa ((Ap c.fEffects ha).fDelay),hb]:List Al)]:List (List Al)))),.blk hf (Ah (Ap c.fEffects ha)) 65]) ((As (i:=2) Aa).trans (Abp _ (Abq _))) ?_)))))))));have hI:=Bk hH hl;exact Aw (AI (hx,(he++([([Lib.itoa ((Ap c.fEffects ha).fKind),(Ap c.fEffects ha).fKey,Lib.itoa ((Ap c.fEffects ha).fDelay),hb]:List Al)]:List (List Al)),ha+1),hm) ⟨hI,Aby _⟩ (AL.c Aa (AL.c Aa (AL.c Aa AL.nil))) (sC (sC (sS sN))))
   ·refine Bx (A6 ?_);have hJ:=BX h0 hl hu;exact A6 (Be (AI (he,hg) hJ (AL.c Aa AL.nil) (sS (sC sN))))
  ·rintro⟨hi,v76⟩ hj;refine Cy (l':=[(5,rv v76)]) (H':=[.row v76 42 1 (A4 Bm hi)]) Aa Aa ?_;replace hj:DS F hi=some r:=hj;unfold DS at hj;refine Bc (AP (Ak (wm Aa (WL.freeze (i:=0) Aa (WL.up (d:=55) (r:=AY 1 (A4 Bm hi)) Aa (Up.fact (i:=0) Aa) (ob hj λhK hL hN=>CG Tryz.call51 (P3 F hi hK hL) Aa (wv (AA Aa Aa) (wv (AA Aa Aa) (wa Aa (wa Aa (Av (A1 ?_))))))))))));obtain rfl:=A5 hN;exact A0 (DJ Tryz.results26 (AM Aa) (AM Aa)) (sS sN) ⟨Aa,Aa⟩
theorem Oj (F:Nat)(id:Al)(r:Al×Int)(h:EW F id=some r):Fn Tryz.prog GE 30 [rS id] [] (λR H=>R=C7 [rS r.1,At r.2]∧H=[]):=by
 refine enter (n:=13) Tryz.func30 Aa Tryz.ntmps30 Aa (λw Z=>?_);unfold EW at h;refine Ak (wv (r:=rS ([]:Al)) (Az Aa) (wa Aa (Av (An (Ak (wm Aa (ck h λg1 h2=>Cz (rs:=[rS id]) (r:=rB (HR id)) Tryz.call57 Aa (Xo id g1) Aa Aa (wv (BE Aa) (Av (cz h2 Aa (λc3 h4=>?_) (λc3 h5=>?_)))))))))))
 ·refine Ak (wv (r:=rS ([]:Al)) (Az Aa) (wa Aa (Av (A1 (Ae ?_)))));obtain rfl:=A5 h4;exact A0 (DJ Tryz.results30 (AM Aa) (AM Aa)) sN ⟨Aa,Aa⟩
 ·refine Ay (AP (Ak (wm Aa (Bb (ys:=([([97,99,107]:Al),id]:List Al)) (enc:=eS) (css:=[[rS ([97,99,107]:Al)],[rS id]]) (xs:=[.const (.string ⟨#[97,99,107]⟩),.tmp 7]) Cn Cv PW Aa Aa Aa ⟨D1.one Aa (Up.refl _),D1.one Aa (Up.refl _),trivial⟩ Aa CY Aa Aa Aa (λb6=>?_)))));refine WL.freeze (i:=0) Aa (Bb (ys:=([([([97,99,107]:Al),id]:List Al)]:List (List Al))) (enc:=Bm) (css:=[[AY 1 (A4 eS ([([97,99,107]:Al),id]:List Al))]]) (xs:=[.tmp 8]) Hg GN PX Aa Aa Aa ⟨D1.one Aa (Up.fact (i:=0) Aa),trivial⟩ Aa CZ Aa Aa Aa (λb7=>?_));refine WL.freeze (i:=0) Aa (WL.up (d:=9) (r:=AY 1 (A4 Bm ([([([97,99,107]:Al),id]:List Al)]:List (List Al)))) Aa (Up.fact (i:=0) Aa) (ob h5 λr8 ha h9=>CG Tryz.call51 (P3 F ([([([97,99,107]:Al),id]:List Al)]:List (List Al)) r8 ha) Aa (wv (AA Aa Aa) (wv (AA Aa Aa) (wa Aa (wa Aa (Av (A1 ?_))))))));obtain rfl:=A5 h9;exact A0 (DJ Tryz.results30 (AM Aa) (AM Aa)) (sS (sS sN)) ⟨Aa,Aa⟩
end Go.Proofs.YtfobhhegpkinaaaGreatDoor.Q
namespace Go.Proofs.YtfobhhegpkinaaaGreatDoor
open Go
set_option linter.unusedVariables false
def He (n:Int):Option ((List Ac)):=
 some ([(Ac.mk 3 n ([]:Al) 0)]:List Ac)
def K8 (a:(List Al))(b:(List Al))(ha:Int):Option (Stp (Int) (Out (Bool) (Unit))):=
 B2 (decide (ha<(a.length:Int))) (Ba (CP ha (a.length:Int))<|Ba (CP ha (b.length:Int))<|B2 (!decide ((Ap a ha)=(Ap b ha))) (some (.out (.ret false))) (Ba (BF .i64 (ha+1))<|some (.next (ha+1)))) (some (.out (.go ())))
def K7 :Option (Bool):=
 some true
def Tp (F:Nat)(a:(List Al))(b:(List Al)):Option (Bool):=
 B2 (!decide ((a.length:Int)=(b.length:Int))) (some false) (B3 (Ci (λσ=>K8 a b σ) F 0) (BS λν=>K7 ))
end Go.Proofs.YtfobhhegpkinaaaGreatDoor
namespace Go.Proofs.YtfobhhegpkinaaaGreatDoor.Q
open Go Go.RowKit
set_option linter.unusedVariables false
set_option linter.unusedSimpArgs false
set_option maxRecDepth 100000
set_option maxHeartbeats 4000000
theorem HQ (n:Int)(r:(List Ac))(h:He n=some r):Fn Tryz.prog GE 34 [At n] [] (λR H=>R=AY 4 (A4 Ab r)∧H=[]):=by
 refine enter (n:=6) Tryz.func34 Aa Tryz.ntmps34 Aa (λw Z=>?_);unfold He at h;refine Ak (wa Aa (Bs (wm Aa (wv (r:=BQ [At 3,At n,rS ([]:Al),At 0]) (Ia Aa Aa Aa Aa) (Bb (ys:=([(Ac.mk 3 n ([]:Al) 0)]:List Ac)) (enc:=Ab) (css:=[[At 3,At n,rS ([]:Al),At 0]]) (xs:=[.tmp 4]) Co CC Lc Aa Aa Aa ⟨D1.agg ⟨Up.refl _,Up.refl _,Up.refl _,Up.refl _,trivial⟩,trivial⟩ Aa BG Aa Aa Aa (λb1=>?_))))));refine wa Aa (Av (A1 (WK.freeze (i:=0) Aa (WK.up (d:=2) (r:=AY 4 (A4 Ab ([(Ac.mk 3 n ([]:Al) 0)]:List Ac))) Aa (Up.fact (i:=0) Aa) ?_))));obtain rfl:=A5 h;exact A0 (BJ Tryz.results34 (AM Aa)) (sS sN) ⟨Aa,Aa⟩
theorem Xp (F:Nat)(a:(List Al))(b:(List Al))(r:Bool)(h:Tp F a b=some r):Fn Tryz.prog GE 16 [AY 1 (A4 eS a),AY 1 (A4 eS b)] [] (λR H=>R=rB r∧H=[]):=by
 refine enter (n:=26) Tryz.func16 Aa Tryz.ntmps16 Aa (λw Z=>?_);unfold Tp at h;refine Ak (wa Aa (Av (An (Ak (wm Aa (wv (Bq (ys:=a) (enc:=eS) Cn Aa) (wm Aa (wv (Bq (ys:=b) (enc:=eS) Cn Aa) (wv (BT Aa Aa) (Av (cz h Aa (λc1 h2=>?_) (λc1 h3=>?_))))))))))))
 ·refine Ak (wa Aa (Av (A1 (Ae ?_))));obtain rfl:=A5 h2;exact A0 (BJ Tryz.results16 (AM Aa)) sN ⟨Aa,Aa⟩
 ·refine Ay (AP (An (Ak (wa Aa (Av (AJ (ob h3 λhg hh hf=>Bu (S:=Nat×(Int)×(Unit)) (V:=(Unit)×(Unit)) 0 (λσ=>Ci (λσ=>K8 a b σ) σ.1 σ.2.1=some hg) (λσ=>[(0,AY 1 (A4 eS a)),(1,AY 1 (A4 eS b)),(5,At σ.2.1)]) (λσ=>[]) (λσ=>σ.1) (F,0,()) hh (AL.c Aa (AL.c Aa (AL.c Aa AL.nil))) sN (λσ=>K7 =some r) (λσ=>[]) (λσ=>[]) ?_ ?_)))))))
  ·rintro⟨h1,ha,⟨⟩⟩ hi;refine BW (l':=[(0,AY 1 (A4 eS a)),(1,AY 1 (A4 eS b)),(5,At ha)]) (H':=[]) Aa Aa ?_;obtain⟨hj,rfl,hk,hb,he⟩:=C4 hi;replace hb:K8 a b ha=some hk:=hb;unfold K8 at hb;refine An (Ak (wm Aa (wm Aa (wv (Bq (ys:=a) (enc:=eS) Cn Aa) (wv (C0 Aa Aa) (Av (cz hb Aa (λhl hm=>?_) (λhl hn=>?_))))))))
   ·refine Ay (AP (An (AJ (An (ck hm λho hp=>ck hp λhq hr=>Do [0,1,5] [⟨[],AY 1 (A4 eS a),0⟩,⟨[],At ha,0⟩,⟨[0,1],SW [rS (Ap a ha)],0⟩,⟨[2],rS (Ap a ha),0⟩,⟨[],AY 1 (A4 eS b),0⟩,⟨[],At ha,0⟩,⟨[4,5],SW [rS (Ap b ha)],0⟩,⟨[6],rS (Ap b ha),0⟩,⟨[3,7],rB (!decide ((Ap a ha)=(Ap b ha))),0⟩] [25,0,1,5] ?_ ?_)))))
    ·refine oq (Aq Aa) (oq (Aq Aa) (oq (By (enc:=eS) (ys:=a) Cn Cv Aa Aa ho) (oq (Bg CD Aa Aa) (oq (Aq Aa) (oq (Aq Aa) (oq (By (enc:=eS) (ys:=b) Cn Cv Aa Aa hq) (oq (Bg CD Aa Aa) (oq (I0 Aa Aa) ?_))))))));exact CN
    refine AP (cz hr Aa (λhs ht=>?_) (λhs hu=>?_))
    ·refine Ak (wa Aa (Av (A1 (AC (Ae (Ae (Bj ?_)))))));have hw:=BB ht he hf;refine AC (Ae ?_);obtain rfl:=A5 hw;exact A0 (BJ Tryz.results16 (AM Aa)) sN ⟨Aa,Aa⟩
    ·refine Ay (AG (AP (Ai (wm Aa (ck hu λhx hy=>wv (Bz Aa Aa hx) (wa Aa (Am ?_)))))));have hz:=Bk hy he;exact Aw (AI (hj,ha+1,()) ⟨hz,Aby _⟩ (AL.c Aa (AL.c Aa (AL.c Aa AL.nil))) sN)
   ·refine Bx (A6 ?_);have h0:=BX hn he hf;exact A6 (Be (AI ((),()) h0 AL.nil sN))
  ·rintro⟨⟨⟩,⟨⟩⟩ hd;refine Cy (l':=[]) (H':=[]) Aa Aa ?_;replace hd:K7 =some r:=hd;unfold K7 at hd;refine Bc (AP (Ak (wa Aa (Av (A1 ?_)))));obtain rfl:=A5 hd;exact A0 (BJ Tryz.results16 (AM Aa)) sN ⟨Aa,Aa⟩
end Go.Proofs.YtfobhhegpkinaaaGreatDoor.Q
namespace Go.Proofs
open Go.Shelf
def Tryz.lays190_ren:Go.Shelf.Ren:=⟨fun | 190=>77 | 125=>108 | 258=>107 | 128=>139 | 129=>140 | 302=>130 | 303=>131 | 304=>132 | 305=>133 | 306=>134 | 307=>135 | 308=>136 | 309=>137 | 310=>138 | 333=>164 | 329=>165 | 330=>166 | 334=>167 | 335=>168 | 336=>169 | 344=>192 | n=>n,fun | 31=>42 | 9=>9 | 3=>3 | 46=>134 | 0=>0 | 51=>158 | 53=>179 | 4=>4 | 183=>170 | 182=>169 | 131=>175 | 5=>5 | 218=>198 | 222=>202 | 228=>220 | 229=>221 | n=>n,fun | n=>n⟩
theorem Tryz.lays190:Go.Proofs.Lays.n190 Tryz.prog Tryz.lays190_ren:={
 mixed:=by kernel_rfl
 f125:=Tryz.func108.trans (congrArg some (by kernel_rfl))
 f128:=Tryz.func139.trans (congrArg some (by kernel_rfl))
 f129:=Tryz.func140.trans (congrArg some (by kernel_rfl))
 f190:=Tryz.func77.trans (congrArg some (by kernel_rfl))
 f258:=Tryz.func107.trans (congrArg some (by kernel_rfl))
 f302:=Tryz.func130.trans (congrArg some (by kernel_rfl))
 f303:=Tryz.func131.trans (congrArg some (by kernel_rfl))
 f304:=Tryz.func132.trans (congrArg some (by kernel_rfl))
 f305:=Tryz.func133.trans (congrArg some (by kernel_rfl))
 f306:=Tryz.func134.trans (congrArg some (by kernel_rfl))
 f307:=Tryz.func135.trans (congrArg some (by kernel_rfl))
 f308:=Tryz.func136.trans (congrArg some (by kernel_rfl))
 f309:=Tryz.func137.trans (congrArg some (by kernel_rfl))
 f310:=Tryz.func138.trans (congrArg some (by kernel_rfl))
 f329:=Tryz.func165.trans (congrArg some (by kernel_rfl))
 f330:=Tryz.func166.trans (congrArg some (by kernel_rfl))
 f333:=Tryz.func164.trans (congrArg some (by kernel_rfl))
 f334:=Tryz.func167.trans (congrArg some (by kernel_rfl))
 f335:=Tryz.func168.trans (congrArg some (by kernel_rfl))
 f336:=Tryz.func169.trans (congrArg some (by kernel_rfl))
 f344:=Tryz.func192.trans (congrArg some (by kernel_rfl))
 t0:=Tryz.underlying0
 a0:=Tryz.isAgg0
 z0:=Tryz.sizeOf0
 v0:=Tryz.zeroValue0
 t3:=Tryz.underlying3
 a3:=Tryz.isAgg3
 z3:=Tryz.sizeOf3
 v3:=Tryz.zeroValue3
 t4:=Tryz.underlying4
 a4:=Tryz.isAgg4
 z4:=Tryz.sizeOf4
 v4:=Tryz.zeroValue4
 t5:=Tryz.underlying5
 a5:=Tryz.isAgg5
 z5:=Tryz.sizeOf5
 v5:=Tryz.zeroValue5
 t9:=Tryz.underlying9
 a9:=Tryz.isAgg9
 z9:=Tryz.sizeOf9
 v9:=Tryz.zeroValue9
 t31:=Tryz.underlying42
 a31:=Tryz.isAgg42
 z31:=Tryz.sizeOf42
 v31:=Tryz.zeroValue42
 t46:=Tryz.underlying134
 a46:=Tryz.isAgg134
 z46:=Tryz.sizeOf134
 v46:=Tryz.zeroValue134
 t51:=Tryz.underlying158
 a51:=Tryz.isAgg158
 z51:=Tryz.sizeOf158
 v51:=Tryz.zeroValue158
 t53:=Tryz.underlying179
 a53:=Tryz.isAgg179
 z53:=Tryz.sizeOf179
 v53:=Tryz.zeroValue179
 t131:=Tryz.underlying175
 a131:=Tryz.isAgg175
 z131:=Tryz.sizeOf175
 v131:=Tryz.zeroValue175
 t182:=Tryz.underlying169
 a182:=Tryz.isAgg169
 z182:=Tryz.sizeOf169
 v182:=Tryz.zeroValue169
 t183:=Tryz.underlying170
 a183:=Tryz.isAgg170
 z183:=Tryz.sizeOf170
 v183:=Tryz.zeroValue170
 t218:=Tryz.underlying198
 a218:=Tryz.isAgg198
 z218:=Tryz.sizeOf198
 v218:=Tryz.zeroValue198
 t222:=Tryz.underlying202
 a222:=Tryz.isAgg202
 z222:=Tryz.sizeOf202
 v222:=Tryz.zeroValue202
 t228:=Tryz.underlying220
 a228:=Tryz.isAgg220
 z228:=Tryz.sizeOf220
 v228:=Tryz.zeroValue220
 t229:=Tryz.underlying221
 a229:=Tryz.isAgg221
 z229:=Tryz.sizeOf221
 v229:=Tryz.zeroValue221 }
open Go.Sort Go.RowKit in
theorem Tryz.slices_Sort_string (blk off cap:Nat)(ss:List (List UInt8))(w:World)(hH:Holds encStr w blk off ss.toArray)(hblk:blk<w.heap.size)(hsz:ss.length<4611686018427387904) :
  Calls Tryz.prog 77 #[.slice (some ⟨blk,off,none⟩) ss.length cap] w λe w'=>
   e = .returned (.tuple #[])∧∃n os,w'=grow (putRow encStr (Sort.ahead w n) blk off (ss.mergeSort λx y=>decide (x≤y)).toArray) os:=Any.slices_Sort_string Tryz.lays190 blk off cap ss w hH hblk hsz
def Tryz.laysNm216_ren:Go.Shelf.Ren:=⟨fun | 16=>43 | n=>n,fun | 24=>42 | 9=>9 | 4=>4 | n=>n,fun | n=>n⟩
theorem Tryz.laysNm216:Go.Proofs.Lays2.n16 Tryz.prog Tryz.laysNm216_ren:={
 mixed:=by kernel_rfl
 f16:=Tryz.func43.trans (congrArg some (by kernel_rfl))
 t4:=Tryz.underlying4
 a4:=Tryz.isAgg4
 z4:=Tryz.sizeOf4
 v4:=Tryz.zeroValue4
 t9:=Tryz.underlying9
 a9:=Tryz.isAgg9
 z9:=Tryz.sizeOf9
 v9:=Tryz.zeroValue9
 t24:=Tryz.underlying42
 a24:=Tryz.isAgg42
 z24:=Tryz.sizeOf42
 v24:=Tryz.zeroValue42
 i9:=by kernel_rfl }
open Go.RowKit Go.Lib in
theorem Tryz.slices_Clone_string (b off n c:Nat)(zs:List ByteArray)(w:World)(hz:n≤zs.length)(hbig:n*16≤140737488355328)(hc:∀j,j<zs.length→w.cell? ⟨b,off+j,none⟩=some (.string (zs.getD j ByteArray.empty))) :
  Calls Tryz.prog 43 #[.slice (some ⟨b,off,none⟩) n c] w λe w'=>∃v',e = .returned v'∧w'.ownsRow w.heap.size 9 1 v' n ((zs.take n).map (Value.string))∧v'≠.slice none 0 0∧Below w.heap.size w w':=Any.slices_Clone_string Tryz.laysNm216 b off n c zs w hz hbig hc
open Go.RowKit Go.Lib in
theorem Tryz.slices_Clone_string_nil (n c:Nat)(w:World) :
  Calls Tryz.prog 43 #[.slice none n c] w λe w'=>e = .returned (.slice none 0 0)∧w'=w:=Any.slices_Clone_string_nil Tryz.laysNm216 n c w
open Go.RowKit Go.Lib in
theorem Tryz.slices_Clone_string_zero (a:Addr)(c:Nat)(w:World) :
  Calls Tryz.prog 43 #[.slice (some a) 0 c] w λe w'=>∃v',e = .returned v'∧w'.ownsRow w.heap.size 9 1 v' 0 []∧v'≠.slice none 0 0∧Below w.heap.size w w':=Any.slices_Clone_string_zero Tryz.laysNm216 a c w
def Tryz.lays194_ren:Go.Shelf.Ren:=⟨fun | 194=>78 | n=>n,fun | 31=>42 | 9=>9 | 3=>3 | 4=>4 | 0=>0 | n=>n,fun | n=>n⟩
theorem Tryz.lays194:Go.Proofs.Lays.n194 Tryz.prog Tryz.lays194_ren:={
 mixed:=by kernel_rfl
 f194:=Tryz.func78.trans (congrArg some (by kernel_rfl))
 t0:=Tryz.underlying0
 a0:=Tryz.isAgg0
 z0:=Tryz.sizeOf0
 v0:=Tryz.zeroValue0
 t3:=Tryz.underlying3
 a3:=Tryz.isAgg3
 z3:=Tryz.sizeOf3
 v3:=Tryz.zeroValue3
 t4:=Tryz.underlying4
 a4:=Tryz.isAgg4
 z4:=Tryz.sizeOf4
 v4:=Tryz.zeroValue4
 t9:=Tryz.underlying9
 a9:=Tryz.isAgg9
 z9:=Tryz.sizeOf9
 v9:=Tryz.zeroValue9
 t31:=Tryz.underlying42
 a31:=Tryz.isAgg42
 z31:=Tryz.sizeOf42
 v31:=Tryz.zeroValue42 }
open Go.RowKit Go.Lib Go.Sort in
theorem Tryz.slices_Compact_string (blk off cap:Nat)(zs:List (List UInt8))(w:World)(hH:Holds encStr w blk off zs.toArray)(hsz:zs.length≤9223372036854775807)(hcap:zs.length≤cap) :
  Calls Tryz.prog 78 #[.slice (some ⟨blk,off,none⟩) zs.length cap] w λe w'=>e = .returned (.slice (some ⟨blk,off,none⟩) (Lib.compact zs).length cap)∧∃q,w'=putRow encStr (Sort.ahead w q) blk off (Lib.compact zs++List.replicate (zs.length-(Lib.compact zs).length) []).toArray:=Any.slices_Compact_string Tryz.lays194 blk off cap zs w hH hsz hcap
open Go.RowKit Go.Lib Go.Sort in
theorem Tryz.slices_Compact_string_empty (a:Option Addr)(cap:Nat)(w:World) :
  Calls Tryz.prog 78 #[.slice a 0 cap] w λe w'=>e = .returned (.slice a 0 cap)∧w'=w:=Any.slices_Compact_string_empty Tryz.lays194 a cap w
open Go.RowKit Go.Sort in
theorem Tryz.slices_Sort_string_none (p:Option Addr)(cap:Nat)(w:World) :
  Calls Tryz.prog 77 #[.slice p 0 cap] w λe w'=>e = .returned (.tuple #[])∧w'=w:=Any.slices_Sort_string_none Tryz.lays190 p cap w
end Go.Proofs
namespace Go.Proofs.YtfobhhegpkinaaaGreatDoor
open Go Go.RowKit Go.Sort
set_option linter.unusedVariables false
set_option linter.unusedSimpArgs false
theorem Vy (ss:List (List UInt8)):flat (ss.map Rt)=ss.map encStr:=by
 induction ss with
 | nil=>rfl
 | cons s r ih=>simp[flat,Rt,B,encStr] at ih ⊢;exact ih
theorem Wi (ss:List (List UInt8)):∀c∈ss.map Rt,c.length=1:=by
 intro c hc;obtain⟨s,_,rfl⟩:=List.mem_map.1 hc;rfl
theorem St.of_row {w w':World}{e:TypeId}{sz n:Nat}{v:Value}{xs:List Value}(hb:Below w.heap.size w w')(h:w'.ownsRow w.heap.size e sz v n xs):St w [] [.row v e sz n xs] w':=by
 have h0:=St.of_below hb;refine⟨h0.os,h0.tape,h0.output,h0.size,h0.old,?_,?_,by simp⟩
 ·intro en he;simp only[AbJ] at he;subst he;refine⟨h.1,?_⟩;rcases h.2 with hn | ⟨g,cap,cur,rfl,hb,rest⟩
  ·exact .inl hn
  ·exact .inr ⟨g,cap,cur,rfl,AbW _,rest⟩
 ·intro en he k hk;simp only[AbJ] at he;subst he;simp[Ent.foot,Option.mem_toList] at hk;exact .inl (h.lt k hk).1
theorem OQ.of_row {w:World}{v:Value}{ss:List (List UInt8)}(h:(Ent.row v 9 1 ss.length (ss.map encStr)).holds w):OQ w v ss:=by
 have h2:=VE.of_row (sz:=1) (e:=9) (vs:=ss.map Rt) (w:=w) (v:=v) (by rw[Vy];simpa using h) (Wi ss);exact h2
theorem OQ.cells {w:World}{v:Value}{ss:List (List UInt8)}(h:OQ w v ss):(∃cap,v = .slice none 0 cap∧ss=[])∨(∃a cap,v = .slice (some a) ss.length cap∧ss=[])∨
  (∃b off cap,v = .slice (some ⟨b,off,none⟩) ss.length cap∧∀j,j<ss.length→w.cell? ⟨b,off+j,none⟩=some (.string ((ss.map B).getD j ByteArray.empty))):=by
 obtain⟨A,cap,rfl,hc,hm,hi⟩:=h
 cases A with
 | none=>
  have:ss=[]:=by
   cases ss with
   | nil=>rfl
   | cons s r=>obtain⟨_,a,h,_⟩:=hi 0 (Rt s) (by simp);cases h
  subst this;exact .inl ⟨cap,rfl,rfl⟩
 | some a=>
  cases hs:ss with
  | nil=>subst hs;exact .inr (.inl ⟨a,cap,rfl,rfl⟩)
  | cons s r=>
   obtain⟨_,a',h,hsp,_,_⟩:=hi 0 (Rt s) (by simp[hs]);simp at h;subst h;obtain⟨b,off,spot⟩:=a;simp only at hsp;subst hsp;refine .inr (.inr ⟨b,off,cap,by simp[hs],λj hj=>?_⟩);rw[← hs] at hj ⊢;obtain⟨_,a',h,_,_,hcell⟩:=hi j (Rt ss[j]) (by simp[hj]);simp at h;subst h;have:=hcell 0 _ rfl;simpa[hj] using this
theorem YN (v:Value)(ss:List (List UInt8))(hl:ss.length≤8796093022208)(w:World)(h:OQ w v ss) :
  Calls Tryz.prog 43 [v].toArray w (VJ w [] (λu H=>H=[.row u 9 1 ss.length (ss.map encStr)])):=by
 rcases h.cells with⟨cap,rfl,rfl⟩ | ⟨a,cap,rfl,rfl⟩ | ⟨b,off,cap,rfl,hc⟩
 ·refine(Tryz.slices_Clone_string_nil 0 cap w).mono λe w' ⟨he,hw⟩=>?_;subst hw;exact⟨_,_,he,St.of_row (Below.refl _ _) ⟨rfl,.inl ⟨rfl,rfl⟩⟩,rfl⟩
 ·refine(Tryz.slices_Clone_string_zero a cap w).mono λe w' ⟨v',he,ho,_,hb⟩=>?_;exact⟨_,_,he,St.of_row hb ho,rfl⟩
 ·refine(Tryz.slices_Clone_string b off ss.length cap (ss.map B) w (by simp) (by omega) (λj hj=>hc j (by simpa using hj))).mono λe w' ⟨v',he,ho,_,hb⟩=>?_;refine⟨_,_,he,St.of_row hb ho,?_⟩;simp[List.take_of_length_le,B]
theorem Zs (v:Value)(ss:List (List UInt8))(hl:ss.length≤8796093022208)(w:World)(h:(Ent.row v 9 1 ss.length (ss.map encStr)).holds w) :
  Calls Tryz.prog 77 [v].toArray w (VJ w (Ent.row v 9 1 ss.length (ss.map encStr)).foot (λu H=>u = .tuple #[]∧H=[.row v 9 1 (ss.mergeSort λx y=>decide (x≤y)).length ((ss.mergeSort λx y=>decide (x≤y)).map encStr)])):=by
 obtain⟨h1,h2⟩:=h;rcases h2 with⟨rfl,hn⟩ | ⟨g,cap,cur,rfl,_,hg,hc,hm,hsz,ht⟩
 ·have:ss=[]:=AbF hn;subst this;refine(Tryz.slices_Sort_string_none none 0 w).mono λe w' ⟨he,hw⟩=>?_;subst hw;exact⟨_,_,he,St.of_row (e:=9) (sz:=1) (n:=0) (xs:=[]) (Below.refl _ _) ⟨rfl,.inl ⟨rfl,rfl⟩⟩,rfl,by simp⟩
 ·have hb:=(Array.getElem?_eq_some_iff.1 hg).1;refine(Tryz.slices_Sort_string g 0 cap ss w (holds_of_block hg (by simpa using ht)) hb (by omega)).mono λe w' ⟨he,n,os,hw⟩=>?_;subst hw;have hgb:=grownBy_sorted (w:=w) (g:=g) (n:=n) (os:=os) (ss.mergeSort λx y=>decide (x≤y)).toArray;have ho:=ownsRow_sorted (w:=w) (base:=0) (g:=g) (cap:=cap) (n:=n) (e:=9) (os:=os) (cur:=cur) (ss:=ss) (ts:=ss.mergeSort λx y=>decide (x≤y)) (by simp) (AbW _) hg hc hm hsz;refine⟨_,_,he,⟨hgb.os,hgb.tape,hgb.output,hgb.size,λk hk hne=>hgb.block k hk (λe=>hne ?_),?_,?_,by simp⟩,rfl,rfl⟩
  ·simp only[Option.some.injEq] at e;simp[Ent.foot,Value.ownBlock,e]
  ·intro en he;simp only[AbJ] at he;subst he;rw[List.length_mergeSort];exact ho
  ·intro en he k hk;simp only[AbJ] at he;subst he;exact .inr hk
theorem V5 (v:Value)(ss:List (List UInt8))(hl:ss.length≤8796093022208)(w:World)(h:(Ent.row v 9 1 ss.length (ss.map encStr)).holds w) :
  Calls Tryz.prog 78 [v].toArray w (VJ w (Ent.row v 9 1 ss.length (ss.map encStr)).foot (λu H=>H=[.row u 9 1 (Lib.compact ss).length ((Lib.compact ss).map encStr)])):=by
 obtain⟨h1,h2⟩:=h;rcases h2 with⟨rfl,hn⟩ | ⟨g,cap,cur,rfl,_,hg,hc,hm,hsz,ht⟩
 ·have:ss=[]:=AbF hn;subst this;refine(Tryz.slices_Compact_string_empty none 0 w).mono λe w' ⟨he,hw⟩=>?_;subst hw;exact⟨_,_,he,St.of_row (Below.refl _ _) ⟨rfl,.inl ⟨rfl,rfl⟩⟩,rfl⟩
 ·have hb:=(Array.getElem?_eq_some_iff.1 hg).1;have hcl:(Lib.compact ss).length≤ss.length:=Lib.compact_length_le ss;refine(Tryz.slices_Compact_string g 0 cap ss w (holds_of_block hg (by simpa using ht)) (by omega) hc).mono λe w' ⟨he,q,hw⟩=>?_;subst hw;have ho:=Lib.ownsRow_putRow (enc:=encStr) (w:=w) (base:=0) (e:=9) (g:=g) (n:=ss.length) (cap:=cap) (q:=q) (k:=(Lib.compact ss).length) (zs:=ss) (ys:=Lib.compact ss++List.replicate (ss.length-(Lib.compact ss).length) [])
   ⟨h1,.inr ⟨g,cap,cur,rfl,AbW _,hg,hc,hm,hsz,ht⟩⟩ (by simp;omega) hcl
  rw[List.take_left] at ho;refine⟨_,_,he,⟨rfl,rfl,rfl,by simp[Sort.ahead],λk hk hne=>?_,?_,?_,by simp⟩,rfl⟩
  ·have:g≠k:=λe=>hne (by simp[Ent.foot,Value.ownBlock,e]);simp[putRow,mapBlock,Sort.ahead,Array.getElem?_modify,this]
  ·intro en he;simp only[AbJ] at he;subst he;exact ho
  ·intro en he k hk;simp only[AbJ] at he;subst he;exact .inr (by simpa[Ent.foot,Value.ownBlock] using hk)
section
variable {P : Program} {n : Nat} {w0 : World} {M : List Nat} {l : Fr} {H : List Ent} {d : Option Nat} {x y : Operand} {ty t e : TypeId} {pos : String} {af : Array Edge} {g : Option (Nat × Bool)} {v : Value} {ss : List (List UInt8)} {i : Int}
end
def BH (ss:List (List UInt8)):List (List UInt8):=Lib.compact (ss.mergeSort λx y=>decide (x≤y))
open Go
structure Aj where
 fValue:(List Ac)
 fVersion:Int
 deriving DecidableEq,Inhabited
structure AR where
 fMade:Bool
 fEvents:(List Al)
 fResults:(List (Al×(List Ac)))
 fKeys:(List (Al×(List (Al×Aj))))
 fPending:(List A3)
 deriving DecidableEq,Inhabited
structure Jm where
 fKind:Int
 fC:AS
 fS:Al
 fN:Int
 deriving DecidableEq,Inhabited
def QP (ys:(List Al)):Option ((List Al)):=
 Ba (CX 16 (([]:List Al).length+ys.length))<|some (([]:List Al)++ys)
def QQ (ys:(List A3)):Option ((List A3)):=
 Ba (CX 112 (([]:List A3).length+ys.length))<|some (([]:List A3)++ys)
def Yx :Option (AR):=
 some (AR.mk true ([]:List Al) ([]:List (Al×(List Ac))) ([]:List (Al×(List (Al×Aj)))) ([]:List A3))
def PA :Option (Bool):=
 some false
def Ib (o:AR):Option (Bool):=
 some o.fMade
def Hd (ha:Int)(hb:(List (Al×Aj))):Option (Stp (Int×(List (Al×Aj))) (Out (Int×(List (Al×Aj))) ((List (Al×Aj))))):=
 Ba (BF .i64 (ha+1))<|some (.next (ha+1,hb))
def Ky (l:(List Ar))(ha:Int)(hb:(List (Al×Aj))):Option (Stp (Int×(List (Al×Aj))) (Out (Int×(List (Al×Aj))) ((List (Al×Aj))))):=
 B2 (decide (ha<(l.length:Int))) (Ba (CP ha (l.length:Int))<|B2 (decide (((Ap l ha).fKind)=1)) (B3 (Jk ((Ap l ha).fValue)) λhd=>Ba (BF .i64 (((BL hb ((Ap l ha).fKey) (Aj.mk ([]:(List Ac)) 0)).fVersion)+1))<|B2 (decide (256<((mset hb ((Ap l ha).fKey) (Aj.mk hd (((BL hb ((Ap l ha).fKey) (Aj.mk ([]:(List Ac)) 0)).fVersion)+1))).length:Int))) (some (.out (.ret (3,mset hb ((Ap l ha).fKey) (Aj.mk hd (((BL hb ((Ap l ha).fKey) (Aj.mk ([]:(List Ac)) 0)).fVersion)+1)))))) (Hd ha (mset hb ((Ap l ha).fKey) (Aj.mk hd (((BL hb ((Ap l ha).fKey) (Aj.mk ([]:(List Ac)) 0)).fVersion)+1))))) (B2 (decide (((Ap l ha).fKind)=2)) (Hd ha (mdel hb ((Ap l ha).fKey))) (Hd ha hb))) (some (.out (.go hb)))
def Kx (ha:(List (Al×Aj))):Option (Int×(List (Al×Aj))):=
 some (0,ha)
def Tf (F:Nat)(keys:(List (Al×Aj)))(l:(List Ar)):Option (Int×(List (Al×Aj))):=
 B3 (Ci (λσ=>Ky l σ.1 σ.2) F (0,keys)) (BS λν=>Kx ν)
def WR (x:A3)(id:Al):Option (Bool):=
 some (decide (x.fID=id))
def K6 (ys:(List A3))(id:Al)(ha:Int):Option (Stp (Int) (Out (Int) (Unit))):=
 B2 (decide (ha<(ys.length:Int))) (Ba (CP ha (ys.length:Int))<|B3 (WR (A3.mk ((Ap ys ha).fID) ((Ap ys ha).fTenant) ((Ap ys ha).fCause) ((Ap ys ha).fAt) ((Ap ys ha).fEffect)) id) λhb=>B2 (hb) (some (.out (.ret ha))) (Ba (BF .i64 (ha+1))<|some (.next (ha+1)))) (some (.out (.go ())))
def K5 :Option (Int):=
 some (-1)
def Tm (F:Nat)(ys:(List A3))(id:Al):Option (Int):=
 B3 (Ci (λσ=>K6 ys id σ) F 0) (BS λν=>K5 )
def QN (ys:(List A3))(i:Int)(j:Int):Option ((List A3)):=
 Ba (E5 i j)<|Ba (E5 j (ys.length:Int))<|Ba (E5 (ys.length:Int) (ys.length:Int))<|B2 (decide (i=j)) (some ys) (Ba (E5 i (ys.length:Int))<|Ba (E5 ((Int.toNat i+(ys.length-Int.toNat j):Nat):Int) (ys.length:Int))<|some (List.take (Int.toNat i+(ys.length-Int.toNat j)) (List.take (Int.toNat ((Int.toNat i+(ys.length-Int.toNat j):Nat):Int)) (List.take (Int.toNat i) ys++List.drop (Int.toNat j) ys++List.drop (Int.toNat i+(ys.length-Int.toNat j)) ys)++List.replicate ((List.take (Int.toNat i) ys++List.drop (Int.toNat j) ys++List.drop (Int.toNat i+(ys.length-Int.toNat j)) ys).length-Int.toNat ((Int.toNat i+(ys.length-Int.toNat j):Nat):Int)) (A3.mk ([]:Al) ([]:Al) ([]:Al) 0 (Ar.mk 0 ([]:Al) ([]:(List Ac)) 0)))))
def Q3 (o:AR)(event:Al):Option ((List Ac)×Bool):=
 B3 (Ib o) λr1=>B2 (!r1) (some (([]:List Ac),false)) (B3 (Jk (BL o.fResults event ([]:(List Ac)))) λr7=>some (r7,Gj o.fResults event))
def HI (o:AR)(hb:(List A3))(ha:Int):Option (Stp ((List A3)×Int) (Out ((List A3)) ((List A3)))):=
 B2 (decide (ha<(o.fPending.length:Int))) (Ba (CP ha (o.fPending.length:Int))<|B3 (WM ((Ap o.fPending ha).fEffect)) λhd=>Ba (CX 112 (hb.length+([(A3.mk ((Ap o.fPending ha).fID) ((Ap o.fPending ha).fTenant) ((Ap o.fPending ha).fCause) ((Ap o.fPending ha).fAt) hd)]:List A3).length))<|Ba (BF .i64 (ha+1))<|some (.next (hb++([(A3.mk ((Ap o.fPending ha).fID) ((Ap o.fPending ha).fTenant) ((Ap o.fPending ha).fCause) ((Ap o.fPending ha).fAt) hd)]:List A3),ha+1))) (some (.out (.go hb)))
def HH (ha:(List A3)):Option ((List A3)):=
 some ha
def JO (F:Nat)(o:AR):Option ((List A3)):=
 B3 (Ib o) λr1=>B2 (!r1) (some ([]:List A3)) (B3 (Ci (λσ=>HI o σ.1 σ.2) F (([]:List A3),0)) (BS λν=>HH ν))
def Q7 (o:AR):Option ((List Al)):=
 B3 (Ib o) λr1=>B2 (!r1) (some ([]:List Al)) (B3 (QP o.fEvents) λr7=>some r7)
def WS (F:Nat)(o:AR)(id:Al):Option (Int×AR):=
 B3 (Ib o) λr2=>B2 (!r2) (some (10,o)) (B3 (Tm F o.fPending id) λr8=>B2 (decide (r8<0)) (some (5,o)) (B3 (QQ o.fPending) λha=>Ba (BF .i64 (r8+1))<|B3 (QN ha r8 (r8+1)) λhb=>some (0,(AR.mk o.fMade o.fEvents o.fResults o.fKeys hb))))
def Ku (o:AR)(tenant:Al)(hb:(List Al))(hd:(List BN))(ha:Int):Option (Stp ((List BN)×Int) (Out ((List BN)) ((List BN)))):=
 B2 (decide (ha<((BH hb).length:Int))) (Ba (CP ha ((BH hb).length:Int))<|B3 (Jk ((BL (BL o.fKeys tenant ([]:(List (Al×Aj)))) (Ap (BH hb) ha) (Aj.mk ([]:(List Ac)) 0)).fValue)) λhe=>Ba (CX 48 (hd.length+([(BN.mk (Ap (BH hb) ha) he ((BL (BL o.fKeys tenant ([]:(List (Al×Aj)))) (Ap (BH hb) ha) (Aj.mk ([]:(List Ac)) 0)).fVersion))]:List BN).length))<|Ba (BF .i64 (ha+1))<|some (.next (hd++([(BN.mk (Ap (BH hb) ha) he ((BL (BL o.fKeys tenant ([]:(List (Al×Aj)))) (Ap (BH hb) ha) (Aj.mk ([]:(List Ac)) 0)).fVersion))]:List BN),ha+1))) (some (.out (.go hd)))
def Kt (ha:(List BN)):Option ((List BN)):=
 some ha
def Kv (ha:Al)(hd:Aj)(hb:(List Al)):Option (Stp ((List Al)) (Out ((List BN)) ((List Al)))):=
 Ba (CX 16 (hb.length+([ha]:List Al).length))<|some (.next (hb++([ha]:List Al)))
def Hc (F:Nat)(o:AR)(tenant:Al)(ha:(List Al)):Option ((List BN)):=
 Ba (CX 16 ha.length)<|B3 (Ci (λσ=>Ku o tenant ha σ.1 σ.2) F (([]:List BN),0)) (BS λν=>Kt ν)
def Ox (F:Nat)(o:AR)(tenant:Al):Option ((List BN)):=
 B3 (Ib o) λr1=>B2 (!r1) (some ([]:List BN)) (WZ (BL o.fKeys tenant ([]:(List (Al×Aj)))) λord=>B3 (Tj (λpe τ=>Kv pe.1 pe.2 τ) ord ([]:List Al)) (BS λν=>Hc F o tenant ν))
def Hw (ha:Int)(hb:(List A3)):Option (Stp (Int×(List A3)) (Out (Bool×Int×AR) ((List A3)))):=
 Ba (BF .i64 (ha+1))<|some (.next (ha+1,hb))
def IV (c:AS)(ha:Int)(hb:(List A3)):Option (Stp (Int×(List A3)) (Out (Bool×Int×AR) ((List A3)))):=
 B2 (decide (ha<(c.fEffects.length:Int))) (Ba (CP ha (c.fEffects.length:Int))<|B3 (EO ((Ap c.fEffects ha).fKind)) λhe=>B2 (he) (Ba (CX 1 c.fEvent.length)<|Ba (BF .i64 ha)<|B3 (WM (Ap c.fEffects ha)) λhd=>Ba (CX 112 (hb.length+([(A3.mk (BY c.fEvent ha) c.fTenant c.fEvent c.fAt hd)]:List A3).length))<|Hw ha (hb++([(A3.mk (BY c.fEvent ha) c.fTenant c.fEvent c.fAt hd)]:List A3))) (Hw ha hb)) (some (.out (.go hb)))
def IU (o:AR)(c:AS)(ha:Int×(List (Al×Aj)))(hb:(List Ac))(hd:(List A3)):Option (Bool×Int×AR):=
 some (true,0,(AR.mk o.fMade (o.fEvents++([c.fEvent]:List Al)) (mset o.fResults c.fEvent hb) (mset o.fKeys c.fTenant ha.2) hd))
def IW (ha:Al)(hb:Aj)(hd:(List (Al×Aj))):Option (Stp ((List (Al×Aj))) (Out (Bool×Int×AR) ((List (Al×Aj))))):=
 some (.next (mset hd ha hb))
def Gv (F:Nat)(o:AR)(c:AS)(hb:(List (Al×Aj))):Option (Bool×Int×AR):=
 B3 (Tf F hb c.fEffects) λha=>B2 (!decide (ha.1=0)) (some (false,ha.1,o)) (Ba (CX 16 (o.fEvents.length+([c.fEvent]:List Al).length))<|B3 (Jk c.fResult) λhd=>B3 (Ci (λσ=>IV c σ.1 σ.2) F (0,o.fPending)) (BS λν=>IU o c ha hd ν))
def Q9 (F:Nat)(o:AR)(c:AS):Option (Bool×Int×AR):=
 B3 (Ib o) λr2=>B2 (!r2) (some (false,10,o)) (B3 (Gw F c) λr8=>B2 (!decide (r8=0)) (some (false,r8,o)) (B2 (Gj o.fResults c.fEvent) (some (false,0,o)) (B2 (decide (4000≤(o.fEvents.length:Int))) (some (false,3,o)) (WZ (BL o.fKeys c.fTenant ([]:(List (Al×Aj)))) λord=>B3 (Tj (λpe τ=>IW pe.1 pe.2 τ) ord ([]:List (Al×Aj))) (BS λν=>Gv F o c ν)))))
def LP (F:Nat)(o:AR)(r7:(List Al)×Int)(hb:(List (List Al)))(ha:Int):Option (Stp ((List (List Al))×Int) (Out (Int×AR) ((List (List Al))))):=
 B2 (decide (ha<(r7.1.length:Int))) (Ba (CP ha (r7.1.length:Int))<|B3 (QK F (Ap r7.1 ha)) λhd=>B2 (!decide (hd.2=0)) (some (.out (.ret (13,o)))) (Ba (CX 24 (hb.length+([hd.1]:List (List Al)).length))<|Ba (BF .i64 (ha+1))<|some (.next (hb++([hd.1]:List (List Al)),ha+1)))) (some (.out (.go hb)))
def LO (F:Nat)(o:AR)(rc:Al)(ha:(List (List Al))):Option (Int×AR):=
 Ba (imp (decide ((ha.length:Int)=1)) (CP 0 (ha.length:Int)))<|B2 (((decide ((ha.length:Int)=1))&&(decide (((Ap ha 0).length:Int)=2)))) (Ba (CP 0 (ha.length:Int))<|Ba (CP 1 ((Ap ha 0).length:Int))<|B3 (EH F (Ap (Ap ha 0) 1)) λhd=>B2 (((!decide (hd.2=0))||(!decide (hd.1=rc)))) (some (13,o)) (B3 (WS F o (Ap (Ap ha 0) 1)) λhg=>some (0,hg.2))) (B3 (Q8 F ha) λhb=>B3 (IR F hb.1) λhe=>B2 (((!hb.2)||((!decide (he.2=0))||(!decide (he.1=rc))))) (some (13,o)) (B3 (Q9 F o hb.1) λhf=>some (hf.2.1,hf.2.2)))
def PB (F:Nat)(o:AR)(rc:Al):Option (Int×AR):=
 B3 (Ib o) λr1=>B2 (!r1) (some (10,o)) (B3 (Tr F rc) λr7=>B3 (Ci (λσ=>LP F o r7 σ.1 σ.2) F (([]:List (List Al)),0)) (BS λν=>LO F o rc ν))
end Go.Proofs.YtfobhhegpkinaaaGreatDoor
namespace Go.Proofs.YtfobhhegpkinaaaGreatDoor
open Go
end Go.Proofs.YtfobhhegpkinaaaGreatDoor
namespace Go.Proofs.YtfobhhegpkinaaaGreatDoor.Q
open Go Go.RowKit Go.ChangeMaps
set_option linter.unusedVariables false
set_option linter.unusedSimpArgs false
end Go.Proofs.YtfobhhegpkinaaaGreatDoor.Q
namespace Go.Proofs.YtfobhhegpkinaaaGreatDoor.Q
open Go Go.RowKit
set_option linter.unusedVariables false
set_option linter.unusedSimpArgs false
def Aak:Rp:=⟨λ_ _=>True,λ_ _=>trivial,false,λh=>by cases h⟩
def II (v:Value)(i:Nat):Value:=match v with
 | .slice A _ cap=>.slice A i cap
 | v=>v
section
variable {P : Program} {n : Nat} {c : Cx} {ops : Array Oper} {Q : Exit → Act → World → Prop} {K : Act → World → Prop} {rest : List Oper} {l : Fr} {H : List Ent} {d : Nat} {d' : Option Nat} {x y z3 z4 : Operand} {ty t e : TypeId} {pos : String} {af : Array Edge} {g : Option (Nat × Bool)} {v : Value} {sz : Nat}
theorem Ps:∀(zs:List (List Rp)) (k:Nat),(∀c∈zs,c.length=sz)→(zs.take k).flatten=zs.flatten.take (k*sz):=by
 intro zs
 induction zs with
 | nil=>intro k _;simp
 | cons z zs ih=>
  intro k hk
  cases k with
  | zero=>simp
  | succ k=>
   have hzl:=hk z (by simp);simp only[List.take_succ_cons,List.flatten_cons];rw[ih k (λc hc=>hk c (by simp[hc]))];have e1:(k+1)*sz=z.length+k*sz:=by rw[hzl,Nat.succ_mul];omega
   rw[e1,List.take_length_add_append]
theorem PS:∀(zs:List (List Rp)) (k:Nat),(∀c∈zs,c.length=sz)→(zs.drop k).flatten=zs.flatten.drop (k*sz):=by
 intro zs
 induction zs with
 | nil=>intro k _;simp
 | cons z zs ih=>
  intro k hk
  cases k with
  | zero=>simp
  | succ k=>
   have hzl:=hk z (by simp);simp only[List.drop_succ_cons,List.flatten_cons];rw[ih k (λc hc=>hk c (by simp[hc]))];have e1:(k+1)*sz=z.length+k*sz:=by rw[hzl,Nat.succ_mul];omega
   rw[e1,List.drop_length_add_append]
theorem Q0 {α:Type}{ys:List α}{enc:α→List Rp}{i:Nat}{k1 k2 k3:IntKind}{a0 b0 m0:Int}(ht:P.underlying t=some (.slice e))(hz:∀w,(sizeOf e).run P w = .ok sz w)(hx:ev l x=some (rv v))(h1:ev l y=some (rI k1 a0))(h2:ev l z3=some (rI k2 b0))(h3:ev l z4=some (rI k3 m0))(hi:H[i]? =some (.row v e sz (ys.map enc)))(g1:E5 a0 b0=true)(g2:E5 b0 m0=true)(g3:E5 m0 (ys.length:Int)=true) :
  B0 P n c l H { dst:=d',op:=.slice t x (some y) (some z3) (some z4),type:=ty,pos:=pos,after:=af,guard:=g } Aak:=λa w Z ha hw=>by
 obtain⟨_,us,⟨_,q2⟩,_⟩:=hw.ent hi;have a1:=(BZ g1).1;have a2:=(BZ g1).2;have a3:=(BZ g2).2;have a4:=(BZ g3).2;have b1:0≤b0:=by omega
 have b2:0≤m0:=by omega
 rcases q2 with⟨rfl,hz0⟩ | ⟨b,cap,cur,rfl,_,hb,hcap,hm,hcs,htk⟩
 ·simp only[Ab3] at hz0;have c1:m0≤(0:Nat):=by omega
  have c2:b0≤(m0.toNat:Nat):=by omega
  have c3:a0≤(b0.toNat:Nat):=by omega
  have z1:m0=0:=by omega
  have z2:b0=0:=by omega
  have z3':a0=0:=by omega
  subst z1 z2 z3';exact⟨.slice none 0 0,trivial,by simp[execOp,ha.eval hx,ha.eval h1,ha.eval h2,ha.eval h3,Instr.sliceAt,Instr.slice,run_underlying ht,Instr.sliceBounds,Bl (m:=0) _ _ (AbG 0) (AbG 0),hz]⟩
 ·simp only[Ab3] at hcap;have c1:m0≤(cap:Nat):=by omega
  have c2:b0≤(m0.toNat:Nat):=by omega
  have c3:a0≤(b0.toNat:Nat):=by omega
  refine⟨.slice (if m0.toNat=a0.toNat then some ⟨b,0,none⟩ else(some (⟨b,0,none⟩:Addr)).map (·.add (a0.toNat*sz))) (b0.toNat-a0.toNat) (m0.toNat-a0.toNat),trivial,?_⟩;simp[execOp,ha.eval hx,ha.eval h1,ha.eval h2,ha.eval h3,Instr.sliceAt,Instr.slice,run_underlying ht,Instr.sliceBounds,Bl (m:=cap) _ _ b2 c1,Bl (m:=m0.toNat) _ _ b1 c2,Bl (m:=b0.toNat) _ _ a1 c3,hz]
theorem Z4 {α:Type}{ys:List α}{enc:α→List Rp}{i:Nat}{k:IntKind}{j:Int}(ht:P.underlying t=some (.slice e))(hz:∀w,(sizeOf e).run P w = .ok sz w)(hx:ev l x=some (rv v))(hy:ev l y=some (rI k j))(hi:H[i]? =some (.row v e sz (ys.map enc)))(hg:E5 j (ys.length:Int)=true) :
  B0 P n c l H { dst:=d',op:=.slice t x none (some y) none,type:=ty,pos:=pos,after:=af,guard:=g } (rv (II v j.toNat)):=λa w Z ha hw=>CW<|by
 obtain⟨_,us,⟨_,q2⟩,_⟩:=hw.ent hi;have g0:=(BZ hg).1;have g1:=(BZ hg).2;rcases q2 with⟨rfl,hz0⟩ | ⟨b,cap,cur,rfl,_,hb,hcap,hm,hcs,htk⟩
 ·simp at hz0;subst hz0;obtain rfl:j=0:=by simp at g1;omega
  simp[execOp,ha.eval hx,ha.eval hy,Instr.sliceAt,Instr.slice,run_underlying ht,Instr.sliceBounds,Bl (m:=0) _ _ (AbG 0) (AbG 0),hz,II]
 ·simp only[Ab3] at hcap;have hjc:j≤(cap:Int):=by omega
  simp[execOp,ha.eval hx,ha.eval hy,Instr.sliceAt,Instr.slice,run_underlying ht,Instr.sliceBounds,Bl (m:=cap) _ _ g0 hjc,hz,II];intro _;rfl
theorem WG {α:Type}{ys:List α}{enc:α→List Rp}{i k:Nat}(ht:P.underlying t=some (.slice e))(h:ev l x=some (rv (II v k)))(hk:k≤ys.length){e':TypeId}(hi:H[i]? =some (.row v e' sz (ys.map enc))):B0 P n c l H { dst:=d',op:=.call { callee:=.builtin .len,args:=#[x],argTypes:=#[t] },type:=ty,pos:=pos,after:=af,guard:=g } (rI .i64 k):=λa w Z ha hw=>CW<|by
 obtain⟨_,us,⟨_,h2⟩,_⟩:=hw.ent hi;rcases h2 with⟨rfl,hz⟩ | ⟨b,cap,cur,rfl,_⟩
 ·simp at hz;subst hz;obtain rfl:k=0:=by simpa using hk
  simp[execOp,resolve,invoke,builtin,ha.eval h,Builtin.len_,run_underlying ht,goInt,II]
 ·simp[execOp,resolve,invoke,builtin,ha.eval h,Builtin.len_,run_underlying ht,goInt,II]
theorem WI {α:Type}{ys:List α}{enc:α→List Rp}{i k:Nat}{k1 k2:IntKind}{a0 b0:Int}(ht:P.underlying t=some (.slice e))(hz:∀w,(sizeOf e).run P w = .ok sz w)(h:ev l x=some (rv (II v k)))(h1:ev l y=some (rI k1 a0))(h2:ev l z3=some (rI k2 b0))(hi:H[i]? =some (.row v e sz (ys.map enc)))(hb0:b0=(ys.length:Int))(hg:E5 a0 b0=true) :
  B0 P n c l H { dst:=d',op:=.slice t x (some y) (some z3) none,type:=ty,pos:=pos,after:=af,guard:=g } (rv (Im sz v a0.toNat)):=λa w Z ha hw=>CW<|by
 obtain⟨_,us,⟨_,q2⟩,_⟩:=hw.ent hi;have g0:=(BZ hg).1;have g1:=(BZ hg).2;have gb:0≤b0:=by omega
 rcases q2 with⟨rfl,hz0⟩ | ⟨b,cap,cur,rfl,_,hb,hcap,hm,hcs,htk⟩
 ·simp at hz0;subst hz0;simp at hb0;subst hb0;obtain rfl:a0=0:=by omega
  simp[execOp,ha.eval h,ha.eval h1,ha.eval h2,Instr.sliceAt,Instr.slice,run_underlying ht,Instr.sliceBounds,Bl (m:=0) _ _ (AbG 0) (AbG 0),hz,II,Im]
 ·simp only[Ab3] at hcap;have c1:b0≤(cap:Nat):=by omega
  have c2:a0≤(b0.toNat:Nat):=by omega
  have hbn:b0.toNat=ys.length:=by omega
  simp[execOp,ha.eval h,ha.eval h1,ha.eval h2,Instr.sliceAt,Instr.slice,run_underlying ht,Instr.sliceBounds,Bl (m:=cap) _ _ gb c1,Bl (m:=b0.toNat) _ _ g0 c2,Bl (m:=ys.length) _ _ g0 (show a0≤((ys.length:Nat):Int) by omega),hz,II,Im,hbn]
theorem St.cut {Z:Fz}{w:World}{α:Type}{ys:List α}{enc:α→List Rp}{i k:Nat}(hw:St c H Z w)(hi:H[i]? =some (.row v e sz (ys.map enc)))(hk:k≤ys.length):St c (H.set i (.row (II v k) e sz ((ys.take k).map enc))) Z w:=by
 obtain⟨h0,us,⟨h1,h2⟩,h3⟩:=hw.ent hi;rcases h2 with⟨rfl,hz0⟩ | ⟨b,cap,cur,rfl,_,hb,hcap,hm,hcs,htk⟩
 ·simp at hz0;subst hz0;obtain rfl:k=0:=by simpa using hk
  exact hw.set hi rfl rfl rfl (AbI _) (λ_ _ _=>rfl) ⟨by simp,[],⟨by simp,.inl ⟨rfl,by simp⟩⟩,trivial⟩ (by simp[Ent.foot,Value.ownBlock,II])
 ·simp only[Ab3] at h1 hcap htk;refine hw.set hi rfl rfl rfl (AbI _) (λ_ _ _=>rfl) ⟨λcl hcl=>?_,us.take (k*sz),⟨?_,.inr ⟨b,cap,cur,?_,AbW _,hb,?_,hm,hcs,?_⟩⟩,?_⟩ (by simp[Ent.foot,Value.ownBlock,II])
  ·rw[List.map_take] at hcl;exact h0 cl (List.mem_of_mem_take hcl)
  ·rw[AbY,h1,Ab3,AbY,Nat.min_eq_left hk];exact Nat.min_eq_left (Nat.mul_le_mul_right _ hk)
  ·simp[Nat.min_eq_left hk,II]
  ·simp;omega
  ·rw[Ab3,AbY,Nat.min_eq_left hk,← htk,List.take_take,Nat.min_eq_left (Nat.mul_le_mul_right _ hk)]
  ·rw[List.map_take,Ps _ _ h0];exact h3.take _
theorem WK.cut {α:Type}{ys:List α}{enc:α→List Rp}(i k:Nat)(hi:H[i]? =some (.row v e sz (ys.map enc)))(hk:k≤ys.length)(h:WK n c K l (H.set i (.row (II v k) e sz ((ys.take k).map enc)))):WK n c K l H:=λa w Z ha hw=>h a w Z ha (hw.cut hi hk)
theorem XW {α:Type}{ys:List α}{enc:α→List Rp}{i:Nat}{a0 b0:Int}{inf:TypeInfo}(ht:P.underlying t=some (.slice e))(hinf:P.info? e=some inf)(hsize:inf.size=sz)(hsz:Nat.blt 0 sz=true)
  (hx:ev l x=some (rv (II v a0.toNat))) (hy:ev l y=some (rv (Im sz v b0.toNat))) (hi:H[i]? =some (.row v e sz (ys.map enc))) (henc:∀z,(enc z).length=sz) (hone:∀z,(enc z).all (·.one)=true) (g1:E5 a0 b0=true) (g2:E5 b0 (ys.length:Int)=true) (hn:Nat.blt d n=true)
  (h:WL P n c ops Q rest ((d,rv (II v (a0.toNat+(ys.length-b0.toNat))))::l) (H.set i (.row v e sz ((ys.take a0.toNat++ys.drop b0.toNat++ys.drop (a0.toNat+(ys.length-b0.toNat))).map enc)))) :
  WL P n c ops Q ({ dst:=some d,op:=.call { callee:=.builtin .append,args:=#[x,y],argTypes:=#[t,t] },type:=ty,pos:=pos,after:=af,guard:=none }::rest) l H:=
 J3 (λa w Z ha hw=>by
  obtain⟨h0,us,⟨h1,h2⟩,h3⟩:=hw.ent hi;have p1:=(BZ g1).1;have p2:=(BZ g1).2;have p3:=(BZ g2).2;have hsz':0<sz:=by simpa using hsz
  rcases h2 with⟨rfl,hz0⟩ | ⟨b,cap,cur,rfl,_,hb,hcap,hm,hcs,htk⟩
  ·simp at hz0;subst hz0;obtain rfl:b0=0:=by simp at p3;omega
   obtain rfl:a0=0:=by omega
   have e1:=run_append_owned_none (P:=P) (w:=w) (base:=0) t ty e inf sz ht hinf (.slice none 0 0) 0 [] (World.ownsRow_nil w _ e sz);refine⟨.slice none 0 0,w,_,_,Z,?_,Fz.le.refl _,rfl,?_,h⟩
   ·simp[execOp,resolve,invoke,builtin,ha.eval hx,ha.eval hy,II,Im,e1]
   ·have:H.set i (.row (.slice none 0 0) e sz ((([]:List α).take (0:Int).toNat++([]:List α).drop (0:Int).toNat++([]:List α).drop ((0:Int).toNat+(([]:List α).length-(0:Int).toNat))).map enc))=H:=by
     obtain⟨hl,he⟩:=List.getElem?_eq_some_iff.1 hi;simp only[List.take_nil,List.drop_nil,AbZ];rw[← he,List.set_getElem_self]
    rw[this];exact hw
  ·simp only[Ab3] at h1 hcap htk;have q1:a0.toNat≤b0.toNat:=by omega
   have q2:b0.toNat≤ys.length:=by omega
   generalize a0.toNat=A at *;generalize b0.toNat=B at *;have hAl:A*sz≤ys.length*sz:=Nat.mul_le_mul_right _ (by omega);have hBl:B*sz≤ys.length*sz:=Nat.mul_le_mul_right _ q2;have hlc:ys.length*sz≤cap*sz:=Nat.mul_le_mul_right _ hcap;have hnl:(us.drop (B*sz)).length=(ys.length-B)*sz:=by rw[AbS,h1,Nat.sub_mul]
   have hsum:A*sz+(ys.length-B)*sz≤ys.length*sz:=by rw[← Nat.add_mul];exact Nat.mul_le_mul_right _ (by omega)
   have hN:(A+(ys.length-B))*sz=A*sz+(ys.length-B)*sz:=Nat.add_mul _ _ _;have hus1:∀u∈us,u.oneCell'=true:=Bo.one (rs:=(ys.map enc).flatten) (by
    rw[AbV];intro r hr;obtain⟨cl,hcl,hrc⟩:=List.mem_flatten.1 hr;obtain⟨z',_,rfl⟩:=List.mem_map.1 hcl;exact List.all_eq_true.1 (hone z') r hrc) h3
   have hcell:∀j u,us[j]? =some u→w.cell? ((⟨b,0,none⟩:Addr).add j)=some u:=World.ownsRow.cells (g:=b) (w:=w) (base:=0) (e:=e) (size:=sz) (v:=.slice (some ⟨b,0,none⟩) ys.length cap) (n:=ys.length) (xs:=us) ⟨h1,.inr ⟨b,cap,cur,rfl,AbW _,hb,hcap,hm,hcs,htk⟩⟩ rfl;obtain⟨T,hT,hTc⟩:∃T:Addr,Im sz (.slice (some ⟨b,0,none⟩) ys.length cap) B = .slice (some T) (ys.length-B) (cap-B)∧∀j u,(us.drop (B*sz))[j]? =some u→w.cell? (T.add j)=some u:=by
    by_cases hcB:cap=B
    ·refine⟨⟨b,0,none⟩,by simp[Im,hcB],λj u hu=>?_⟩;have:(us.drop (B*sz)).length=0:=by rw[hnl,show ys.length-B=0 by omega];simp
     rw[List.length_eq_zero_iff.1 this] at hu;simp at hu
    ·refine⟨⟨b,B*sz,none⟩,by simp[Im,hcB,HA],λj u hu=>?_⟩;rw[List.getElem?_drop] at hu;have:=hcell _ _ hu;rw[HA] at this ⊢;simpa using this
   have e1:=run_append_room (P:=P) (w:=w) t ty e inf ht hinf b A cap cur hb T (ys.length-B) (cap-B) (us.drop (B*sz)) (by rw[hsize];exact hnl) hTc (λu hu=>hus1 u (List.mem_of_mem_drop hu)) (by omega) (by rw[hsize,hnl,hcs];omega);rw[hsize,hnl] at e1;have hcu:cur.toList.take (A*sz)=us.take (A*sz):=by rw[← htk,List.take_take,Nat.min_eq_left hAl]
   have hcd:(cur.toList.drop (A*sz+(ys.length-B)*sz)).take (ys.length*sz-(A*sz+(ys.length-B)*sz))=us.drop (A*sz+(ys.length-B)*sz):=by rw[← htk,List.drop_take]
   have hcl2:cur.toList.length=cap*sz:=by rw[Array.length_toList,hcs]
   have hl1:(us.take (A*sz)).length=A*sz:=by rw[AbY,h1];exact Nat.min_eq_left hAl
   refine⟨.slice (some ⟨b,0,none⟩) (A+(ys.length-B)) cap,w.setRow b (cur.toList.take (A*sz)++us.drop (B*sz)++cur.toList.drop (A*sz+(ys.length-B)*sz)).toArray,_,_,Z,?_,Fz.le.refl _,rfl,?_,h⟩
   ·have ex:a.eval x = .slice (some ⟨b,0,none⟩) A cap:=by rw[ha.eval hx];rfl
    have ey:a.eval y = .slice (some T) (ys.length-B) (cap-B):=by rw[ha.eval hy,Ab3];exact hT
    simp[execOp,resolve,invoke,builtin,ex,ey,e1]
   ·refine hw.set hi rfl rfl rfl (by simp[World.setRow]) (λk _ hk=>?_) ⟨?_,us.take (A*sz)++us.drop (B*sz)++us.drop (A*sz+(ys.length-B)*sz),⟨?_,.inr ⟨b,cap,_,?_,AbW _,setRow_heap w b cur _ e (0,0) hb,?_,hm,?_,?_⟩⟩,?_⟩ (by simp[Ent.foot,Value.ownBlock])
    ·simp only[Ent.foot,Value.ownBlock,Option.mem_toList,Option.mem_def,Option.some.injEq] at hk;simp only[World.setRow,Array.getElem?_modify];rw[Aca hk]
    ·intro cl hcl;obtain⟨z',_,rfl⟩:=List.mem_map.1 hcl;exact henc z'
    ·rw[Abr,Abr,hl1,hnl,AbS,h1,Ab3,Abr,Abr,AbY,AbS,AbS,Nat.min_eq_left (by omega),Nat.add_mul,Nat.add_mul,Nat.sub_mul ys.length (A+_),hN]
    ·congr 1
     simp;omega
    ·simp;omega
    ·rw[List.size_toArray,Abr,Abr,hcu,hl1,hnl,AbS,hcl2];omega
    ·rw[hcu];have e5:((ys.take A++ys.drop B++ys.drop (A+(ys.length-B))).map enc).length*sz=(us.take (A*sz)++us.drop (B*sz)).length+(ys.length*sz-(A*sz+(ys.length-B)*sz)):=by
      rw[Abr,hl1,hnl,Ab3,Abr,Abr,AbY,AbS,AbS,Nat.min_eq_left (by omega),Nat.add_mul,Nat.add_mul,Nat.sub_mul ys.length (A+_),hN]
     rw[e5,List.take_length_add_append,hcd]
    ·rw[Ack,Ack,List.flatten_append,List.flatten_append,List.map_take,List.map_drop,List.map_drop,Ps _ _ h0,PS _ _ h0,PS _ _ h0,hN];exact((h3.take _).append (h3.drop _)).append (h3.drop _)) hn
theorem Pu {α:Type}{ys:List α}{a0 b0:Int}(g1:E5 a0 b0=true)(g2:E5 b0 (ys.length:Int)=true):a0.toNat+(ys.length-b0.toNat)≤ys.length:=by
 have p1:=(BZ g1).1;have p2:=(BZ g1).2;have p3:=(BZ g2).2;omega
theorem Mm {α:Type}{ys:List α}{a0 b0:Int}(g1:E5 a0 b0=true)(g2:E5 b0 (ys.length:Int)=true):(ys.take a0.toNat++ys.drop b0.toNat++ys.drop (a0.toNat+(ys.length-b0.toNat))).length=ys.length:=by
 have h:=Pu g1 g2;have p1:=(BZ g1).1;have p2:=(BZ g1).2;have p3:=(BZ g2).2;rw[Abr,Abr,AbY,AbS,AbS];omega
theorem Rv {α:Type}{ys:List α}{a0 b0:Int}(g1:E5 a0 b0=true)(g2:E5 b0 (ys.length:Int)=true):a0.toNat+(ys.length-b0.toNat)≤(ys.take a0.toNat++ys.drop b0.toNat++ys.drop (a0.toNat+(ys.length-b0.toNat))).length:=by
 rw[Mm g1 g2];exact Pu g1 g2
theorem Yd {α:Type}{ys:List α}{a0 b0:Int}(g1:E5 a0 b0=true)(g2:E5 b0 (ys.length:Int)=true):(ys.length:Int)=((ys.take a0.toNat++ys.drop b0.toNat++ys.drop (a0.toNat+(ys.length-b0.toNat))).length:Int):=by
 rw[Mm g1 g2]
theorem Ye {α:Type}{ys:List α}{a0 b0 j:Int}(g1:E5 a0 b0=true)(g2:E5 b0 (ys.length:Int)=true)(g:E5 j (ys.length:Int)=true):E5 j ((ys.take a0.toNat++ys.drop b0.toNat++ys.drop (a0.toNat+(ys.length-b0.toNat))).length:Int)=true:=by
 rw[Mm g1 g2];exact g
theorem ZP {α:Type}{E:List α}{k m:Nat}{z:α}(h:k≤E.length):k≤(E.take m++List.replicate (E.length-m) z).length:=by
 rw[Abr,AbY,List.length_replicate];omega
end
theorem Oc {P:Program}(w:World)(ty:TypeId)(it:Nat)(h:w.heap[it]? =some (.mapIter none 0 #[] 0)):(Instr.next (.pointer (some ⟨it,0,none⟩)) false ty).run P w = .ok (.tuple #[.bool false]) w:=by
 simp only[Instr.next,getObj,Sem.run_bind,Sem.run,h,Result.andThen];rfl
section
variable {P : Program} {n : Nat} {c : Cx} {ops : Array Oper} {Q : Exit → Act → World → Prop} {rest : List Oper} {l : Fr} {H : List Ent} {d : Nat} {ty t kt et rty : TypeId} {pos : String} {af : Array Edge} {x y u : Operand} {K : Act → World → Prop} {cx : Code}
variable {T : Type} {enc : T → Rp} {xs ys : List (Al × T)} {i b it : Nat} {m lf : List (List UInt8 × Rp)} {cur : Option (List UInt8 × Rp)} {k : Al} {r : Rp}
theorem NK (ht:P.underlying t=some (.map kt et))(hx:ev l x=some (Mg m))(hn:Nat.blt d n=true)(h:∀it,WL P n c ops Q rest ((d,rv (.pointer (some ⟨it,0,none⟩)))::l) (.itz it m m none::H)) :
  WL P n c ops Q ({ dst:=some d,op:=.range t x,type:=ty,pos:=pos,after:=af,guard:=none }::rest) l H:=
 J3 (λa w Z ha hw=>by
  rcases ha.ev hx with⟨e1,e2⟩ | ⟨b,es,ck,e1,e2,h2⟩
  ·refine⟨.pointer (some ⟨w.heap.size,0,none⟩),w.alloc (.mapIter none 0 #[] 0),_,_,Z,?_,Fz.le.refl _,rfl,hw.alloc _ (e:=.itz w.heap.size m m none) (.inl ⟨by simpa using heap_alloc_new w _,e2,e2,rfl⟩) (by simp[Ent.foot]),h w.heap.size⟩;simp[execOp,e1,run_range_nilMap w t kt et ht]
  ·have h1:w.heap[b]? =some (.map es ck):=hw.frz b _ e2;have hb:b<w.heap.size:=(Array.getElem?_eq_some_iff.1 h1).1;have hf:es.toList.filter (λe=>!(#[]:Array Nat).contains e.born)=es.toList:=List.filter_eq_self.2 λ_ _=>by simp
   obtain⟨f,h4,h5⟩:=h2.2.2.2;refine⟨.pointer (some ⟨w.heap.size,0,none⟩),w.alloc (.mapIter (some b) ck #[] ck),_,_,Z,?_,Fz.le.refl _,rfl,hw.alloc _ (e:=.itz w.heap.size m m none) (.inr ⟨b,es,ck,#[],ck,ck,e2,by simpa using heap_alloc_new w _,h2,h2.2.2.1,AbI _,AbI _,⟨f,h4,by rw[hf];exact h5⟩,trivial⟩) (by simp[Ent.foot]),h w.heap.size⟩;simp[execOp,e1,run_range_map w t kt et b es ck ht h1]) hn
theorem Qb (hx:ev l x=some (rv (.pointer (some ⟨it,0,none⟩))))(hi:H[i]? =some (.itz it m (AF enc ys) cur))(hn:Nat.blt d n=true)
  (h0:ys=[]→WL P n c ops Q rest ((d,C7 [rB false])::l) H)
  (h1:∀p ys',ys.Perm (p::ys')→WL P n c ops Q rest ((d,C7 [rB true,rS p.1,enc p.2])::l) (H.set i (.itz it m (AF enc ys') (some (p.1,enc p.2))))) :
  WL P n c ops Q ({ dst:=some d,op:=.next x false,type:=ty,pos:=pos,after:=af,guard:=none }::rest) l H:=
 J3 (λa w Z ha hw=>by
  rcases hw.ent hi with⟨q2,_,q8,_⟩ | ⟨b,es,ck,seen,since,c0,qz,q2,q3,q4,q5,q6,⟨f,q8,q9⟩,_⟩
  ·have hy:ys=[]:=by
    have:=congrArg List.length q8;rw[GC] at this;exact AbF this
   exact⟨.tuple #[.bool false],w,C7 [rB false],H,Z,by simp[execOp,ha.eval hx,Oc w ty it q2],Fz.le.refl _,⟨[.bool false],rfl,rfl,trivial⟩,hw,h0 hy⟩
  have q1:w.heap[b]? =some (.map es ck):=hw.frz b _ qz;have q7:b≠it:=λe=>by subst e;rw[q1] at q2;cases q2
  have hlf:(leftOf es seen).toList=es.toList.filter λe=>!seen.contains e.born:=by simp[leftOf]
  rcases run_next_at (P:=P) w ty it b since c0 seen es ck q2 q1 q4 q5 with⟨r1,r2⟩ | ⟨e,r1,w1,r2,r3⟩
  ·have he:es.toList.filter (λe=>!seen.contains e.born)=[]:=by rw[← hlf];exact AbF (by simpa using r1)
   rw[he] at q9;have hf:f=[]:=by cases f with
    | nil=>rfl
    | cons _ _=>exact absurd q9 id
   subst hf;have hy:ys=[]:=by
    have:=q8.length_eq;rw[GC] at this;exact AbF this.symm
   exact⟨.tuple #[.bool false],w,C7 [rB false],H,Z,by simp[execOp,ha.eval hx,r2],Fz.le.refl _,⟨[.bool false],rfl,rfl,trivial⟩,hw,h0 hy⟩
  ·rw[hlf] at r1;obtain⟨j,hj⟩:=List.mem_iff_getElem?.1 r1;obtain⟨k,r,e1,e2,e3⟩:=q9.at.2 j e hj;obtain⟨p,ys',s1,s2,s3,s4⟩:=W3 q8 e1;have hnl:((es.toList.filter λe=>!seen.contains e.born).map (·.born)).Nodup:=q3.2.1.sublist ((List.filter_sublist ..).map _);have hleft:es.toList.filter (λx=>!(seen.push e.born).contains x.born)=(es.toList.filter λe=>!seen.contains e.born).eraseIdx j:=by
    rw[← LZ (q:=λ_=>true) hnl hj,List.filter_filter];refine List.filter_congr λx _=>?_;simp only[Array.contains_push,Bool.not_or];rw[Bool.and_comm]
   have hd:St c H Z w1:=by
    rcases r2 with rfl | rfl
    ·exact hw
    ·exact hw.drawn _
   have q2':w1.heap[it]? =some (.mapIter (some b) since seen c0):=by rcases r2 with rfl | rfl<;>exact q2
   have q1':w1.heap[b]? =some (.map es ck):=by rcases r2 with rfl | rfl<;>exact q1
   obtain⟨t1,t2⟩:=MapKept.heap_set (o':=.mapIter (some b) since (seen.push e.born) ck) q2';refine⟨.tuple #[.bool true,e.key,e.val],ChangeMaps.setBlock w1 it (.mapIter (some b) since (seen.push e.born) ck),C7 [rB true,rS p.1,enc p.2],H.set i (.itz it m (AF enc ys') (some (p.1,enc p.2))),Z,by simp[execOp,ha.eval hx,r3],Fz.le.refl _,⟨[.bool true,e.key,e.val],rfl,rfl,?_,?_,trivial⟩,hd.set hi rfl rfl rfl (by simp[ChangeMaps.setBlock]) (λk' _ hk'=>t2 k' (λe'=>hk' (by simp[Ent.foot,e']))) ?_ (λk' hk'=>.inl (by simpa[Ent.foot] using hk')),h1 p ys' s1⟩
   ·show e.key = .string (B p.1);rw[s2];exact e2
   ·rw[s3];exact e3
   ·exact .inr ⟨b,es,ck,seen.push e.born,since,ck,qz,t1,q3,q4,Nat.le_trans q5 q6,AbI _,⟨f.eraseIdx j,s4,by rw[hleft];exact q9.erase j⟩,rfl,seen,e,rfl,(List.mem_filter.1 r1).1,by rw[s2];exact e2,by rw[s3];exact e3⟩) hn
theorem St.uncurz {Z:Fz}{w:World}(h:St c H Z w)(hi:H[i]? =some (.itz it m lf cur)):St c (H.set i (.itz it m lf none)) Z w:=by
 refine h.set hi rfl rfl rfl (AbI _) (λ_ _ _=>rfl) ?_ (λk hk=>.inl (by simpa[Ent.foot] using hk));rcases h.ent hi with⟨q1,q2,q3,_⟩ | ⟨b,es,ck,seen,since,c0,q1,q2,q3,q4,q5,q6,q8,_⟩
 ·exact .inl ⟨q1,q2,q3,rfl⟩
 ·exact .inr ⟨b,es,ck,seen,since,c0,q1,q2,q3,q4,q5,q6,q8,trivial⟩
theorem WK.uncurz (hi:H[i]? =some (.itz it m lf cur))(h:WK n c K l (H.set i (.itz it m lf none))):WK n c K l H:=λa w Z ha hw=>h a w Z ha (hw.uncurz hi)
theorem Ou {dd:Option Nat}{g:Option (Nat×Bool)}(hx:ev l x=some (rv (.pointer (some ⟨it,0,none⟩))))(hi:H[i]? =some (.itz it m lf (some (k,r)))) :
  B0 P n c l H { dst:=dd,op:=.entry x,type:=ty,pos:=pos,after:=af,guard:=g } (C7 [rS k,r]):=λa w Z ha hw=>by
 rcases hw.ent hi with⟨_,_,_,q⟩ | ⟨b,es,ck,seen,since,c0,qz,q2,q3,q4,q5,q6,q8,rfl,s0,e,rfl,h1,h2,h3⟩
 ·cases q
 have q1:w.heap[b]? =some (.map es _):=hw.frz b _ qz;exact⟨.tuple #[e.key,e.val],⟨[e.key,e.val],rfl,h2,h3,trivial⟩,by simp[execOp,ha.eval hx,run_entry_at w it b since s0 es c0 e q2 q1 h1 q3.2.1]⟩
end
end Go.Proofs.YtfobhhegpkinaaaGreatDoor.Q
namespace Go.Proofs.YtfobhhegpkinaaaGreatDoor
open Go Go.RowKit
set_option linter.unusedVariables false
set_option linter.unusedSimpArgs false
set_option maxRecDepth 100000
theorem Wl (v:Value)(ss:List (List UInt8))(hl:ss.length≤8796093022208)(w:World)(hv:OQ w v ss):Calls Tryz.prog 45 [v].toArray w (VJ w [] (λu H=>H=[.row u 9 1 (BH ss).length ((BH ss).map encStr)])):=by
 refine DY (n:=10) Tryz.func45 rfl Tryz.ntmps45 rfl (An (Ai (Ax (Az rfl) rfl (Am (Aw (AQ ?_))))));refine An (Ai (Ax (Aq rfl) rfl (T6 Tryz.call43 rfl (λw hw=>YN v ss (by first | assumption | (simp;assumption)) w (hv.st0 hw)) rfl ?_)));rintro ha _ rfl;refine Ax (Az rfl) rfl (Am (Aw (AQ ?_)));refine An (Ai (Ax (Aq rfl) rfl (T7 (i:=0) Tryz.call77 rfl rfl (λw hw he=>Zs ha ss (by first | assumption | (simp;assumption)) w he) rfl ?_)));rintro _ _ ⟨rfl,rfl⟩;refine Am (Aw (AQ ?_));refine An (Ai (Ax (Aq rfl) rfl (T7 (i:=0) Tryz.call78 rfl rfl (λw hw he=>V5 ha (ss.mergeSort λx y=>decide (x≤y)) (by first | assumption | (simp;assumption)) w he) rfl ?_)));rintro hb _ rfl;refine Ax (Az rfl) rfl (Am (Aw (AQ ?_)));exact A1 (A0 (BJ rfl rfl) (λw hw=>⟨_,_,rfl,hw,rfl⟩))
end Go.Proofs.YtfobhhegpkinaaaGreatDoor
namespace Go.Proofs.YtfobhhegpkinaaaGreatDoor.Q
open Go Go.RowKit Go.Proofs
set_option linter.unusedVariables false
theorem Yh {Z:Fz}{v:Value}{vs:List Value}(h:Bo Z [rv v] vs):vs=[v]:=Bo.eq_rv (us:=[v]) h
theorem TB {Z:Fz}:∀{ss:List Al} {us:List Value},Bo Z (ss.map eS).flatten us→us=ss.map encStr
 | [],[],_=>rfl
 | s::r,u::us,⟨h1,h2⟩=>by
  rw[show u=Value.string (B s) from h1,TB (ss:=r) (us:=us) h2];rfl
theorem TE {Z:Fz}:∀ss:List Al,Bo Z (ss.map eS).flatten (ss.map encStr)
 | []=>trivial
 | s::r=>⟨rfl,TE r⟩
theorem Yj {Z:Fz}{w:World}{v:Value}{e:TypeId}{ss:List Al}(h:(Ent.row v e 1 (ss.map eS)).holds Z w):(Proofs.YtfobhhegpkinaaaGreatDoor.Ent.row v e 1 ss.length (ss.map encStr)).holds w:=by
 obtain⟨_,us,h1,h2⟩:=h;rw[TB h2,Ab3] at h1;exact h1
theorem Yk {Z:Fz}{w:World}{v:Value}{e:TypeId}{ss:List Al}(h:(Proofs.YtfobhhegpkinaaaGreatDoor.Ent.row v e 1 ss.length (ss.map encStr)).holds w):(Ent.row v e 1 (ss.map eS)).holds Z w:=
 ⟨λc hc=>by obtain⟨y,_,rfl⟩:=List.mem_map.1 hc;rfl,ss.map encStr,by rw[Ab3];exact h,TE ss⟩
theorem Vs (v:Value)(ss:List Al)(g:CX 16 ss.length=true):Fn Tryz.prog GE 45 [rv v] [.row v 9 1 (ss.map eS)] (λR H=>∃u:Value,R=rv u∧H=[.row u 9 1 ((BH ss).map eS),.row v 9 1 (ss.map eS)]):=λw Z vs hv hs=>by
 have e:=Yh hv;subst e;have hl:ss.length≤8796093022208:=by have:=AbK g;omega
 have hc:=Wl v ss hl w (OQ.of_row (Yj (hs.ent (i:=0) rfl)));refine hc.mono ?_;rintro e w' ⟨u,H,rfl,ht,rfl⟩;refine⟨_,u,_,Z,rfl,⟨u,rfl,rfl⟩,rfl,hs.add ht.os ht.tape ht.output ht.size (λk hk=>ht.old k hk (by simp)) (Yk (ht.has _ (List.mem_cons_self ..))) (λk hk=>?_)⟩;rcases ht.own _ (List.mem_cons_self ..) k hk with h | h
 ·exact h
 ·cases h
end Go.Proofs.YtfobhhegpkinaaaGreatDoor.Q
