/-
  Texts of the proof, put together: QM, QI, QW, QV, QJ, QX, QL, PI, QF, Q6, Q9, Qg, WHa, PHb, WHb, PHc, Qw, Qv, QK, WHc, PHd.
-/
import Derived.Test.YtmjlemhondjfhaaGreatDoorHN2
import Derived.MapKept
import Derived.Maps.RangeRun
import Derived.ScopeJumps
import Derived.Laws.CopyRow
import Derived.Laws.IdiomCopy
import Derived.Laws.OwnMore
import Derived.Laws.IdiomStrings
import Derived.Sort.KeysCollected
namespace Go.Proofs.YtmjlemhondjfhaaGreatDoor.Q
open Go Go.RowKit
set_option linter.unusedVariables false
set_option linter.unusedSimpArgs false
theorem Eq (s:ByteArray):MapKept.IsKey .string (.string s):=by simp[MapKept.IsKey]
theorem Ii.keys {Z:Fz}:∀{f:List (List UInt8×Rp)} {es:List MapEntry},Ii Z f es→∀x∈es,MapKept.IsKey .string x.key
 | [],[],_,x,hx=>by cases hx
 | p::f,e::es,⟨⟨h1,h2⟩,h3⟩,x,hx=>by
  rcases List.mem_cons.1 hx with rfl | hx
  ·rw[h1];exact Eq _
  ·exact Ii.keys h3 x hx
theorem Ii.at {Z:Fz}:∀{f:List (List UInt8×Rp)} {es:List MapEntry},Ii Z f es→f.length=es.length∧∀(j:Nat) (e:MapEntry),es[j]? =some e→∃k r,f[j]? =some (k,r)∧e.key = .string (B k)∧r.p Z e.val
 | [],[],_=>⟨rfl,λj e h=>by simp at h⟩
 | p::f,e::es,⟨⟨h1,h2⟩,h3⟩=>by
  obtain⟨hl,ha⟩:=Ii.at h3;refine⟨by simp[hl],λj e' hj=>?_⟩
  cases j with
  | zero=>simp at hj;subst hj;exact⟨p.1,p.2,rfl,h1,h2⟩
  | succ j=>simp at hj;simpa using ha j e' hj
theorem Ii.of {Z:Fz}:∀{f:List (List UInt8×Rp)} {es:List MapEntry},f.length=es.length→(∀(j:Nat) (e:MapEntry),es[j]? =some e→∃k r,f[j]? =some (k,r)∧e.key = .string (B k)∧r.p Z e.val)→Ii Z f es
 | [],[],_,_=>trivial
 | p::f,e::es,hl,h=>by
  obtain⟨k,r,h1,h2,h3⟩:=h 0 e rfl;simp at h1;subst h1;exact⟨⟨h2,h3⟩,Ii.of (by simpa using hl) λj e' hj=>by simpa using h (j+1) e' (by simpa using hj)⟩
 | [],_::_,hl,_=>by simp at hl
 | _::_,[],hl,_=>by simp at hl
theorem Ii.snoc {Z:Fz}{k:List UInt8}{r:Rp}{e:MapEntry}(h1:e.key = .string (B k))(h2:r.p Z e.val):∀{f:List (List UInt8×Rp)} {es:List MapEntry},Ii Z f es→Ii Z (f++[(k,r)]) (es++[e])
 | [],[],_=>⟨⟨h1,h2⟩,trivial⟩
 | p::f,e'::es,⟨h,h3⟩=>⟨h,Ii.snoc h1 h2 h3⟩
theorem Ii.filter {Z:Fz}(q:MapEntry→Bool):∀{f:List (List UInt8×Rp)} {es:List MapEntry},Ii Z f es→∃g,Ii Z g (es.filter q)∧g.Sublist f
 | [],[],_=>⟨[],trivial,List.Sublist.refl _⟩
 | p::f,e::es,⟨h,h3⟩=>by
  obtain⟨g,hg,hs⟩:=Ii.filter q h3
  cases hq:q e with
  | true=>exact⟨p::g,by rw[List.filter_cons_of_pos hq];exact⟨h,hg⟩,hs.cons_cons p⟩
  | false=>exact⟨g,by rw[List.filter_cons_of_neg (by simp[hq])];exact hg,hs.cons p⟩
theorem Nu {T:Type}:∀{m:List (Ai×T)} {k:Ai} {r:T},(m.map (·.1)).Nodup→(k,r)∈m→El m k=some r
 | p::m,k,r,hn,h=>by
  rw[VI,List.nodup_cons] at hn;rw[El];rcases List.mem_cons.1 h with h | h
  ·subst h;rw[VM rfl];rfl
  ·have hne : ¬ p.1=k:=λe=>hn.1 (by rw[e];exact List.mem_map.2 ⟨(k,r),h,rfl⟩);rw[VJ hne];exact Nu hn.2 h
theorem LK {T:Type}:∀{m:List (Ai×T)} {k:Ai},(∀p∈m,p.1≠k)→El m k=none
 | [],_,_=>rfl
 | p::m,k,h=>by
  rw[El,VJ (h p (by simp))];exact LK λq hq=>h q (by simp[hq])
theorem U4 {a b:List UInt8}(h:B a=B b):a=b:=by
 have:=congrArg ByteArray.toList h
 rwa [DF,DF] at this
theorem Nc {a b:List UInt8}(h:Value.string (B a) = .string (B b)):a=b:=U4 (by cases h;rfl)
theorem Pq {Z:Fz}{m:List (List UInt8×Rp)}{es:List MapEntry}{ck:Nat}(h:DH Z m es ck)(k:List UInt8) :
  (Instr.findNow .string (.string (B k)) es 0=some none∧El m k=none∧∀p∈m,p.1≠k)∨∃j e r,Instr.findNow .string (.string (B k)) es 0=some (some (j,e.val))∧es[j]? =some e∧e.key = .string (B k)∧El m k=some r∧r.p Z e.val:=by
 obtain⟨h1,h2,h3,f,h4,h5⟩:=h;obtain⟨hl,ha⟩:=h5.at;rcases MapKept.findNow_spec (Eq (B k)) es 0 h5.keys with⟨q1,q2⟩ | ⟨j,e,q1,q2,q3⟩
 ·have hne:∀p∈m,p.1≠k:=λp hp e=>by
   obtain⟨j,hj⟩:=List.mem_iff_getElem?.1 (h4.symm.subset hp);have hjl:j<es.length:=by rw[← hl];exact(List.getElem?_eq_some_iff.1 hj).1
   obtain⟨k',r',e1,e2,_⟩:=ha j es[j] (Vh hjl);rw[hj] at e1;cases e1;exact q2 es[j] (List.getElem_mem hjl) (by rw[e2,← e])
  exact .inl ⟨q1,LK hne,hne⟩
 ·obtain⟨k',r,e1,e2,e3⟩:=ha j e q2;rw[q3] at e2;obtain rfl:=Nc e2;exact .inr ⟨j,e,r,by simpa using q1,q2,q3,Nu h1 (h4.subset (Vn e1)),e3⟩
section
variable {P : Program} {n : Nat} {c : Cx} {ops : Array Oper} {Q : Exit → Act → World → Prop} {rest : List Oper} {l : Fr} {H : List Ent} {d : Nat} {d' : Option Nat} {ty t kt et rty : TypeId} {pos : String} {af : Array Edge} {g : Option (Nat × Bool)} {x y u : Operand} {K : Act → World → Prop} {cx : Code}
variable {T : Type} {enc : T → Rp} {xs : List (Ai × T)} {z : T} {k : Ai} {zv : Value} {i b : Nat}
theorem HJ {Z:Fz}{w:World}{m:List (List UInt8×Rp)}{rz:Rp}(ht:P.underlying t=some (.map kt et))(hk:P.underlying kt=some .string)(hz:∀w,(zeroValue et).run P w = .ok zv w)(hzr:rz.p Z zv)(hm:(Ent.map b m).holds Z w)(ok:Bool) :
  ∃v,((El m k).getD rz).p Z v∧(Instr.lookup t (.map (some b)) (.string (B k)) ok).run P w = .ok (if ok then .tuple #[v,.bool (El m k).isSome] else v) w:=by
 obtain⟨es,ck,h1,h2⟩:=hm;rcases Pq h2 k with⟨q1,q2,_⟩ | ⟨j,e,r,q1,_,_,q2,q3⟩
 ·exact⟨zv,by rw[q2];exact hzr,by simp[Instr.lookup,run_underlying ht,MapKept.run_getObj_map h1,MapKept.run_checkKey hk (Eq _),MapKept.run_findKey hk q1,hz,q2]⟩
 ·exact⟨e.val,by rw[q2];exact q3,by simp[Instr.lookup,run_underlying ht,MapKept.run_getObj_map h1,MapKept.run_checkKey hk (Eq _),MapKept.run_findKey hk q1,q2]⟩
theorem N9 (enc:T→Rp)(xs:List (Ai×T))(k:Ai)(z:T):(El (AY enc xs) k).getD (enc z)=enc (Jk xs k z):=by
 rw[I4];unfold Jk;cases El xs k<;>rfl
theorem Ox (enc:T→Rp)(xs:List (Ai×T))(k:Ai):(El (AY enc xs) k).isSome=GM xs k:=by
 rw[I4];unfold GM;cases El xs k<;>rfl
theorem OY (ht:P.underlying t=some (.map kt et))(hk:P.underlying kt=some .string)(hz:∀w,(zeroValue et).run P w = .ok zv w)(hzr:∀Z,(enc z).p Z zv)(hx:ev l x=some (rv (.map (some b))))(hi:H[i]? =some (.map b (AY enc xs)))(hy:ev l y=some (rS k)) :
  Bj P n c l H { dst:=d',op:=.lookup t x y true,type:=ty,pos:=pos,after:=af,guard:=g } (C0 [enc (Jk xs k z),rB (GM xs k)]):=λa w Z ha hw=>by
 obtain⟨v,h1,h2⟩:=HJ (k:=k) ht hk hz (hzr Z) (hw.ent hi) true;rw[N9] at h1;refine⟨.tuple #[v,.bool (GM xs k)],⟨[v,.bool (GM xs k)],rfl,h1,rfl,trivial⟩,?_⟩;rw[Ox] at h2;simp[execOp,ha.eval hx,ha.eval hy,h2]
theorem QT (ht:P.underlying t=some (.map kt et))(hk:P.underlying kt=some .string)(hz:∀w,(zeroValue et).run P w = .ok zv w)(hzr:∀Z,(enc z).p Z zv)(hx:ev l x=some (rv (.map (some b))))(hi:H[i]? =some (.map b (AY enc xs)))(hy:ev l y=some (rS k)) :
  Bj P n c l H { dst:=d',op:=.lookup t x y false,type:=ty,pos:=pos,after:=af,guard:=g } (enc (Jk xs k z)):=λa w Z ha hw=>by
 obtain⟨v,h1,h2⟩:=HJ (k:=k) ht hk hz (hzr Z) (hw.ent hi) false;rw[N9] at h1;simp only[Vr,VC] at h2;exact⟨v,h1,by simp[execOp,ha.eval hx,ha.eval hy,h2]⟩
theorem DH.length {Z:Fz}{m:List (List UInt8×Rp)}{es:List MapEntry}{ck:Nat}(h:DH Z m es ck):es.length=m.length:=by
 obtain⟨_,_,_,f,h4,h5⟩:=h;rw[← h5.at.1,h4.length_eq]
theorem QS {m:List (List UInt8×Rp)}{N:Nat}(ht:P.underlying t=some (.map kt et))(hx:ev l x=some (rv (.map (some b))))(hi:H[i]? =some (.map b m))(hN:m.length=N) :
  Bj P n c l H { dst:=d',op:=.call { callee:=.builtin .len,args:=#[x],argTypes:=#[t] },type:=ty,pos:=pos,after:=af,guard:=g } (rI .i64 N):=λa w Z ha hw=>Ct<|by
 obtain⟨es,ck,h1,h2⟩:=hw.ent hi;have hl:es.size=N:=by rw[← hN,← h2.length];simp
 simp[execOp,resolve,invoke,builtin,ha.eval hx,Builtin.len_,run_underlying ht,goInt,MapKept.run_getObj_map h1,hl]
theorem QR {v:Option Nat}(ht:P.underlying t=some (.map kt et))(hx:ev l x=some (rv (.map v))):Bj P n c l H { dst:=d',op:=.binOp .eql t x (.const (.map none)) rty,type:=ty,pos:=pos,after:=af,guard:=g } (rB v.isNone):=λa w Z ha hw=>Ct<|by
 have e2:a.eval (.const (.map none)) = .map none:=rfl;have h:=run_equal_map_nil (P:=P) w t kt et v ht;simp[execOp,ha.eval hx,e2,eqGuard,binOp,h]
theorem Jc (hn:Nat.blt d n=true)(h:∀b,WL P n c ops Q rest ((d,rv (.map (some b)))::l) (.map b []::H)) :
  WL P n c ops Q ({ dst:=some d,op:=.makeMap t none,type:=ty,pos:=pos,after:=af,guard:=none }::rest) l H:=
 Gi (λa w Z ha hw=>⟨_,w.alloc (.map #[] 0),_,_,Z,by simp[execOp,run_makeMap],Fz.le.refl _,rfl,
  hw.alloc _ (e:=.map w.heap.size []) ⟨#[],0,by simpa using heap_alloc_new w _,by simp,by simp,by simp,[],Vi _,trivial⟩ rfl,h w.heap.size⟩) hn
theorem QI {m f:List (Ai×Rp)}(h:f.Perm m)(k:Ai)(r:Rp):(Jl f k r).Perm (Jl m k r):=h.map _
theorem Pc {T:Type}:∀{f:List (Ai×T)} {j:Nat} {k:Ai} {r0:T} (r:T),(f.map (·.1)).Nodup→f[j]? =some (k,r0)→Jl f k r=f.set j (k,r)
 | p::f,0,k,r0,r,hn,h=>by
  simp at h;subst h;rw[VI,List.nodup_cons] at hn;have:Jl f k r=f:=by
   unfold Jl;rw[List.map_congr_left (g:=id) (λq hq=>?_),List.map_id];have hne : ¬ q.1=k:=λe=>hn.1 (by rw[← e];exact List.mem_map.2 ⟨q,hq,rfl⟩);rw[VJ hne];rfl
  show(bif decide (k=k) then(k,r) else(k,r0))::Jl f k r=_;rw[VM rfl,this];rfl
 | p::f,j+1,k,r0,r,hn,h=>by
  rw[VI,List.nodup_cons] at hn;simp at h;have hne : ¬ p.1=k:=λe=>hn.1 (by rw[e];exact List.mem_map.2 ⟨(k,r0),Vn h,rfl⟩);show(bif decide (p.1=k) then(k,r) else p)::Jl f k r=_;rw[VJ hne,Pc r hn.2 h];rfl
theorem PT {T:Type}(m:List (Ai×T))(k:Ai)(r:T):(Jl m k r).map (·.1)=m.map (·.1):=by
 unfold Jl;rw[VL];refine List.map_congr_left λp _=>?_;simp only[Function.comp]
 by_cases h:p.1=k
 ·rw[VM h];exact h.symm
 ·rw[VJ h];rfl
theorem PU {T:Type}{m:List (Ai×T)}{k:Ai}{r:T}(h:El m k=some r):GM m k=true:=by unfold GM;rw[h];rfl
theorem PV {T:Type}{m:List (Ai×T)}{k:Ai}(h:El m k=none):GM m k=false:=by unfold GM;rw[h];rfl
theorem DH.put {Z:Fz}{m:List (Ai×Rp)}{es:List MapEntry}{ck j:Nat}{e:MapEntry}{k:Ai}{r0 r:Rp}{v:Value}(h:DH Z m es ck)(he:es[j]? =some e)(hk:e.key = .string (B k))(hm:El m k=some r0)(hr:r.p Z v) :
  DH Z (Ge m k r) (es.set j { e with key:=.string (B k),val:=v }) ck:=by
 obtain⟨h1,h2,h3,f,h4,h5⟩:=h;obtain⟨hl,ha⟩:=h5.at;have hjl:=(List.getElem?_eq_some_iff.1 he).1;unfold Ge;rw[PU hm,VB];obtain⟨k',r',e1,e2,_⟩:=ha j e he;rw[hk] at e2;obtain rfl:=Nc e2;have hfn:(f.map (·.1)).Nodup:=(h4.map (·.1)).nodup_iff.2 h1;refine⟨by rw[PT];exact h1,?_,?_,f.set j (k,r),?_,Ii.of (by simp[hl]) λi x hx=>?_⟩
 ·rw[List.map_set];have:(es.map (·.born)).set j e.born=es.map (·.born):=by
   apply List.ext_getElem?;intro i;rw[List.getElem?_set]
   split
   ·rename_i hij;subst hij
    simp[hjl,List.getElem?_eq_some_iff.1 he |>.2]
   ·rfl
  show((es.map (·.born)).set j e.born).Nodup;rw[this];exact h2
 ·intro x hx;rcases List.mem_or_eq_of_mem_set hx with hx | rfl
  ·exact h3 x hx
  ·exact h3 e (Vn he)
 ·have:=QI h4 k r
  rwa [Pc r hfn e1] at this
 ·rw[List.getElem?_set] at hx ⊢
  split at hx
  ·rename_i hij;subst hij
   cases hx
   exact⟨k,r,by rw[VP rfl,VP (by rw[hl];exact hjl)],rfl,hr⟩
  ·rename_i hij
   rw[VF hij];exact ha i x hx
theorem DH.ins {Z:Fz}{m:List (Ai×Rp)}{es:List MapEntry}{ck:Nat}{k:Ai}{r:Rp}{v:Value}(h:DH Z m es ck)(hm:El m k=none)(hk:∀p∈m,p.1≠k)(hr:r.p Z v) :
  DH Z (Ge m k r) (es++[{ key:=.string (B k),val:=v,born:=ck }]) (ck+1):=by
 obtain⟨h1,h2,h3,f,h4,h5⟩:=h;unfold Ge;rw[PV hm,V7];have hp:=LJ k r m;refine⟨?_,?_,?_,f++[(k,r)],?_,Ii.snoc rfl hr h5⟩
 ·rw[(hp.map (·.1)).nodup_iff,VI,List.nodup_cons];exact⟨λhx=>by obtain⟨p,hp,e⟩:=List.mem_map.1 hx;exact hk p hp e,h1⟩
 ·rw[List.map_append,List.nodup_append];refine⟨h2,by simp,λa ha b hb e=>?_⟩;simp at hb;subst hb;obtain⟨x,hx,e'⟩:=List.mem_map.1 ha;have:=h3 x hx;omega
 ·intro x hx;rcases List.mem_append.1 hx with hx | hx
  ·have:=h3 x hx;omega
  ·simp at hx;subst hx;exact Vk _
 ·exact(List.perm_append_comm (l₁:=f) (l₂:=[(k,r)])).trans ((h4.cons (k,r)).trans hp.symm)
theorem St.mapset {Z:Fz}{w:World}(h:St c H Z w){m m':List (Ai×Rp)}(hi:H[i]? =some (.map b m)){es es':Array MapEntry}{ck ck':Nat}(h1:w.heap[b]? =some (.map es ck))(h2:DH Z m' es'.toList ck') :
  St c (H.set i (.map b m')) Z { w with heap:=w.heap.setIfInBounds b (.map es' ck') }:=by
 obtain⟨q1,q2⟩:=MapKept.heap_set (o':=.map es' ck') h1;exact h.set hi rfl rfl rfl (by simp) (λk _ hk=>q2 k (by simpa[Ent.foot] using hk)) ⟨es',ck',q1,h2⟩ (by simp[Ent.foot])
theorem Mk (s:ByteArray):Instr.sameBits 10000 (.string s) (.string s)=true:=by
 show(s ==s)=true;exact(MapKept.bytes_beq s s).2 rfl |> λh=>by simpa using h
theorem Tn {r:Rp}{m:List (Ai×Rp)}(ht:P.underlying t=some (.map kt et))(hk:P.underlying kt=some .string)(hx:ev l x=some (rv (.map (some b))))(hi:H[i]? =some (.map b m))(hy:ev l y=some (rS k))(hu:ev l u=some r){H':List Ent}(hH:H.set i (.map b (Ge m k r))=H')(h:WL P n c ops Q rest l H') :
  WL P n c ops Q ({ dst:=none,op:=.mapUpdate t x y u,type:=ty,pos:=pos,after:=af,guard:=none }::rest) l H:=
 MY λa w Z ha hw=>by
  obtain⟨es,ck,h1,h2⟩:=hw.ent hi;have hv:=ha.ev hu;subst hH;rcases Pq h2 k with⟨q1,q2,q3⟩ | ⟨j,e,r0,q1,q2,q3,q4,_⟩
  ·refine⟨_,_,?_,hw.mapset hi h1 (es':=es.push { key:=.string (B k),val:=a.eval u,born:=ck }) (by simpa using h2.ins q2 q3 hv),h⟩;simp[execOp,ha.eval hx,ha.eval hy,Instr.mapUpdate,run_underlying ht,MapKept.run_getObj_map h1,MapKept.run_checkKey hk (Eq _),MapKept.run_findKey hk q1,MapKept.run_setObj_map _ h1]
  ·have hje:es[j]? =some e:=by simpa using q2
   refine⟨_,_,?_,hw.mapset hi h1 (es':=es.modify j λe=>{ e with key:=.string (B k),val:=a.eval u }) (ck':=ck) (by
    have:=h2.put q2 q3 q4 hv;have e1:(es.modify j λe=>{ e with key:=.string (B k),val:=a.eval u }).toList=es.toList.set j { e with key:=.string (B k),val:=a.eval u }:=by
     rw[Array.toList_modify];rw[List.modify_eq_set,q2];rfl
    rw[e1];exact this),h⟩
   have hkey:((es[j]?).map (·.key)).getD (.string (B k)) = .string (B k):=by rw[hje];exact q3
   simp[execOp,ha.eval hx,ha.eval hy,Instr.mapUpdate,run_underlying ht,MapKept.run_getObj_map h1,MapKept.run_checkKey hk (Eq _),MapKept.run_findKey hk q1,MapKept.run_setObj_map _ h1,hkey,Instr.keyThatStays,Mk]
theorem JV {v:T}(ht:P.underlying t=some (.map kt et))(hk:P.underlying kt=some .string)(hx:ev l x=some (rv (.map (some b))))(hi:H[i]? =some (.map b (AY enc xs)))(hy:ev l y=some (rS k))(hu:ev l u=some (enc v)){H':List Ent}(hH:H.set i (.map b (AY enc (Ge xs k v)))=H')(h:WL P n c ops Q rest l H') :
  WL P n c ops Q ({ dst:=none,op:=.mapUpdate t x y u,type:=ty,pos:=pos,after:=af,guard:=none }::rest) l H:=Tn ht hk hx hi hy hu (by rw[← QZ];exact hH) h
end
theorem IS {q:MapEntry→Bool}:∀{l:List MapEntry} {j:Nat} {e:MapEntry},(l.map (·.born)).Nodup→l[j]? =some e→l.filter (λx=>!(x.born ==e.born))=l.eraseIdx j
 | x::l,0,e,hn,h=>by
  simp at h;subst h;rw[VI,List.nodup_cons] at hn;rw[List.filter_cons_of_neg (by simp),List.filter_eq_self.2 λy hy=>?_];rfl;have:y.born≠x.born:=λe=>hn.1 (by rw[← e];exact List.mem_map.2 ⟨y,hy,rfl⟩);simp[this]
 | x::l,j+1,e,hn,h=>by
  rw[VI,List.nodup_cons] at hn;simp at h;have hne:x.born≠e.born:=λe'=>hn.1 (by rw[e'];exact List.mem_map.2 ⟨e,Vn h,rfl⟩);rw[List.filter_cons_of_pos (by simp[hne]),IS (q:=q) hn.2 h];rfl
theorem Ii.erase {Z:Fz}:∀{f:List (List UInt8×Rp)} {es:List MapEntry} (j:Nat),Ii Z f es→Ii Z (f.eraseIdx j) (es.eraseIdx j)
 | [],[],j,_=>by simp[Ii]
 | p::f,e::es,0,⟨_,h⟩=>h
 | p::f,e::es,j+1,⟨h,h3⟩=>⟨h,Ii.erase j h3⟩
theorem OU {α:Type}:∀{l:List α} {j:Nat} {a:α},l[j]? =some a→l.Perm (a::l.eraseIdx j)
 | x::l,0,a,h=>by simp at h;subst h;exact Vi _
 | x::l,j+1,a,h=>by
  simp at h;exact((OU h).cons x).trans (List.Perm.swap a x _)
theorem QJ {T:Type}{enc:T→Rp}{ys:List (Ai×T)}{f:List (Ai×Rp)}{j:Nat}{k:Ai}{r:Rp}(h:f.Perm (AY enc ys))(hj:f[j]? =some (k,r)):∃ (p:Ai×T) (ys':List (Ai×T)),ys.Perm (p::ys')∧p.1=k∧enc p.2=r∧(f.eraseIdx j).Perm (AY enc ys'):=by
 have hm:(k,r)∈AY enc ys:=h.subset (Vn hj);obtain⟨p,hp,e⟩:=List.mem_map.1 hm;simp only[Prod.mk.injEq] at e;obtain⟨a,b,rfl⟩:=List.append_of_mem hp;refine⟨p,a++b,List.perm_middle,e.1,e.2,?_⟩;have h1:f.Perm ((k,r)::f.eraseIdx j):=by
  exact OU hj
 have h2:(AY enc (a++p::b)).Perm ((k,r)::AY enc (a++b)):=by
  have:(AY enc (a++p::b)).Perm (AY enc (p::(a++b))):=List.perm_middle.map _;refine this.trans ?_;show((p.1,enc p.2)::AY enc (a++b)).Perm _;rw[e.1,e.2]
 exact((h1.symm.trans h).trans h2).cons_inv
section
variable {P : Program} {n : Nat} {c : Cx} {ops : Array Oper} {Q : Exit → Act → World → Prop} {rest : List Oper} {l : Fr} {H : List Ent} {d : Nat} {ty t kt et rty : TypeId} {pos : String} {af : Array Edge} {x y u : Operand} {K : Act → World → Prop} {cx : Code}
variable {T : Type} {enc : T → Rp} {xs ys : List (Ai × T)} {i b it : Nat} {m lf : List (List UInt8 × Rp)} {cur : Option (List UInt8 × Rp)} {k : Ai} {r : Rp}
theorem RS (ht:P.underlying t=some (.map kt et))(hx:ev l x=some (rv (.map (some b))))(hi:H[i]? =some (.map b m))(hn:Nat.blt d n=true)(h:∀it,WL P n c ops Q rest ((d,rv (.pointer (some ⟨it,0,none⟩)))::l) (H.set i (.mit b it m m none))) :
  WL P n c ops Q ({ dst:=some d,op:=.range t x,type:=ty,pos:=pos,after:=af,guard:=none }::rest) l H:=
 Gi (λa w Z ha hw=>by
  obtain⟨es,ck,h1,h2⟩:=hw.ent hi;have hb:b<w.heap.size:=(Array.getElem?_eq_some_iff.1 h1).1;have hf:es.toList.filter (λe=>!(#[]:Array Nat).contains e.born)=es.toList:=List.filter_eq_self.2 λ_ _=>by simp
  obtain⟨f,h4,h5⟩:=h2.2.2.2;refine⟨.pointer (some ⟨w.heap.size,0,none⟩),w.alloc (.mapIter (some b) ck #[] ck),_,_,Z,?_,Fz.le.refl _,rfl,hw.set hi rfl rfl rfl (by simp) (λk hk _=>Below.heap_alloc w _ k hk) ?_ ?_,h w.heap.size⟩
  ·simp[execOp,ha.eval hx,run_range_map w t kt et b es ck ht h1]
  ·exact⟨es,ck,#[],ck,ck,(Below.heap_alloc w _ b hb).trans h1,by simpa using heap_alloc_new w _,h2,h2.2.2.1,Vp _,Vp _,Nat.ne_of_lt hb,⟨f,h4,by rw[hf];exact h5⟩,trivial⟩
  ·intro k hk;simp only[Ent.foot,VE,List.not_mem_nil,or_false] at hk;rcases hk with rfl | rfl
   ·exact .inl (by simp[Ent.foot])
   ·exact .inr (Vp _)) hn
theorem Th (hx:ev l x=some (rv (.pointer (some ⟨it,0,none⟩))))(hi:H[i]? =some (.mit b it m (AY enc ys) cur))(hn:Nat.blt d n=true)
  (h0:ys=[]→WL P n c ops Q rest ((d,C0 [rB false])::l) H)
  (h1:∀p ys',ys.Perm (p::ys')→WL P n c ops Q rest ((d,C0 [rB true,rS p.1,enc p.2])::l) (H.set i (.mit b it m (AY enc ys') (some (p.1,enc p.2))))) :
  WL P n c ops Q ({ dst:=some d,op:=.next x false,type:=ty,pos:=pos,after:=af,guard:=none }::rest) l H:=
 Gi (λa w Z ha hw=>by
  obtain⟨es,ck,seen,since,c0,q1,q2,q3,q4,q5,q6,q7,⟨f,q8,q9⟩,_⟩:=hw.ent hi;have hlf:(leftOf es seen).toList=es.toList.filter λe=>!seen.contains e.born:=by simp[leftOf]
  rcases run_next_at (P:=P) w ty it b since c0 seen es ck q2 q1 q4 q5 with⟨r1,r2⟩ | ⟨e,r1,w1,r2,r3⟩
  ·have he:es.toList.filter (λe=>!seen.contains e.born)=[]:=by rw[← hlf];exact Vt (by simpa using r1)
   rw[he] at q9;have hf:f=[]:=by cases f with
    | nil=>rfl
    | cons _ _=>exact absurd q9 id
   subst hf;have hy:ys=[]:=by
    have:=q8.length_eq;rw[Ha] at this;exact Vt this.symm
   exact⟨.tuple #[.bool false],w,C0 [rB false],H,Z,by simp[execOp,ha.eval hx,r2],Fz.le.refl _,⟨[.bool false],rfl,rfl,trivial⟩,hw,h0 hy⟩
  ·rw[hlf] at r1;obtain⟨j,hj⟩:=List.mem_iff_getElem?.1 r1;obtain⟨k,r,e1,e2,e3⟩:=q9.at.2 j e hj;obtain⟨p,ys',s1,s2,s3,s4⟩:=QJ q8 e1;have hnl:((es.toList.filter λe=>!seen.contains e.born).map (·.born)).Nodup:=q3.2.1.sublist ((List.filter_sublist ..).map _);have hleft:es.toList.filter (λx=>!(seen.push e.born).contains x.born)=(es.toList.filter λe=>!seen.contains e.born).eraseIdx j:=by
    rw[← IS (q:=λ_=>true) hnl hj,List.filter_filter];refine List.filter_congr λx _=>?_;simp only[Array.contains_push,Bool.not_or];rw[Bool.and_comm]
   have hd:St c H Z w1:=by
    rcases r2 with rfl | rfl
    ·exact hw
    ·exact hw.drawn _
   have q2':w1.heap[it]? =some (.mapIter (some b) since seen c0):=by rcases r2 with rfl | rfl<;>exact q2
   have q1':w1.heap[b]? =some (.map es ck):=by rcases r2 with rfl | rfl<;>exact q1
   obtain⟨t1,t2⟩:=MapKept.heap_set (o':=.mapIter (some b) since (seen.push e.born) ck) q2';refine⟨.tuple #[.bool true,e.key,e.val],ChangeMaps.setBlock w1 it (.mapIter (some b) since (seen.push e.born) ck),C0 [rB true,rS p.1,enc p.2],H.set i (.mit b it m (AY enc ys') (some (p.1,enc p.2))),Z,by simp[execOp,ha.eval hx,r3],Fz.le.refl _,⟨[.bool true,e.key,e.val],rfl,rfl,?_,?_,trivial⟩,hd.set hi rfl rfl rfl (by simp[ChangeMaps.setBlock]) (λk' _ hk'=>t2 k' (λe'=>hk' (by simp[Ent.foot,e']))) ?_ (λk' hk'=>.inl (by simpa[Ent.foot] using hk')),h1 p ys' s1⟩
   ·show e.key = .string (B p.1);rw[s2];exact e2
   ·rw[s3];exact e3
   ·exact⟨es,ck,seen.push e.born,since,ck,(t2 b q7).trans q1',t1,q3,q4,Nat.le_trans q5 q6,Vp _,q7,⟨f.eraseIdx j,s4,by rw[hleft];exact q9.erase j⟩,rfl,seen,e,rfl,(List.mem_filter.1 r1).1,by rw[s2];exact e2,by rw[s3];exact e3⟩) hn
theorem St.unmit {Z:Fz}{w:World}(h:St c H Z w)(hi:H[i]? =some (.mit b it m lf cur)):St c (H.set i (.map b m)) Z w:=by
 obtain⟨es,ck,seen,since,c0,q1,q2,q3,_⟩:=h.ent hi;exact h.set hi rfl rfl rfl (Vp _) (λ_ _ _=>rfl) ⟨es,ck,q1,q3⟩ (by simp[Ent.foot])
theorem WK.unmit (hi:H[i]? =some (.mit b it m lf cur))(h:WK n c K l (H.set i (.map b m))):WK n c K l H:=λa w Z ha hw=>h a w Z ha (hw.unmit hi)
theorem WC.unmit (hi:H[i]? =some (.mit b it m lf cur))(h:WC P n c cx Q l (H.set i (.map b m))):WC P n c cx Q l H:=λa w Z ha hw=>h a w Z ha (hw.unmit hi)
theorem WL.unmit (hi:H[i]? =some (.mit b it m lf cur))(h:WL P n c ops Q rest l (H.set i (.map b m))):WL P n c ops Q rest l H:=λa w Z ha hw=>h a w Z ha (hw.unmit hi)
theorem St.uncur {Z:Fz}{w:World}(h:St c H Z w)(hi:H[i]? =some (.mit b it m lf cur)):St c (H.set i (.mit b it m lf none)) Z w:=by
 obtain⟨es,ck,seen,since,c0,q1,q2,q3,q4,q5,q6,q7,q8,_⟩:=h.ent hi;exact h.set hi rfl rfl rfl (Vp _) (λ_ _ _=>rfl) ⟨es,ck,seen,since,c0,q1,q2,q3,q4,q5,q6,q7,q8,trivial⟩ (λk hk=>.inl (by simpa[Ent.foot] using hk))
theorem WK.uncur (hi:H[i]? =some (.mit b it m lf cur))(h:WK n c K l (H.set i (.mit b it m lf none))):WK n c K l H:=λa w Z ha hw=>h a w Z ha (hw.uncur hi)
theorem Sr {dd:Option Nat}{g:Option (Nat×Bool)}(hx:ev l x=some (rv (.pointer (some ⟨it,0,none⟩))))(hi:H[i]? =some (.mit b it m lf (some (k,r)))) :
  Bj P n c l H { dst:=dd,op:=.entry x,type:=ty,pos:=pos,after:=af,guard:=g } (C0 [rS k,r]):=λa w Z ha hw=>by
 obtain⟨es,ck,seen,since,c0,q1,q2,q3,q4,q5,q6,q7,q8,rfl,s0,e,rfl,h1,h2,h3⟩:=hw.ent hi;exact⟨.tuple #[e.key,e.val],⟨[e.key,e.val],rfl,h2,h3,trivial⟩,by simp[execOp,ha.eval hx,run_entry_at w it b since s0 es c0 e q2 q1 h1 q3.2.1]⟩
end
section
variable {P : Program} {n : Nat} {c : Cx} {opsA : Array Oper} {Q : Exit → Act → World → Prop} {l : Fr} {H : List Ent} {d : Nat} {ty : TypeId} {pos : String} {af : Array Edge}
theorem QN {f:FuncId}{args:List Operand}{ats:Array TypeId}{rs:List Rp}{r:Rp}{Hin Hout Hr:List Ent}(hcall:∀(as1:Array Value) (w:World),(callFunc f as1).run P w = .ok (.enter f as1) w)(hv:IU l args=some rs)
  (hp:H.Perm (Hin++Hr)) (hc:Fn P c.E f rs Hin (λr' H'=>r'=r∧H'=Hout)) {H':List Ent} (hH:Hout++Hr=H'):Cz P n c opsA Q l H { dst:=some d,op:=.call { callee:=.value (.func f),args:=args.toArray,argTypes:=ats },type:=ty,pos:=pos,after:=af,guard:=none } r H':=λa w Z K ha hw hK=>
 ⟨λ_=>by
  subst hH;unfold Oper.wp;rw[CS rfl hcall w];refine(hc w Z _ (DD ha hv) (hw.perm hp).enter).mono ?_;rintro e w' ⟨r2,v,Ho,Z',rfl,⟨rfl,rfl⟩,hr2,hs⟩;exact hK v w' Z' hs.le hr2 ((hw.perm hp).call hs),λh=>by simp[Region.wanted] at h⟩
theorem QM {f:FuncId}{args:List Operand}{ats:Array TypeId}{rs:List Rp}{r:Rp}{Hin Hr:List Ent}(hcall:∀(as1:Array Value) (w:World),(callFunc f as1).run P w = .ok (.enter f as1) w)(hv:IU l args=some rs)
  (hp:H.Perm (Hin++Hr)) (hc:Fn P c.E f rs Hin (λr' H'=>r'=r∧H'=Hin)):Cz P n c opsA Q l H { dst:=some d,op:=.call { callee:=.value (.func f),args:=args.toArray,argTypes:=ats },type:=ty,pos:=pos,after:=af,guard:=none } r H:=λa w Z K ha hw hK=>
 QN (Hout:=Hin) hcall hv hp hc rfl a w Z K ha hw (λv w' Z' hz hr hs=>hK v w' Z' hz hr (hs.perm hp.symm))
end
section
variable {P : Program} {n : Nat} {c : Cx} {ops : Array Oper} {Q : Exit → Act → World → Prop} {rest : List Oper} {l : Fr} {H H' : List Ent} {d : Nat} {d' : Option Nat} {x y z3 : Operand} {ty t t' e : TypeId} {pos : String} {af : Array Edge} {g : Option (Nat × Bool)} {v u : Value} {r : Rp} {sz : Nat}
end
theorem Ba.d6 {Z:Fz}{r0 r1 r2 r3 r4 r5:Rp}{us:List Value}(h:Ba Z [r0,r1,r2,r3,r4,r5] us):∃y0 y1 y2 y3 y4 y5,us=[y0,y1,y2,y3,y4,y5]∧Ba Z [r0,r1,r2,r3,r4,r5] [y0,y1,y2,y3,y4,y5]:=by
 match us,h.length with
 | [y0,y1,y2,y3,y4,y5],_=>exact⟨_,_,_,_,_,_,rfl,h⟩
theorem NC {α:Type}{sz:Nat}:∀{xs:List (List α)} (hs:∀c∈xs,c.length=sz) {k:Nat} {cl:List α},xs[k]? =some cl→∀(off m:Nat),off+m≤sz→((xs.flatten).drop (k*sz+off)).take m=(cl.drop off).take m
 | [],_,k,cl,h,_,_,_=>by simp at h
 | x::r,hs,0,cl,h,off,m,hm=>by
  simp at h;subst h;have hx:=hs x (by simp);simp only[List.flatten_cons,Nat.zero_mul,V3];rw[List.drop_append_of_le_length (by omega),List.take_append_of_le_length (by simp;omega)]
 | x::r,hs,k+1,cl,h,off,m,hm=>by
  have hx:=hs x (by simp);simp only[List.flatten_cons];have e:(k+1)*sz+off=x.length+(k*sz+off):=by rw[hx,Nat.succ_mul];omega
  rw[e,List.drop_length_add_append];exact NC (λc hc=>hs c (by simp[hc])) (by simpa using h) off m hm
section
variable {P : Program} {n : Nat} {c : Cx} {ops : Array Oper} {Q : Exit → Act → World → Prop} {rest : List Oper} {l : Fr} {H H' : List Ent} {d : Nat} {d' : Option Nat} {ty t e rty : TypeId} {pos : String} {af : Array Edge} {g : Option (Nat × Bool)} {x y u : Operand} {v : Value} {sz m : Nat}
theorem Ka {α:Type}[Inhabited α]{ys:List α}{enc:α→List Rp}{i off:Nat}{j:Int}{rs:List Rp}(hag:∀w,(isAgg t).run P w = .ok true w)(hsz:∀w,(sizeOf t).run P w = .ok m w)(hx:ev l x=some (rv (Dg sz v j.toNat off)))(hi:H[i]? =some (.row v e sz (ys.map enc)))(hg:Ca j (ys.length:Int)=true)
  (hle:Nat.ble (off+m) sz=true) (hr:((enc (Au ys j)).drop off).take m=rs) :
  Bj P n c l H { dst:=d',op:=.load t x,type:=ty,pos:=pos,after:=af,guard:=g } (Bm rs):=λa w Z ha hw=>by
 obtain⟨hs,us,⟨h1,h2⟩,h3⟩:=hw.ent hi;have h0:=(BA hg).1;have hlt:j.toNat<ys.length:=by have:=(BA hg).2;omega
 have eat:Au ys j=ys[j.toNat]:=by simp[Au,hlt]
 have hle':off+m≤sz:=by simpa using hle
 have hcl:(ys.map enc)[j.toNat]? =some (enc ys[j.toNat]):=by simp[hlt]
 have hcz:(enc ys[j.toNat]).length=sz:=hs _ (Vn hcl);have hseg:=NC hs hcl off m hle';rw[← eat,hr] at hseg;have h4:=(h3.drop (j.toNat*sz+off)).take m;rw[hseg] at h4;have hrl:rs.length=m:=by rw[← hr,eat];simp;omega
 rcases h2 with⟨rfl,hz⟩ | ⟨b,cap,cur,rfl,_,hg',hcap,hm,hcs,htk⟩
 ·simp at hz;subst hz;simp at hlt
 ·have h5:=run_loadCells_list (P:=P) w ⟨b,j.toNat*sz+off,none⟩ ((us.drop (j.toNat*sz+off)).take m) (λq w' hq=>by
   rw[GN,cell_of_row w b _ cur e (0,0) hg'];rw[V5] at hq
   split at hq
   ·rw[List.getElem?_drop,← htk,V5] at hq
    split at hq
    ·simpa using hq
    ·cases hq
   ·cases hq)
  rw[h4.length,hrl] at h5;exact⟨.agg ((us.drop (j.toNat*sz+off)).take m).toArray,⟨_,rfl,h4⟩,by simp[execOp,ha.eval hx,Dg,Instr.loadAt,Instr.sureAddr,loadVar,hag,hsz,h5]⟩
end
section
variable {P : Program} {n : Nat} {c : Cx} {Q : Exit → Act → World → Prop} {l : Fr} {H : List Ent} {x rest' : Code} {K : Act → World → Prop}
end
section
variable {P : Program} {n : Nat} {c : Cx} {ops : Array Oper} {Q : Exit → Act → World → Prop} {rest : List Oper} {l : Fr} {H H' : List Ent} {d : Nat} {d' : Option Nat} {x y z3 z4 : Operand} {ty t t' e : TypeId} {pos : String} {af : Array Edge} {g : Option (Nat × Bool)} {v u : Value} {r : Rp} {sz : Nat}
theorem Kb {i:Nat}{rs:List Rp}{fs:Array Field}{f:Field}(hu:P.underlying t=some (.struct fs))(hf:fs[i]? =some f)(hag:∀w,(isAgg f.type).run P w = .ok false w)(hx:ev l x=some (Bm rs))(hr:rs[f.offset]? =some r) :
  Bj P n c l H { dst:=d',op:=.field t x i,type:=ty,pos:=pos,after:=af,guard:=g } r:=λa w Z ha hw=>by
 obtain⟨us,e1,hus⟩:=ha.ev hx;obtain⟨v,hv,hp⟩:=hus.at hr;exact⟨v,hp,by simp[execOp,e1,Instr.field,run_underlying hu,hf,asAgg,part,hag,hv]⟩
theorem Ti {α:Type}{enc:α→List Rp}{inf:TypeInfo}{z:Value}{zα:α}{rz:Rp}{kl kc:IntKind}{m:Nat}{bytes:Nat}(ht:P.underlying t=some (.slice e))(hinf:P.info? e=some inf)(hz:inf.zero=some z)(hsize:inf.size=1)(hby:inf.bytes=bytes)(hbp:Nat.blt 0 bytes=true)
  (hzc:z.cells = #[z]) (henc:enc zα=[rz]) (hrz:∀Z,rz.p Z z)
  (hx:ev l x=some (rI kl m)) (hy:ev l y=some (rI kc m)) (hg:DV bytes m=true) (hn:Nat.blt d n=true)
  (h:∀v',WL P n c ops Q rest ((d,rv v')::l) (.row v' e 1 ((List.replicate m zα).map enc)::H)) :
  WL P n c ops Q ({ dst:=some d,op:=.makeSlice t x y,type:=ty,pos:=pos,after:=af,guard:=none }::rest) l H:=
 Gi (λa w Z ha hw=>by
  have hb:m*bytes≤140737488355328:=by simpa[DV] using hg
  have hbp':0<bytes:=by simpa using hbp
  have hle:m≤m*bytes:=Nat.le_mul_of_pos_right _ hbp';obtain⟨w',e1,e2,e3⟩:=run_make_full (P:=P) w 0 t e inf z 1 ht hinf hz hsize kl kc m (by rw[hby,Nat.mul_comm];omega) (by simp only[maxLen];omega) (V9 _);rw[hzc,toList_madeCells_one,Nat.mul_one] at e2;have hall:Ba Z ((List.replicate m zα).map enc).flatten (List.replicate m z):=by
   clear e2 hle hb hg hx hy h e1
   induction m with
   | zero=>trivial
   | succ m ih=>rw[List.replicate_succ,List.replicate_succ,VI,List.flatten_cons,henc];exact⟨hrz Z,ih⟩
  have hlen:∀cl∈(List.replicate m zα).map enc,cl.length=1:=λcl hcl=>by
   obtain⟨q,hq,rfl⟩:=List.mem_map.1 hcl;rw[(List.mem_replicate.1 hq).2,henc];rfl
  have hent:(Ent.row (.slice (some ⟨w.heap.size,0,none⟩) m m) e 1 ((List.replicate m zα).map enc)).holds Z w':=⟨hlen,List.replicate m z,by simpa using e2,hall⟩
  exact⟨.slice (some ⟨w.heap.size,0,none⟩) m m,w',rv (.slice (some ⟨w.heap.size,0,none⟩) m m),_,Z,by simp[execOp,ha.eval hx,ha.eval hy,e1],Fz.le.refl _,rfl,hw.add e3.os e3.tape e3.output e3.size (λk hk=>e3.block k hk (by simp)) hent (by simp[Ent.foot,Value.ownBlock]),h _⟩) hn
end
structure Sx (U:Type) where
 deps:List Nat
 r:U→Rp
 dyn:Bool:=false
 old:List Nat:=[]
def Eo {U:Type}(sp:List (Sx U))(i:Nat):Sx U:=sp.getD i { deps:=[],r:=λ_=>rv undef }
def Qq {U:Type}(sp:List (Sx U))(u:U):List Sp:=sp.map λs=>⟨s.deps,s.r u,0⟩
def TV {U:Type}(sp:List (Sx U))(u:U):List Sa:=sp.map λs=>{ deps:=s.deps,r:=s.r u }
def Li {U:Type}:List (Sx U)→Prop
 | []=>True
 | s::r=>(s.dyn=false→∀u u',s.r u=s.r u')∧Li r
theorem Li.at {U:Type}:∀{sp:List (Sx U)},Li sp→∀{i:Nat} {s:Sx U},sp[i]? =some s→s.dyn=false→∀u u',s.r u=s.r u'
 | [],_,i,s,h=>by simp at h
 | x::sp,⟨h1,h2⟩,0,s,h=>by simp at h;subst h;exact h1
 | x::sp,⟨h1,h2⟩,i+1,s,h=>Li.at h2 (by simpa using h)
theorem UE {U:Type}{ds os:List Nat}{r:Rp}{sp:List (Sx U)}(h:Li sp):Li ({ deps:=ds,r:=λ_=>r,old:=os }::sp):=⟨λ_ _ _=>rfl,h⟩
theorem UD {U:Type}{ds os:List Nat}{r:U→Rp}{sp:List (Sx U)}(h:Li sp):Li ({ deps:=ds,r:=r,dyn:=true,old:=os }::sp):=⟨λh'=>(by cases h'),h⟩
def Dj (lw:Fr):List Nat→Fr→Fr
 | [],l=>l
 | d::r,l=>match look lw d with
  | some q=>(d,q)::Dj lw r l
  | none=>Dj lw r l
theorem M6 {n:Nat}{lw l:Fr}{a:Act}{Z:Fz}(h0:Ch n l a Z):∀{ds:List Nat},(∀d∈ds,∀q,look lw d=some q→∃v,a.tmps[d]? =some v∧q.p Z v)→Ch n (Dj lw ds l) a Z
 | [],_=>h0
 | d::ds,h=>by
  have ih:=M6 h0 (ds:=ds) (λd' hd'=>h d' (by simp[hd']));unfold Dj
  cases hd:look lw d with
  | none=>exact ih
  | some q=>
   refine⟨ih.size,ih.defers,λi r hi=>?_⟩;rw[BH] at hi
   split at hi
   ·rename_i e;subst e;simp at hi;subst hi;exact h d (by simp) q hd
   ·exact ih.tm i r hi
theorem UC {U:Type}:Li ([]:List (Sx U)):=trivial
def UJ (n:Nat)(ops:List Oper)(N i0:Nat)(keys:List Nat)(deps:List (List Nat))(dyns:List Bool)(olds:List (List Nat)):Bool:=
 Ld ops N&&decide (N≤ops.length)&&decide (i0<N)&&
 (List.range N).all (λi=>match BF ops i with
  | some d=>decide (d<n)&&!keys.contains d&&(List.range N).all (λj=>j ==i||BF ops j !=some d)
  | none=>true)&&
 (List.range N).all (λi=>(deps.getD i []).all (λj=>decide (j<N)&&(Cg (ops.getD i default)).contains j))&&
 (List.range N).all (λi=>!dyns.getD i false||i ==i0||(Cg (ops.getD i default)).any (λe=>decide (e<N)&&(e ==i0||dyns.getD e false)))&&
 (List.range N).all (λi=>(olds.getD i []).all (λd=>(List.range N).all (λw=>BF ops w !=some d||(Cg (ops.getD w default)).contains i)))
section
variable (P : Program) (n : Nat) (c : Cx) (opsA : Array Oper) (Q : Exit → Act → World → Prop)
def U9 {U:Type}(l:Fr)(H:List Ent)(o:Oper)(r:U→Rp)(H1:U→List Ent):Prop:=
 ∀a w Z (K:Act→World→Prop),Ch n l a Z→St c H Z w→(∀u v w' Z',Fz.le Z Z'→(r u).p Z' v→St c (H1 u) Z' w'→K (a.put o.dst v) w')→
  Region.wanted o (yielded opsA a.tmps)=true∧o.wp P a w K Q
def Ih {U:Type}(ops:List Oper)(sp:List (Sx U))(l0 lw:Fr)(i0:Nat)(H:List Ent)(H1:U→List Ent):Nat→List Oper→Prop
 | i,o::rest=>(if i=i0 then(∀u,U9 P n c opsA Q (Dj lw (Eo sp i).old (B8 ops (Qq sp u) (Eo sp i).deps l0)) H o (Eo sp i).r H1) else ∀u H',(H'=H∨H'=H1 u)→Cz P n c opsA Q (Dj lw (Eo sp i).old (B8 ops (Qq sp u) (Eo sp i).deps l0)) H' o ((Eo sp i).r u) H')∧Ih ops sp l0 lw i0 H H1 (i+1) rest
 | _,[]=>True
end
section
variable {P : Program} {n : Nat} {c : Cx} {opsA : Array Oper} {Q : Exit → Act → World → Prop} {l l0 lw : Fr} {U : Type} {H : List Ent} {H1 : U → List Ent} {sp : List (Sx U)} {i0 : Nat}
theorem Ih.at {ops:List Oper}:∀{k:Nat} {rest:List Oper},Ih P n c opsA Q ops sp l0 lw i0 H H1 k rest→∀(t:Nat) o,rest[t]? =some o→
  (if k+t=i0 then(∀u,U9 P n c opsA Q (Dj lw (Eo sp (k+t)).old (B8 ops (Qq sp u) (Eo sp (k+t)).deps l0)) H o (Eo sp (k+t)).r H1) else ∀u H',(H'=H∨H'=H1 u)→Cz P n c opsA Q (Dj lw (Eo sp (k+t)).old (B8 ops (Qq sp u) (Eo sp (k+t)).deps l0)) H' o ((Eo sp (k+t)).r u) H')
 | k,o::rest,⟨h1,h2⟩,t,o',ht=>by
  cases t with
  | zero=>simp at ht;subst ht;exact h1
  | succ t=>
   have:=Ih.at h2 t o' (by simpa using ht);rw[show k+(t+1)=k+1+t from by omega];exact this
 | _,[],_,t,o,h=>by simp at h
theorem RR {id:Nat}{ops:List Oper}[Inhabited U](N i0:Nat)(sp:List (Sx U))(hm:P.follows .mixedOrders=true)(hB:UJ n ops N i0 (CY l0) (sp.map (·.deps)) (sp.map (·.dyn)) (sp.map (·.old))=true)(hl0:NO l0 l)(hlw:NO lw l)(hsp:sp.length=N)(hst:Li sp)
  (hob:Ih P n c ops.toArray Q ops sp l0 lw i0 H H1 0 (ops.take N)) (h:∀u,WL P n c ops.toArray Q (ops.drop N) (Ik (λ_=>0) (ops.take N) (TV sp u) 0 l0) (H1 u)):WC P n c (.region id ops.toArray true) Q l H:=by
 intro a w Z ha hw;simp only[UJ,Vm,V8,List.mem_range,Vf] at hB;obtain⟨⟨⟨⟨⟨⟨b1,bN⟩,b0⟩,b2⟩,b3⟩,b4⟩,b5⟩:=hB;have hget:∀i,i<N→(ops.take N)[i]? =ops[i]?:=λi hi=>by rw[V5,VP hi]
 have hsa:∀i,i<N→sp[i]? =some (Eo sp i):=λi hi=>by
  simp[Eo,Vg,Vh (show i<sp.length by omega)]
 have hspq:∀u i,i<N→(CF (Qq sp u) i)=⟨(Eo sp i).deps,(Eo sp i).r u,0⟩:=λu i hi=>by
  simp[CF,Qq,Vg,Vs,hsa i hi]
 have hdyn:∀j,j<N→(sp.map (·.dyn)).getD j false=(Eo sp j).dyn:=λj hj=>by simp[Vg,Vs,hsa j hj]
 have hdep:∀j,j<N→(sp.map (·.deps)).getD j []=(Eo sp j).deps:=λj hj=>by simp[Vg,Vs,hsa j hj]
 have hops:∀j,j<N→∃o,ops[j]? =some o:=λj hj=>⟨ops[j]'(by omega),Vh (by omega)⟩
 have hdst:∀i o d,i<N→ops[i]? =some o→o.dst=some d→(d<n∧d ∉ CY l0)∧∀j,j<N→j≠i→BF ops j≠some d:=λi o d hi ho hd=>by
  have h3:=b2 i hi;have:BF ops i=some d:=by simp[BF,ho,hd]
  rw[this] at h3;simp only[Vm,VG,V8,List.mem_range,Vf] at h3;refine⟨⟨h3.1.1,λhmem=>by rw[← List.contains_iff_mem] at hmem;rw[hmem] at h3;cases h3.1.2⟩,λj hj hne he=>?_⟩;have:=h3.2 j hj;simp[hne,he] at this
 refine NW (N:=N) hm b1 bN (λS a w=>∃ (u:U) (Z:Fz),St c (if S i0=true then H1 u else H) Z w∧Ch n l0 a Z∧(∀j o d,j<N→S j=true→ops[j]? =some o→o.dst=some d→∃v,a.tmps[d]? =some v∧((Eo sp j).r u).p Z v)∧
   (∀j,j<N→(Eo sp j).dyn=true→S j=true→S i0=true)∧
   (∀d q,look lw d=some q→(∀wr,wr<N→BF ops wr=some d→S wr=false)→∃v,a.tmps[d]? =some v∧q.p Z v)∧
   ∀wr i d,wr<N→i<N→BF ops wr=some d→d∈(Eo sp i).old→S wr=true→S i=true)
  (λS S' a w hS hI=>?_) ⟨default,Z,?_,ha.subL hl0,λj o d _ hS=>(by cases hS),λj _ _ hS=>(by cases hS),λd q hd _=>(ha.subL hlw).tm d q hd,λwr i d _ _ _ _ hS=>(by cases hS)⟩ (λS i o a w hi hun ho hb hI K hK=>?_) (λa w hI=>?_)
 ·obtain⟨u,Z,h1,h2,h3,h4,h5,h6⟩:=hI;refine⟨u,Z,?_,h2,λj o d hj hS'=>h3 j o d hj (by rw[hS j hj];exact hS'),λj hj hd hSj=>?_,λd q hd hw'=>h5 d q hd (λwr hwr hdw=>by rw[hS wr hwr];exact hw' wr hwr hdw),λwr i d hwr hi hdw hold hSw=>by rw[← hS i hi];exact h6 wr i d hwr hi hdw hold (by rw[hS wr hwr];exact hSw)⟩
  ·rw[← hS i0 b0];exact h1
  ·rw[← hS i0 b0];exact h4 j hj hd (by rw[hS j hj];exact hSj)
 ·exact hw.drawn _
 ·obtain⟨u,Z,h1,h2,h3,hx,ho5,ho6⟩:=hI;have hput:∀k u v,a.tmps[k]? =some u→o.dst≠some k→(a.put o.dst v).tmps[k]? =some u:=λk u v hk hne=>by
   cases hd:o.dst with
   | none=>simpa[Act.put] using hk
   | some d=>
    simp only[Act.put,Array.getElem?_setIfInBounds];rw[VF (λe=>hne (by rw[hd,e]))];exact hk
  have hagr:∀v Z',Fz.le Z Z'→Ch n l0 (a.put o.dst v) Z':=λv Z' hz=>by
   refine⟨?_,?_,λk r hk=>?_⟩
   ·cases o.dst<;>simp[Act.put,h2.size]
   ·cases o.dst<;>simp[Act.put,h2.defers]
   ·obtain⟨u,hu,hpu⟩:=h2.tm k r hk;exact⟨u,hput k u v hu (λe=>((hdst i o k hi ho e).1).2 (Hb hk)),r.mono hz hpu⟩
  have hvals:∀(v:Value) (Z':Fz) (u':U),Fz.le Z Z'→(∀j,j<N→j≠i→S j=true→(Eo sp j).r u'=(Eo sp j).r u)→(o.dst≠none→((Eo sp i).r u').p Z' v)→∀j o' d,j<N→(j ==i||S j)=true→ops[j]? =some o'→o'.dst=some d→∃q,(a.put o.dst v).tmps[d]? =some q∧((Eo sp j).r u').p Z' q:=by
   intro v Z' u' hz hβ hp j o' d hj hS' ho' hd
   by_cases hji:j=i
   ·subst hji;rw[ho] at ho';simp at ho';subst ho';refine⟨v,?_,hp (by simp[hd])⟩;have hdn:d<a.tmps.size:=by rw[h2.size];exact(hdst j o d hi ho hd).1.1
    simp[Act.put,hd,hdn]
   ·have hSj:S j=true:=by simpa[hji] using hS'
    obtain⟨q,hu,hpu⟩:=h3 j o' d hj hSj ho' hd;refine⟨q,hput d q v hu (λe=>(hdst i o d hi ho e).2 j hj hji (by simp[BF,ho',hd])),?_⟩;rw[hβ j hj hji hSj];exact((Eo sp j).r u).mono hz hpu
  have hat:=hob.at i o (by rw[hget i hi];exact ho);rw[V3] at hat;have hold':∀Z',Fz.le Z Z'→∀v d q,look lw d=some q→(∀wr,wr<N→BF ops wr=some d→(wr ==i||S wr)=false)→∃v',(a.put o.dst v).tmps[d]? =some v'∧q.p Z' v':=λZ' hz v d q hd hw'=>by
   obtain⟨v',e1,e2⟩:=ho5 d q hd (λwr hwr hdw=>by have:=hw' wr hwr hdw;simp only[VN] at this;exact this.2);refine⟨v',hput d v' v e1 (λe=>?_),q.mono hz e2⟩;have:=hw' i hi (by simp[BF,ho,e]);simp at this
  have hord:∀wr k d,wr<N→k<N→BF ops wr=some d→d∈(Eo sp k).old→(wr ==i||S wr)=true→(k ==i||S k)=true:=λwr k d hwr hk hdw hmem hSw=>by
   by_cases hwi:wr=i
   ·subst hwi;have h7:=b5 k hk d (by simpa[Vg,Vs,hsa k hk] using hmem) wr hwr;simp only[V6,bne_iff_ne,ne_eq,hdw,not_true_eq_false,false_or] at h7;rw[Vg,ho,V4,List.contains_iff_mem] at h7;simp[(hb k h7).2]
   ·have:S k=true:=ho6 wr k d hwr hk hdw hmem (by simpa[hwi] using hSw);simp[this]
  have hag':Ch n (Dj lw (Eo sp i).old (B8 ops (Qq sp u) (Eo sp i).deps l0)) a Z:=M6 (HA h2 (λj hj d hd=>by
    obtain⟨h5,h6⟩:=b3 i hi j (by rw[hdep i hi];exact hj);rw[Vg,ho,V4,List.contains_iff_mem] at h6;obtain⟨o2,ho2⟩:=hops j h5;obtain⟨v,hv1,hv2⟩:=h3 j o2 d h5 (hb j h6).2 ho2 (by simpa[BF,ho2] using hd);refine⟨v,hv1,?_⟩;rw[hspq u j h5];exact hv2)) (λd hd q hq=>ho5 d q hq (λwr hwr hdw=>by
     cases hS:S wr with
     | false=>rfl
     | true=>have:=ho6 wr i d hwr hi hdw hd hS;rw[this] at hun;cases hun))
  by_cases hi0:i=i0
  ·subst hi0;rw[VP rfl] at hat;rw[hun] at h1;have h1':St c H Z w:=by simpa using h1
   have key:=λK' hK'=>hat u a w Z K' hag' h1' hK';have h5:∀u' v w' Z',Fz.le Z Z'→((Eo sp i).r u').p Z' v→St c (H1 u') Z' w'→K (a.put o.dst v) w':=λu' v w' Z' hz hpv hs'=>by
    refine hK _ _ ⟨u',Z',by simpa using hs',hagr v Z' hz,hvals v Z' u' hz (λj hj hji hSj=>?_) (λ_=>hpv),λj _ _ _=>by simp,hold' Z' hz v,hord⟩;refine hst.at (hsa j hj) ?_ u' u
    cases hd:(Eo sp j).dyn with
    | false=>rfl
    | true=>have:=hx j hj hd hSj;rw[this] at hun;cases hun
   refine⟨λ_=>(key K h5).2,λhw'=>?_⟩;rw[(key K h5).1] at hw';cases hw'
  ·rw[VF hi0] at hat;refine hat u _ (by split;exact .inr rfl;exact .inl rfl) a w Z K hag' h1 (λv w' Z' hz hp hst'=>hK _ _ ⟨u,Z',?_,hagr v Z' hz,hvals v Z' u hz (λ_ _ _ _=>rfl) (λ_=>hp),λj hj hd hSj=>?_,hold' Z' hz v,hord⟩)
   ·have hiS:(i0 ==i||S i0)=S i0:=by
     have:(i0 ==i)=false:=by simpa using λe=>hi0 e.symm
     rw[this];rfl
    show St c (if (i0 ==i||S i0)=true then H1 u else H) Z' w';rw[hiS];exact hst'
   ·have hii:(i0 ==i)=false:=by simpa using λe=>hi0 e.symm
    show(i0 ==i||S i0)=true;rw[hii,Vo]
    by_cases hji:j=i
    ·subst hji;have h7:=b4 j hj;rw[hdyn j hj,hd] at h7;simp only[Vx,Vo,V6,beq_iff_eq,hi0,false_or,List.any_eq_true,Vm,Vf] at h7;obtain⟨e,he,heN,h8⟩:=h7;rw[Vg,ho,V4] at he;have hSe:=(hb e he).2;rcases h8 with h8 | h8
     ·subst h8;exact hSe
     ·rw[hdyn e heN] at h8;exact hx e heN h8 hSe
    ·exact hx j hj hd (by simpa[hji] using hSj)
 ·obtain⟨u,Z,h1,h2,h3,_,_,_⟩:=hI;have hsl:(TV sp u).length=N:=by simp[TV,hsp]
  refine h u a w Z (Kg h2 _ _ 0 (λt o s d ht hs hd=>?_)) (by simpa using h1);have htN:t<N:=by have:=(List.getElem?_eq_some_iff.1 hs).1;omega
  have hs':s = { deps:=(Eo sp t).deps,r:=(Eo sp t).r u }:=by
   simp only[TV,Vs,hsa t htN,Option.map_some,Option.some.injEq] at hs;exact hs.symm
  subst hs';rw[V3];exact h3 t o d htN rfl (by rw[← hget t htN];exact ht) hd
theorem Q0 [Inhabited U]{id:Nat}{ops:List Oper}(N i0:Nat)(ks0 ksw:List Nat)(sp:List (Sx U))(H1:U→List Ent)(hob:Ih P n c ops.toArray Q ops sp l0 lw i0 H H1 0 (ops.take N))(h:∀u,WL P n c ops.toArray Q (ops.drop N) (Ik (λ_=>0) (ops.take N) (TV sp u) 0 l0) (H1 u))
  (h0:Kp ks0 l l0:=by repeat (first | exact JM | (apply HZ;rfl) | (apply I6;rfl))) (hw:Kp ksw l lw:=by repeat (first | exact JM | (apply HZ;rfl) | (apply I6;rfl))) (hm:P.follows .mixedOrders=true:=by kernel_rfl) (hB:UJ n ops N i0 (CY l0) (sp.map (·.deps)) (sp.map (·.dyn)) (sp.map (·.old))=true:=by kernel_rfl)
  (hsp:sp.length=N:=by rfl) (hst:Li sp:=by repeat (first | exact UC | apply UE | apply UD)):WC P n c (.region id ops.toArray true) Q l H:=RR N i0 sp hm hB h0.one hw.one hsp hst hob h
theorem Qr {all rest:List Oper}{d:Nat}{op:Op}{ty:TypeId}{pos:String}{af:Array Edge}{i:Nat}(hr:∀{u H},Bj P n c (Dj lw (Eo sp i).old (B8 all (Qq sp u) (Eo sp i).deps l0)) H { dst:=some d,op:=op,type:=ty,pos:=pos,after:=af,guard:=none } ((Eo sp i).r u))(h:Ih P n c opsA Q all sp l0 lw i0 H H1 (i+1) rest)(hne:Nat.beq i i0=false:=by rfl) :
  Ih P n c opsA Q all sp l0 lw i0 H H1 i ({ dst:=some d,op:=op,type:=ty,pos:=pos,after:=af,guard:=none }::rest):=by
 refine⟨?_,h⟩;rw[VF (λe=>by subst e;simp at hne)];exact λu H _=>C8 hr
theorem UU {all rest:List Oper}{o:Oper}{i:Nat}(hr:∀{u H},Cz P n c opsA Q (Dj lw (Eo sp i).old (B8 all (Qq sp u) (Eo sp i).deps l0)) H o ((Eo sp i).r u) H)(h:Ih P n c opsA Q all sp l0 lw i0 H H1 (i+1) rest)(hne:Nat.beq i i0=false:=by rfl):Ih P n c opsA Q all sp l0 lw i0 H H1 i (o::rest):=by
 refine⟨?_,h⟩;rw[VF (λe=>by subst e;simp at hne)];exact λu H _=>hr
theorem TY {all rest:List Oper}{o:Oper}{i:Nat}(hr:∀{u},Cz P n c opsA Q (Dj lw (Eo sp i).old (B8 all (Qq sp u) (Eo sp i).deps l0)) H o ((Eo sp i).r u) H)(hr1:∀{u},Cz P n c opsA Q (Dj lw (Eo sp i).old (B8 all (Qq sp u) (Eo sp i).deps l0)) (H1 u) o ((Eo sp i).r u) (H1 u))(h:Ih P n c opsA Q all sp l0 lw i0 H H1 (i+1) rest)(hne:Nat.beq i i0=false:=by rfl):Ih P n c opsA Q all sp l0 lw i0 H H1 i (o::rest):=by
 refine⟨?_,h⟩;rw[VF (λe=>by subst e;simp at hne)];intro u H' hH';rcases hH' with e | e
 ·subst e;exact hr
 ·subst e;exact hr1
theorem US {all rest:List Oper}{o:Oper}(hr:∀{u},U9 P n c opsA Q (Dj lw (Eo sp i0).old (B8 all (Qq sp u) (Eo sp i0).deps l0)) H o (Eo sp i0).r H1)(h:Ih P n c opsA Q all sp l0 lw i0 H H1 (i0+1) rest):Ih P n c opsA Q all sp l0 lw i0 H H1 i0 (o::rest):=by
 refine⟨?_,h⟩;rw[VP rfl];exact λu=>hr
theorem UT {all:List Oper}{i:Nat}:Ih P n c opsA Q all sp l0 lw i0 H H1 i []:=trivial
end
section
variable {P : Program} {n : Nat} {c : Cx} {opsA : Array Oper} {Q : Exit → Act → World → Prop} {l : Fr} {H : List Ent} {d : Nat} {x y : Operand} {ty t e : TypeId} {pos : String} {af : Array Edge} {v : Value} {sz : Nat}
theorem MX {α:Type}{xs ys:List α}{enc:α→List Rp}{i:Nat}{inf:TypeInfo}{z:Value}{bytes:Nat}(ht:P.underlying t=some (.slice e))(hinf:P.info? e=some inf)(hz:inf.zero=some z)(hsize:inf.size=sz)(hby:inf.bytes=bytes)(hzs:z.cells.size=sz)(hsz:Nat.blt 0 sz=true)(hbp:Nat.blt 0 bytes=true)
  (hx:ev l x=some (rv v)) (hi:H[i]? =some (.row v e sz (xs.map enc))) (hy:M8 P n c l H y sz ys.length (ys.map enc).flatten) (henc:∀z,(enc z).length=sz) (hone:∀z,(enc z).all (·.one)=true) (hg:DV bytes (xs.length+ys.length)=true) :
  U9 P n c opsA Q l H { dst:=some d,op:=.call { callee:=.builtin .append,args:=#[x,y],argTypes:=#[t,t] },type:=ty,pos:=pos,after:=af,guard:=none } (λv'=>rv v') (λv'=>.row v' e sz ((xs++ys).map enc)::H.eraseIdx i):=λa w Z K ha hw hK=>by
  obtain⟨h0,us,h1,h2⟩:=hw.ent hi;obtain⟨ws,h3,h4⟩:=hy a w Z ha hw;have hsz':0<sz:=by simpa using hsz
  have hbp':0<bytes:=by simpa using hbp
  have hb:(xs.length+ys.length)*bytes≤140737488355328:=by simpa[DV] using hg
  have hle:xs.length+ys.length≤(xs.length+ys.length)*bytes:=Nat.le_mul_of_pos_right _ hbp';have hws:∀y∈ws,y.oneCell'=true:=Ba.one (rs:=(ys.map enc).flatten) (by
   rw[V8];intro r hr;obtain⟨cl,hcl,hrc⟩:=List.mem_flatten.1 hr;obtain⟨z',_,rfl⟩:=List.mem_map.1 hcl;exact List.all_eq_true.1 (hone z') r hrc) h3
  have hxl:(xs.map enc).length=xs.length:=Vl ..;rw[hxl] at h1;obtain⟨v',w',e1,e2,e3,e4⟩:=EQ (P:=P) ty ht hinf hz hsize hby hzs hsz' h1 h4 hws hb (by simp only[maxLen];omega);have hent:(Ent.row v' e sz ((xs++ys).map enc)).holds Z w':=⟨λcl hcl=>by obtain⟨z',_,rfl⟩:=List.mem_map.1 hcl;exact henc z',us++ws,by simpa using e2,by rw[List.map_append,List.flatten_append];exact h2.append h3⟩
  have hst:=hw.callF hi (St.one (e':=.row v' e sz ((xs++ys).map enc)) (M:=(Ent.row v e sz (xs.map enc)).foot) hw.frz hw.env hw.emono e3.os e3.tape e3.output e3.size (λk hk hne=>e3.block k hk (λe1=>hne (by simp[Ent.foot,← e1])))
   (hw.zdis _ (Vn hi)) hent (λk hk=>by
    simp only[Ent.foot,Option.mem_toList] at hk ⊢;rcases e4 with e4 | e4
    ·exact .inl (e4▸hk)
    ·exact .inr (e4 k hk)))
  refine⟨by simp[Region.wanted],?_⟩;unfold Oper.wp;rw[show(execOp a.eval { dst:=some d,op:=.call { callee:=.builtin .append,args:=#[x,y],argTypes:=#[t,t] },type:=ty,pos:=pos,after:=af,guard:=none }).run P w = .ok (.value v') w' from by simp[execOp,resolve,invoke,builtin,ha.eval hx,e1]];exact hK v' v' w' Z (Fz.le.refl _) rfl hst
end
abbrev Ux:=Nat→Nat→Value×Nat
def Ag (k:Nat)(u u':Ux):Prop:=∀j,j<k→u j=u' j
def ux (u:Ux)(k:Nat)(f:List (Value×Nat)):Ux:=λj=>bif Nat.beq j k then λq=>f.getD q (undef,0) else u j
theorem Uy {u:Ux}{k:Nat}{f:List (Value×Nat)}:Ag k u (ux u k f):=λj hj=>by
 unfold ux;have:Nat.beq j k=false:=by
  cases h:Nat.beq j k with
  | false=>rfl
  | true=>have:=Nat.eq_of_beq_eq_true h;omega
 rw[this];rfl
structure Sy where
 deps:List Nat
 r:Ux→Rp
 lv:Nat:=0
 fx:Bool:=false
 old:List Nat:=[]
def DR (sp:List Sy)(i:Nat):Sy:=sp.getD i { deps:=[],r:=λ_=>rv undef }
def RZ (sp:List Sy)(u:Ux):List Sp:=sp.map λs=>⟨s.deps,s.r u,0⟩
def TU (sp:List Sy)(u:Ux):List Sa:=sp.map λs=>{ deps:=s.deps,r:=s.r u }
def LY:List Sy→Prop
 | []=>True
 | s::r=>(∀u u',Ag s.lv u u'→s.r u=s.r u')∧LY r
theorem LY.at:∀{sp:List Sy},LY sp→∀{i:Nat} {s:Sy},sp[i]? =some s→∀u u',Ag s.lv u u'→s.r u=s.r u'
 | [],_,i,s,h=>by simp at h
 | x::sp,⟨h1,h2⟩,0,s,h=>by simp at h;subst h;exact h1
 | x::sp,⟨h1,h2⟩,i+1,s,h=>LY.at h2 (by simpa using h)
theorem TL {r:Rp}{m:Nat}:∀u u':Ux,Ag m u u'→(λ_:Ux=>r) u=(λ_:Ux=>r) u':=λ_ _ _=>rfl
def UI (n:Nat)(ops:List Oper)(N:Nat)(is:List Nat)(keys:List Nat)(deps:List (List Nat))(lvs:List Nat)(fxs:List Bool)(olds:List (List Nat)):Bool:=
 let cl:=Ie ops []
 Ld ops N&&decide (N≤ops.length)&&is.all (λi=>decide (i<N))&&decide is.Nodup&&
 (List.range is.length).all (λk=>k ==0||(cl.getD (is.getD k 0) 0).testBit (is.getD (k-1) 0))&&
 (List.range N).all (λi=>match BF ops i with
  | some d=>decide (d<n)&&!keys.contains d&&(List.range N).all (λj=>j ==i||BF ops j !=some d)
  | none=>true)&&
 (List.range N).all (λi=>(deps.getD i []).all (λj=>decide (j<N)&&(Cg (ops.getD i default)).contains j))&&
 (List.range N).all (λi=>decide (lvs.getD i 0≤is.length)&&(lvs.getD i 0 ==0||i ==is.getD (lvs.getD i 0-1) 0||(cl.getD i 0).testBit (is.getD (lvs.getD i 0-1) 0)))&&
 (List.range N).all (λi=>!fxs.getD i false||lvs.getD i 0 ==is.length||(cl.getD (is.getD (lvs.getD i 0) 0) 0).testBit i)&&
 (List.range N).all (λi=>(olds.getD i []).all (λd=>(List.range N).all (λw=>BF ops w !=some d||(Cg (ops.getD w default)).contains i)))
def Pt (S:Nat→Bool)(is:List Nat):Nat:=(is.filter S).length
theorem La {S:Nat→Bool}{is:List Nat}{k:Nat}(hk:k≤is.length)(h1:∀j (h:j<is.length),j<k→S is[j]=true)(h2:∀j (h:j<is.length),k≤j→S is[j]=false):Pt S is=k:=by
 unfold Pt;rw[← VO k is,List.filter_append,List.filter_eq_self.2 (λx hx=>?_),List.filter_eq_nil_iff.2 (λx hx=>?_)]
 ·simp;omega
 ·obtain⟨j,hj⟩:=List.mem_iff_getElem?.1 hx;rw[List.getElem?_drop] at hj;obtain⟨h3,h4⟩:=List.getElem?_eq_some_iff.1 hj;have:=h2 (k+j) h3 (by omega);rw[h4] at this;simp[this]
 ·obtain⟨j,hj⟩:=List.mem_iff_getElem?.1 hx;rw[V5] at hj
  split at hj
  ·rename_i hjk
   obtain⟨h3,h4⟩:=List.getElem?_eq_some_iff.1 hj;have:=h1 j h3 hjk;rw[h4] at this;exact this
  ·cases hj
theorem LV {S S':Nat→Bool}{is:List Nat}(h:∀i∈is,S i=S' i):Pt S is=Pt S' is:=by
 unfold Pt;rw[List.filter_congr h]
section
variable (P : Program) (n : Nat) (c : Cx) (opsA : Array Oper) (Q : Exit → Act → World → Prop)
def UP (l:Fr)(H:List Ent)(o:Oper)(k:Nat)(u:Ux)(r:Ux→Rp)(H1:Ux→List Ent):Prop:=
 ∀a w Z (K:Act→World→Prop),Ch n l a Z→St c H Z w→(∀u' v w' Z',Ag k u u'→Fz.le Z Z'→(r u').p Z' v→St c (H1 u') Z' w'→K (a.put o.dst v) w')→
  Region.wanted o (yielded opsA a.tmps)=true∧o.wp P a w K Q
def TP (ops:List Oper)(sp:List Sy)(l0 lw:Fr)(is:List Nat)(hs:List (Ux→List Ent))(i:Nat)(o:Oper):Prop:=
 match is.findIdx? (λx=>Nat.beq x i) with
 | some k=>∀u,UP P n c opsA Q (Dj lw (DR sp i).old (B8 ops (RZ sp u) (DR sp i).deps l0)) (hs.getD k (λ_=>[]) u) o k u (DR sp i).r (hs.getD (k+1) (λ_=>[]))
 | none=>if (DR sp i).fx=true then ∀u,Cz P n c opsA Q (Dj lw (DR sp i).old (B8 ops (RZ sp u) (DR sp i).deps l0)) (hs.getD (DR sp i).lv (λ_=>[]) u) o ((DR sp i).r u) (hs.getD (DR sp i).lv (λ_=>[]) u)
  else ∀u k,k≤is.length→Cz P n c opsA Q (Dj lw (DR sp i).old (B8 ops (RZ sp u) (DR sp i).deps l0)) (hs.getD k (λ_=>[]) u) o ((DR sp i).r u) (hs.getD k (λ_=>[]) u)
def Jx (ops:List Oper)(sp:List Sy)(l0 lw:Fr)(is:List Nat)(hs:List (Ux→List Ent)):Nat→List Oper→Prop
 | i,o::rest=>TP P n c opsA Q ops sp l0 lw is hs i o∧Jx ops sp l0 lw is hs (i+1) rest
 | _,[]=>True
end
section
variable {P : Program} {n : Nat} {c : Cx} {opsA : Array Oper} {Q : Exit → Act → World → Prop} {l l0 lw : Fr} {H : List Ent} {hs : List (Ux → List Ent)} {sp : List Sy} {is : List Nat}
theorem Jx.at {ops:List Oper}:∀{k:Nat} {rest:List Oper},Jx P n c opsA Q ops sp l0 lw is hs k rest→∀(t:Nat) o,rest[t]? =some o→TP P n c opsA Q ops sp l0 lw is hs (k+t) o
 | k,o::rest,⟨h1,h2⟩,t,o',ht=>by
  cases t with
  | zero=>simp at ht;subst ht;exact h1
  | succ t=>
   have:=Jx.at h2 t o' (by simpa using ht);rw[show k+(t+1)=k+1+t from by omega];exact this
 | _,[],_,t,o,h=>by simp at h
theorem RQ {id:Nat}{ops:List Oper}(N:Nat)(is:List Nat)(sp:List Sy)(hs:List (Ux→List Ent))(hm:P.follows .mixedOrders=true)(hB:UI n ops N is (CY l0) (sp.map (·.deps)) (sp.map (·.lv)) (sp.map (·.fx)) (sp.map (·.old))=true)(hl0:NO l0 l)(hlw:NO lw l)(hsp:sp.length=N)(hst:LY sp)
    (hH:∀u,hs.getD 0 (λ_=>[]) u=H) (hob:Jx P n c ops.toArray Q ops sp l0 lw is hs 0 (ops.take N)) (h:∀u,WL P n c ops.toArray Q (ops.drop N) (Ik (λ_=>0) (ops.take N) (TU sp u) 0 l0) (hs.getD is.length (λ_=>[]) u)):WC P n c (.region id ops.toArray true) Q l H:=by
  intro a w Z ha hw;simp only[UI,Vm,V8,List.mem_range,Vf] at hB;obtain⟨⟨⟨⟨⟨⟨⟨⟨⟨b1,bN⟩,bis⟩,IX⟩,bch⟩,b2⟩,b3⟩,b4⟩,b6⟩,b5⟩:=hB;have hget:∀i,i<N→(ops.take N)[i]? =ops[i]?:=λi hi=>by rw[V5,VP hi]
  have hsa:∀i,i<N→sp[i]? =some (DR sp i):=λi hi=>by
    simp[DR,Vg,Vh (show i<sp.length by omega)]
  have hspq:∀u i,i<N→(CF (RZ sp u) i)=⟨(DR sp i).deps,(DR sp i).r u,0⟩:=λu i hi=>by
    simp[CF,RZ,Vg,Vs,hsa i hi]
  have hlv:∀j,j<N→(sp.map (·.lv)).getD j 0=(DR sp j).lv:=λj hj=>by simp[Vg,Vs,hsa j hj]
  have hfx:∀j,j<N→(sp.map (·.fx)).getD j false=(DR sp j).fx:=λj hj=>by simp[Vg,Vs,hsa j hj]
  have hdep:∀j,j<N→(sp.map (·.deps)).getD j []=(DR sp j).deps:=λj hj=>by simp[Vg,Vs,hsa j hj]
  have hops:∀j,j<N→∃o,ops[j]? =some o:=λj hj=>⟨ops[j]'(by omega),Vh (by omega)⟩
  have hisN:∀k (hk:k<is.length),is[k]<N:=λk hk=>bis _ (List.getElem_mem hk);have hisD:∀k (hk:k<is.length),is.getD k 0=is[k]:=λk hk=>by rw[Vg,Vh hk];rfl
  have hdst:∀i o d,i<N→ops[i]? =some o→o.dst=some d→(d<n∧d ∉ CY l0)∧∀j,j<N→j≠i→BF ops j≠some d:=λi o d hi ho hd=>by
    have h3:=b2 i hi;have:BF ops i=some d:=by simp[BF,ho,hd]
    rw[this] at h3;simp only[Vm,VG,V8,List.mem_range,Vf] at h3;refine⟨⟨h3.1.1,λhmem=>by rw[← List.contains_iff_mem] at hmem;rw[hmem] at h3;cases h3.1.2⟩,λj hj hne he=>?_⟩;have:=h3.2 j hj;simp[hne,he] at this
  have clo:∀S:Nat→Bool,(∀t o,ops[t]? =some o→S t=true→∀e∈Cg o,S e=true)→∀j i,((Ie ops []).getD j 0).testBit i=true→S j=true→S i=true:=λS hc j i hb hj=>
    DK ops (λk=>S k=true) ops [] (λt o ht e he hF=>hc t o ht (by simpa using hF) e he) (λj i hb=>by simp at hb) j i hb hj
  have pre1:∀S:Nat→Bool,(∀t o,ops[t]? =some o→S t=true→∀e∈Cg o,S e=true)→∀k (hk:k<is.length),S is[k]=true→∀j (hj:j<is.length),j≤k→S is[j]=true:=by
    intro S hc k
    induction k with
    | zero=>
              intro hk h0 j hj hle;have:j=0:=by omega
              subst this;exact h0
    | succ k ih=>
      intro hk h0 j hj hle
      by_cases e:j=k+1
      · subst e;exact h0
      · have h3:=bch (k+1) hk
        rw[hisD (k+1) hk] at h3;simp only[V6,beq_iff_eq,Nat.succ_ne_zero,false_or,Nat.add_sub_cancel] at h3;rw[hisD k (by omega)] at h3;exact ih (by omega) (clo S hc _ _ h3 h0) j hj (by omega)
  refine NW (N:=N) hm b1 bN (λS a w=>∃ (u:Ux) (Z:Fz),St c (hs.getD (Pt S is) (λ_=>[]) u) Z w∧Ch n l0 a Z∧(∀j o d,j<N→S j=true→ops[j]? =some o→o.dst=some d→∃v,a.tmps[d]? =some v∧((DR sp j).r u).p Z v)∧
      (∀t o,t<N→ops[t]? =some o→S t=true→∀e∈Cg o,e<t∧S e=true)∧
      (∀d q,look lw d=some q→(∀wr,wr<N→BF ops wr=some d→S wr=false)→∃v,a.tmps[d]? =some v∧q.p Z v)∧
      ∀wr i d,wr<N→i<N→BF ops wr=some d→d∈(DR sp i).old→S wr=true→S i=true)
    (λS S' a w hS hI=>?_) ⟨default,Z,?_,ha.subL hl0,λj o d _ hS=>(by cases hS),λt o _ _ hS=>(by cases hS),λd q hd _=>(ha.subL hlw).tm d q hd,λwr i d _ _ _ _ hS=>(by cases hS)⟩ (λS i o a w hi hun ho hb hI K hK=>?_) (λa w hI=>?_)
  · obtain⟨u,Z,h1,h2,h3,h4,h5,h6⟩:=hI
    refine⟨u,Z,?_,h2,λj o d hj hS'=>h3 j o d hj (by rw[hS j hj];exact hS'),λt o ht hto hSt e he=>?_,λd q hd hw'=>h5 d q hd (λwr hwr hdw=>by rw[hS wr hwr];exact hw' wr hwr hdw),λwr i d hwr hi hdw hold hSw=>by rw[← hS i hi];exact h6 wr i d hwr hi hdw hold (by rw[hS wr hwr];exact hSw)⟩
    · rw[← LV (S:=S) (S':=S') λi hi=>hS i (bis i hi)];exact h1
    · obtain⟨h7,h8⟩:=h4 t o ht hto (by rw[hS t ht];exact hSt) e he
      exact⟨h7,by rw[← hS e (by omega)];exact h8⟩
  · have:Pt (λ_=>false) is=0:=La (V9 _) (λj _ h=>absurd h (Nat.not_lt_zero _)) (λ_ _ _=>rfl)
    rw[this,hH];exact hw.drawn _
  · obtain⟨u,Z,h1,h2,h3,hc,ho5,ho6⟩:=hI
    have hcl:∀t o,ops[t]? =some o→(decide (t<N)&&S t)=true→∀e∈Cg o,(decide (e<N)&&S e)=true:=λt o hto hSt e he=>by
      simp only[Vm,Vf] at hSt ⊢;obtain⟨h7,h8⟩:=hc t o hSt.1 hto hSt.2 e he;exact⟨by omega,h8⟩
    have hcl2:∀k q,((Ie ops []).getD k 0).testBit q=true→(k=i∨(decide (k<N)&&S k)=true)→(q=i∨(decide (q<N)&&S q)=true):=
      DK ops (λk=>k=i∨(decide (k<N)&&S k)=true) ops [] (λt o' ht e he hF=>by
        rcases hF with hF | hF
        · simp at hF;subst hF
          rw[ho] at ht;simp at ht;subst ht;obtain⟨h7,h8⟩:=hb e he;exact .inr (by simp only[Vm,Vf];exact⟨by omega,h8⟩)
        · exact .inr (hcl t o' ht (by simpa using hF) e he)) (λj i hb=>by simp at hb)
    have hanc:∀q,((Ie ops []).getD i 0).testBit q=true→q≠i→S q=true:=λq hq hne=>by
      rcases hcl2 i q hq (.inl rfl) with h7 | h7
      · exact absurd h7 hne
      · simp only[Vm] at h7;exact h7.2
    have hSis:∀k (hk:k<is.length),(decide (is[k]<N)&&S is[k])=S is[k]:=λk hk=>by simp[hisN k hk]
    have hpre:∀k (hk:k<is.length),S is[k]=true→∀j (hj:j<is.length),j≤k→S is[j]=true:=λk hk hSk j hj hle=>by
      have:=pre1 (λk=>decide (k<N)&&S k) hcl k hk (by show(decide (is[k]<N)&&S is[k])=true;rw[hSis k hk];exact hSk) j hj hle
      rwa [show(decide (is[j]<N)&&S is[j])=S is[j] from hSis j hj] at this
    have hput:∀k u v,a.tmps[k]? =some u→o.dst≠some k→(a.put o.dst v).tmps[k]? =some u:=λk u v hk hne=>by
      cases hd:o.dst with
      | none=>simpa[Act.put] using hk
      | some d=>
        simp only[Act.put,Array.getElem?_setIfInBounds];rw[VF (λe=>hne (by rw[hd,e]))];exact hk
    have hagr:∀v Z',Fz.le Z Z'→Ch n l0 (a.put o.dst v) Z':=λv Z' hz=>by
      refine⟨?_,?_,λk r hk=>?_⟩
      · cases o.dst<;>simp[Act.put,h2.size]
      · cases o.dst<;>simp[Act.put,h2.defers]
      · obtain⟨u,hu,hpu⟩:=h2.tm k r hk
        exact⟨u,hput k u v hu (λe=>((hdst i o k hi ho e).1).2 (Hb hk)),r.mono hz hpu⟩
    have hvals:∀(v:Value) (Z':Fz) (u':Ux),Fz.le Z Z'→(∀j,j<N→j≠i→S j=true→(DR sp j).r u'=(DR sp j).r u)→(o.dst≠none→((DR sp i).r u').p Z' v)→∀j o' d,j<N→(j ==i||S j)=true→ops[j]? =some o'→o'.dst=some d→∃q,(a.put o.dst v).tmps[d]? =some q∧((DR sp j).r u').p Z' q:=by
      intro v Z' u' hz hβ hp j o' d hj hS' ho' hd
      by_cases hji:j=i
      · subst hji
        rw[ho] at ho';simp at ho';subst ho';refine⟨v,?_,hp (by simp[hd])⟩;have hdn:d<a.tmps.size:=by rw[h2.size];exact(hdst j o d hi ho hd).1.1
        simp[Act.put,hd,hdn]
      · have hSj:S j=true:=by simpa[hji] using hS'
        obtain⟨q,hu,hpu⟩:=h3 j o' d hj hSj ho' hd;refine⟨q,hput d q v hu (λe=>(hdst i o d hi ho e).2 j hj hji (by simp[BF,ho',hd])),?_⟩;rw[hβ j hj hji hSj];exact((DR sp j).r u).mono hz hpu
    have hat:=hob.at i o (by rw[hget i hi];exact ho);rw[V3] at hat;have hold':∀Z',Fz.le Z Z'→∀v d q,look lw d=some q→(∀wr,wr<N→BF ops wr=some d→(wr ==i||S wr)=false)→∃v',(a.put o.dst v).tmps[d]? =some v'∧q.p Z' v':=λZ' hz v d q hd hw'=>by
      obtain⟨v',e1,e2⟩:=ho5 d q hd (λwr hwr hdw=>by have:=hw' wr hwr hdw;simp only[VN] at this;exact this.2);refine⟨v',hput d v' v e1 (λe=>?_),q.mono hz e2⟩;have:=hw' i hi (by simp[BF,ho,e]);simp at this
    have hord:∀wr k d,wr<N→k<N→BF ops wr=some d→d∈(DR sp k).old→(wr ==i||S wr)=true→(k ==i||S k)=true:=λwr k d hwr hk hdw hmem hSw=>by
      by_cases hwi:wr=i
      · subst hwi
        have h7:=b5 k hk d (by simpa[Vg,Vs,hsa k hk] using hmem) wr hwr;simp only[V6,bne_iff_ne,ne_eq,hdw,not_true_eq_false,false_or] at h7;rw[Vg,ho,V4,List.contains_iff_mem] at h7;simp[(hb k h7).2]
      · have:S k=true:=ho6 wr k d hwr hk hdw hmem (by simpa[hwi] using hSw)
        simp[this]
    have hcl':∀t o',t<N→ops[t]? =some o'→(t ==i||S t)=true→∀e∈Cg o',e<t∧(e ==i||S e)=true:=λt o' ht hto hSt e he=>by
      by_cases hti:t=i
      · subst hti
        rw[ho] at hto;simp at hto;subst hto;obtain⟨h7,h8⟩:=hb e he;exact⟨h7,by simp[h8]⟩
      · obtain⟨h7,h8⟩:=hc t o' ht hto (by simpa[hti] using hSt) e he
        exact⟨h7,by simp[h8]⟩
    have hag':Ch n (Dj lw (DR sp i).old (B8 ops (RZ sp u) (DR sp i).deps l0)) a Z:=M6 (HA h2 (λj hj d hd=>by
        obtain⟨h5,h6⟩:=b3 i hi j (by rw[hdep i hi];exact hj);rw[Vg,ho,V4,List.contains_iff_mem] at h6;obtain⟨o2,ho2⟩:=hops j h5;obtain⟨v,hv1,hv2⟩:=h3 j o2 d h5 (hb j h6).2 ho2 (by simpa[BF,ho2] using hd);refine⟨v,hv1,?_⟩;rw[hspq u j h5];exact hv2)) (λd hd q hq=>ho5 d q hq (λwr hwr hdw=>by
          cases hS:S wr with
          | false=>rfl
          | true=>have:=ho6 wr i d hwr hi hdw hd hS;rw[this] at hun;cases hun))
    have hlev:∀j,j<N→S j=true→∀m (hm:m<is.length),m<(DR sp j).lv→S is[m]=true:=λj hj hSj m hm hlt=>by
      have h7:=b4 j hj;rw[hlv j hj] at h7;have h8:=h7.1;have hm1:(DR sp j).lv-1<is.length:=by omega
      rw[hisD _ hm1] at h7;have h9:S is[(DR sp j).lv-1]=true:=by
        have hg:=h7.2;simp only[V6,beq_iff_eq] at hg;rcases hg with(hg | hg) | hg
        · omega
        · rw[← hg];exact hSj
        · have:=clo (λk=>decide (k<N)&&S k) hcl j _ hg (by simp[hj,hSj])
          simp only[Vm] at this;exact this.2
      exact hpre _ hm1 h9 m hm (by omega)
    unfold TP at hat
    cases hf:is.findIdx? (λx=>Nat.beq x i) with
    | some k=>
      rw[hf] at hat;obtain⟨hk,hki,_⟩:=List.findIdx?_eq_some_iff_getElem.1 hf;have hik:is[k]=i:=Nat.eq_of_beq_eq_true hki;have hlow:∀j (hj:j<is.length),j<k→S is[j]=true:=λj hj hjk=>by
        obtain⟨k',rfl⟩:∃k',k=k'+1:=⟨k-1,by omega⟩
        have h7:=bch (k'+1) hk;rw[hisD _ hk] at h7;simp only[V6,beq_iff_eq,Nat.succ_ne_zero,false_or,Nat.add_sub_cancel] at h7;have hk':k'<is.length:=by omega
        rw[hisD k' hk',hik] at h7;have hne:is[k']≠i:=λe=>by
          have:=(List.getElem_inj IX).1 (e.trans hik.symm);omega
        exact hpre k' hk' (hanc _ h7 hne) j hj (by omega)
      have hhigh:∀j (hj:j<is.length),k≤j→S is[j]=false:=λj hj hle=>by
        cases hS:S is[j] with
        | false=>rfl
        | true=>have:=hpre j hj hS k hk hle;rw[hik,hun] at this;cases this
      have hcnt:Pt S is=k:=La (by omega) (λj hj h=>hlow j hj h) (λj hj h=>hhigh j hj h);have hcnt':Pt (λj=>j ==i||S j) is=k+1:=La (by omega) (λj hj h=>by
        by_cases e:j=k
        · subst e;simp[hik]
        · simp[hlow j hj (by omega)]) (λj hj h=>by
        have hne:is[j]≠i:=λe=>by have:=(List.getElem_inj IX).1 (e.trans hik.symm);omega
        simp[hne,hhigh j hj (by omega)])
      rw[hcnt] at h1;have key:=λK' hK'=>hat u a w Z K' hag' h1 hK';have h5:∀u' v w' Z',Ag k u u'→Fz.le Z Z'→((DR sp i).r u').p Z' v→St c (hs.getD (k+1) (λ_=>[]) u') Z' w'→K (a.put o.dst v) w':=λu' v w' Z' hag hz hpv hs'=>by
        refine hK _ _ ⟨u',Z',by rw[hcnt'];exact hs',hagr v Z' hz,hvals v Z' u' hz (λj hj hji hSj=>?_) (λ_=>hpv),hcl',hold' Z' hz v,hord⟩;refine(hst.at (hsa j hj) u u' (λm hm=>hag m ?_)).symm;have hlj:=(b4 j hj).1;rw[hlv j hj] at hlj;have hml:m<is.length:=by omega
        cases Nat.lt_or_ge m k with
        | inl h7=>exact h7
        | inr h7=>have:=hlev j hj hSj m hml hm;rw[hhigh m hml h7] at this;cases this
      refine⟨λ_=>(key K h5).2,λhw'=>?_⟩;rw[(key K h5).1] at hw';cases hw'
    | none=>
      rw[hf] at hat;have hni:∀x∈is,x≠i:=λx hx e=>by
        have:=List.findIdx?_eq_none_iff.1 hf x hx;subst e;simp at this
      have hcnt':Pt (λj=>j ==i||S j) is=Pt S is:=LV λx hx=>by simp[hni x hx]
      by_cases hfi:(DR sp i).fx=true
      · simp only[hfi,VH] at hat
        have hli:=b4 i hi;rw[hlv i hi] at hli;have hcnt:Pt S is=(DR sp i).lv:=La hli.1 (λj hj h=>?_) (λj hj h=>?_)
        · rw[hcnt] at h1
          refine hat u a w Z K hag' h1 (λv w' Z' hz hp hst'=>hK _ _ ⟨u,Z',?_,hagr v Z' hz,hvals v Z' u hz (λ_ _ _ _=>rfl) (λ_=>hp),hcl',hold' Z' hz v,hord⟩);rw[hcnt',hcnt];exact hst'
        · have h7:=hli.2
          have hm1:(DR sp i).lv-1<is.length:=by omega
          rw[hisD _ hm1] at h7;simp only[V6,beq_iff_eq] at h7;rcases h7 with(h7 | h7) | h7
          · omega
          · exact absurd h7.symm (hni _ (List.getElem_mem hm1))
          · exact hpre _ hm1 (hanc _ h7 (hni _ (List.getElem_mem hm1))) j hj (by omega)
        · have h7:=b6 i hi
          rw[hfx i hi,hfi,hlv i hi] at h7;simp only[Vx,Vo,V6,beq_iff_eq] at h7;rcases h7 with h7 | h7
          · omega
          · have hm1:(DR sp i).lv<is.length:=by omega
            rw[hisD _ hm1] at h7
            cases hS:S is[j] with
            | false=>rfl
            | true=>
              have h8:=hpre j hj hS _ hm1 h;have:=clo (λk=>decide (k<N)&&S k) hcl _ _ h7 (by show(decide (is[(DR sp i).lv]<N)&&S is[(DR sp i).lv])=true;rw[hSis _ hm1];exact h8);simp only[Vm,hun] at this;exact absurd this.2 (by simp)
      · simp only[hfi,VC] at hat
        refine hat u (Pt S is) (List.length_filter_le _ _) a w Z K hag' h1 (λv w' Z' hz hp hst'=>hK _ _ ⟨u,Z',?_,hagr v Z' hz,hvals v Z' u hz (λ_ _ _ _=>rfl) (λ_=>hp),hcl',hold' Z' hz v,hord⟩);rw[hcnt'];exact hst'
  · obtain⟨u,Z,h1,h2,h3,_,_,_⟩:=hI
    have hsl:(TU sp u).length=N:=by simp[TU,hsp]
    have hcnt:Pt (λ_=>true) is=is.length:=La (Vp _) (λ_ _ _=>rfl) (λj hj h=>by omega);rw[hcnt] at h1;refine h u a w Z (Kg h2 _ _ 0 (λt o s d ht hs hd=>?_)) h1;have htN:t<N:=by have:=(List.getElem?_eq_some_iff.1 hs).1;omega
    have hs':s = { deps:=(DR sp t).deps,r:=(DR sp t).r u }:=by
      simp only[TU,Vs,hsa t htN,Option.map_some,Option.some.injEq] at hs;exact hs.symm
    subst hs';rw[V3];exact h3 t o d htN rfl (by rw[← hget t htN];exact ht) hd
theorem Tf {id:Nat}{ops:List Oper}(N:Nat)(is ks0 ksw:List Nat)(sp:List Sy)(hs:List (Ux→List Ent))(hst:LY sp)(hob:Jx P n c ops.toArray Q ops sp l0 lw is hs 0 (ops.take N))(h:∀u,WL P n c ops.toArray Q (ops.drop N) (Ik (λ_=>0) (ops.take N) (TU sp u) 0 l0) (hs.getD is.length (λ_=>[]) u))
  (h0:Kp ks0 l l0:=by repeat (first | exact JM | (apply HZ;rfl) | (apply I6;rfl))) (hw:Kp ksw l lw:=by repeat (first | exact JM | (apply HZ;rfl) | (apply I6;rfl))) (hm:P.follows .mixedOrders=true:=by kernel_rfl) (hB:UI n ops N is (CY l0) (sp.map (·.deps)) (sp.map (·.lv)) (sp.map (·.fx)) (sp.map (·.old))=true:=by kernel_rfl)
  (hsp:sp.length=N:=by rfl) (hH:∀u,hs.getD 0 (λ_=>[]) u=H:=by exact λ_=>rfl):WC P n c (.region id ops.toArray true) Q l H:=RQ N is sp hs hm hB h0.one hw.one hsp hst hH hob h
theorem SX {all rest:List Oper}{o:Oper}{i:Nat}(hr:∀{u H},Cz P n c opsA Q (Dj lw (DR sp i).old (B8 all (RZ sp u) (DR sp i).deps l0)) H o ((DR sp i).r u) H)(h:Jx P n c opsA Q all sp l0 lw is hs (i+1) rest)(hne:is.findIdx? (λx=>Nat.beq x i)=none:=by rfl)(hf:(DR sp i).fx=false:=by rfl):Jx P n c opsA Q all sp l0 lw is hs i (o::rest):=by
 refine⟨?_,h⟩;unfold TP;rw[hne];simp only[hf,Vr,VC];exact λu _ _=>hr
def SS (p:List Ent→Prop)(u:Ux):List (Ux→List Ent)→Prop
 | []=>True
 | f::r=>p (f u)∧SS p u r
theorem SS.at {p:List Ent→Prop}{u:Ux}:∀{hs:List (Ux→List Ent)},SS p u hs→∀k,k<hs.length→p (hs.getD k (λ_=>[]) u)
 | [],_,k,h=>absurd h (Nat.not_lt_zero _)
 | f::r,⟨h1,h2⟩,0,_=>h1
 | f::r,⟨h1,h2⟩,k+1,h=>SS.at h2 k (by simpa using h)
theorem UZ {all rest:List Oper}{o:Oper}{i:Nat}(hr:∀{u},Cz P n c opsA Q (Dj lw (DR sp i).old (B8 all (RZ sp u) (DR sp i).deps l0)) (hs.getD (DR sp i).lv (λ_=>[]) u) o ((DR sp i).r u) (hs.getD (DR sp i).lv (λ_=>[]) u))(h:Jx P n c opsA Q all sp l0 lw is hs (i+1) rest)(hne:is.findIdx? (λx=>Nat.beq x i)=none:=by rfl)(hf:(DR sp i).fx=true:=by rfl):Jx P n c opsA Q all sp l0 lw is hs i (o::rest):=by
 refine⟨?_,h⟩;unfold TP;rw[hne];simp only[hf,VH];exact λu=>hr
theorem UY {all rest:List Oper}{o:Oper}{i:Nat}(k:Nat)(hr:∀{u},UP P n c opsA Q (Dj lw (DR sp i).old (B8 all (RZ sp u) (DR sp i).deps l0)) (hs.getD k (λ_=>[]) u) o k u (DR sp i).r (hs.getD (k+1) (λ_=>[])))(h:Jx P n c opsA Q all sp l0 lw is hs (i+1) rest)(hne:is.findIdx? (λx=>Nat.beq x i)=some k:=by rfl):Jx P n c opsA Q all sp l0 lw is hs i (o::rest):=by
 refine⟨?_,h⟩;unfold TP;rw[hne];exact λu=>hr
theorem Va {all:List Oper}{i:Nat}:Jx P n c opsA Q all sp l0 lw is hs i []:=trivial
end
section
variable {P : Program} {n : Nat} {c : Cx} {opsA : Array Oper} {Q : Exit → Act → World → Prop} {l : Fr} {H : List Ent} {d : Nat} {x y : Operand} {ty t e : TypeId} {pos : String} {af : Array Edge} {v : Value} {sz : Nat}
theorem Te {k:Nat}{u:Ux}{f:FuncId}{args:List Operand}{ats:Array TypeId}{rs:List Rp}{r:Ux→Rp}{H1:Ux→List Ent}{Hin Hr:List Ent}{Φ:Rp→List Ent→Prop}(hcall:∀(as1:Array Value) (w:World),(callFunc f as1).run P w = .ok (.enter f as1) w)(hv:IU l args=some rs)
  (hp:H.Perm (Hin++Hr)) (hc:Fn P c.E f rs Hin Φ) (hΦ:∀r' H',Φ r' H'→∃u',Ag k u u'∧r'=r u'∧H'++Hr=H1 u'):UP P n c opsA Q l H { dst:=some d,op:=.call { callee:=.value (.func f),args:=args.toArray,argTypes:=ats },type:=ty,pos:=pos,after:=af,guard:=none } k u r H1:=λa w Z K ha hw hK=>by
 refine⟨by simp[Region.wanted],?_⟩;unfold Oper.wp;rw[CS rfl hcall w];refine(hc w Z _ (DD ha hv) (hw.perm hp).enter).mono ?_;rintro e w' ⟨r',v,H',Z',rfl,hΦ',hr,hs⟩;obtain⟨u',h1,h2,h3⟩:=hΦ r' H' hΦ';subst h2;exact hK u' v w' Z' h1 hs.le hr (h3▸(hw.perm hp).call hs)
end
end Go.Proofs.YtmjlemhondjfhaaGreatDoor.Q
namespace Go.Proofs.YtmjlemhondjfhaaGreatDoor
open Go
end Go.Proofs.YtmjlemhondjfhaaGreatDoor
namespace Go.Proofs.YtmjlemhondjfhaaGreatDoor.Q
open Go Go.RowKit
set_option linter.unusedVariables false
section
variable {P : Program} {n : Nat} {c : Cx} {ops : Array Oper} {Q : Exit → Act → World → Prop} {rest : List Oper} {l : Fr} {H : List Ent} {d : Nat} {d' : Option Nat} {t kt et ty : TypeId} {pos : String} {af : Array Edge} {g : Option (Nat × Bool)} {x y u : Operand} {b i : Nat} {T : Type} {enc : T → Rp} {xs : List (Int × T)} {z : T} {zv : Value}
theorem MA.push {Z:Fz}{k:Int}{r:Rp}{v:Value}(hv:r.p Z v)(ck:Nat):∀{m:List (Int×Rp)} {es:List MapEntry},MA Z m es→MA Z (m++[(k,r)]) (es++[⟨.int .i64 k,v,ck⟩])
 | [],[],_=>⟨⟨rfl,hv⟩,trivial⟩
 | p::m,e::es,⟨h1,h2⟩=>⟨h1,h2.push hv ck⟩
end
set_option linter.unusedSimpArgs false
def Qu (k:Nat)(i:Int)(off:Nat)(Z:Fz)(v:Value):Prop:=if i<0 then v = .pointer none else ∃b,Z.nm k i.toNat=some b∧v = .pointer (some ⟨b,off,none⟩)
def RG (k:Nat)(i:Int)(off:Nat):Rp:=⟨Qu k i off,fun {Z Z' v} h hp=>by
 unfold Qu at *
 split
 ·rename_i h0;rwa [VP h0] at hp
 ·rename_i h0;rw[VF h0] at hp;obtain⟨b,h1,h2⟩:=hp;exact⟨b,h.nm k _ b h1,h2⟩,true,λ_ Z v hp=>by
 change Qu k i off Z v at hp
 unfold Qu at hp
 split at hp
 ·rw[hp];rfl
 ·obtain⟨b,_,h2⟩:=hp;rw[h2];rfl⟩
@[reducible] def mP (k:Nat) (i:Int):Rp:=RG k i 0
theorem UM (k:Nat)(Z:Fz):(mP k (-1)).p Z (.pointer none):=rfl
theorem DL.pnil (k:Nat):DL (rv (.pointer none)) (RG k (-1) 0):=λZ v h=>h
section
variable {P : Program} {n : Nat} {c : Cx} {ops : Array Oper} {Q : Exit → Act → World → Prop} {rest : List Oper} {l : Fr} {H H' : List Ent} {d : Nat} {d' : Option Nat} {x y : Operand} {ty t t' e : TypeId} {pos : String} {af : Array Edge} {g : Option (Nat × Bool)} {v u : Value} {r : Rp} {sz k : Nat} {pv : Value} {α : Type} [Inhabited α] {xs : List α} {enc : α → List Rp}
theorem Ch.re {a:Act}{Z:Fz}{d:Nat}{q r:Rp}(h:Ch n l a Z)(hl:look l d=some q)(hq:∀v,q.p Z v→r.p Z v):Ch n ((d,r)::l) a Z:=⟨h.size,h.defers,λi u hi=>by
 rw[BH] at hi
 split at hi
 ·rename_i e;subst e;simp at hi;subst hi
  obtain⟨v,h1,h2⟩:=h.tm d q hl;exact⟨v,h1,hq v h2⟩
 ·exact h.tm i u hi⟩
theorem Qu.of {Z:Fz}{b N:Nat}(h:Z.nm k N=some b):∀v,(rv (.pointer (some ⟨b,0,none⟩))).p Z v→(RG k (N:Int) 0).p Z v:=λv hv=>by
 show Qu k N 0 Z v;unfold Qu;rw[VF (by omega)];exact⟨b,by simpa using h,hv⟩
def Lk (l:Fr)(b:Nat):List Nat→Prop
 | []=>True
 | d::ds=>look l d=some (rv (.pointer (some ⟨b,0,none⟩)))∧Lk l b ds
def Uv (k N:Nat):List Nat→Fr→Fr
 | [],l=>l
 | d::ds,l=>(d,RG k (N:Int) 0)::Uv k N ds l
theorem OC {Z:Fz}{a:Act}{b N:Nat}{l:Fr}(ha:Ch n l a Z)(hn:Z.nm k N=some b):∀{ds:List Nat},Lk l b ds→Ch n (Uv k N ds l) a Z
 | [],_=>ha
 | d::ds,⟨h1,h2⟩=>by
  have h3:=OC ha hn h2;refine⟨h3.size,h3.defers,λi u hi=>?_⟩;rw[Uv,BH] at hi
  split at hi
  ·rename_i e;subst e;simp at hi;subst hi
   obtain⟨v,h4,h5⟩:=ha.tm d _ h1;exact⟨v,h4,Qu.of hn v h5⟩
  ·exact h3.tm i u hi
end
def UW (m:List (List UInt8×Rp))(Z:Fz)(v:Value):Prop:=(v = .map none∧m=[])∨∃b es ck,v = .map (some b)∧Z b=some (.map es ck)∧DH Z m es.toList ck
def UX (m:List (List UInt8×Rp)):Rp:=⟨UW m,λh h0=>h0.imp id λ⟨b,es,ck,h1,h2,h3⟩=>⟨b,es,ck,h1,h.f b _ h2,h3.mono h⟩,true,λ_ Z v h0=>by rcases h0 with⟨h1,_⟩ | ⟨b,es,ck,h1,_⟩<;>(rw[h1];rfl)⟩
section
variable {P : Program} {n : Nat} {c : Cx} {ops opsA : Array Oper} {Q : Exit → Act → World → Prop} {rest : List Oper} {l : Fr} {H : List Ent} {d : Nat} {d' : Option Nat} {ty t kt et rty : TypeId} {pos : String} {af : Array Edge} {g : Option (Nat × Bool)} {x y u : Operand} {K : Act → World → Prop} {cx : Code} {r : Rp}
variable {T : Type} {enc : T → Rp} {xs : List (Ai × T)} {z : T} {k : Ai} {zv : Value} {i b : Nat}
theorem UW.heap {Z:Fz}{w:World}(hf:P1 Z w){m:List (List UInt8×Rp)}{v:Value}(h:(UX m).p Z v):(v = .map none∧m=[])∨∃b,v = .map (some b)∧(Ent.map b m).holds Z w:=by
 rcases h with h | ⟨b,es,ck,h1,h2,h3⟩
 ·exact .inl h
 ·exact .inr ⟨b,h1,es,ck,hf b _ h2,h3⟩
end
def U7:Nat→Value
 | 0=>.nilFunc
 | k+1=>.func (.func (k+1)) #[] #[]
def MD (k:Nat):Rp:=⟨λ_ v=>v=U7 k,λ_ h=>h,true,λ_ Z v h=>by rw[h];cases k<;>rfl⟩
@[reducible] def Ij (k:Nat):List Rp:=[MD k]
theorem DU (k:Nat):(Ij k).length=1:=rfl
def HE {α:Type}(t:TypeId)(f:α→Rp):Option α→Rp
 | none=>rv .nilIface
 | some a=>Cu t (f a)
def Uh:TypeDesc→Bool
 | .interface _=>false
 | _=>true
section
variable {P : Program} {n : Nat} {c : Cx} {ops opsA : Array Oper} {Q : Exit → Act → World → Prop} {rest : List Oper} {l : Fr} {H Hr : List Ent} {d : Nat} {d' : Option Nat} {ty t kt et rty : TypeId} {pos : String} {af : Array Edge} {g : Option (Nat × Bool)} {x y : Operand} {r q : Rp}
theorem Ud {k:Nat}(hu:∃a b e,P.underlying t=some (.func a b e))(hx:ev l x=some (MD k)):Bj P n c l H { dst:=d',op:=.binOp .neq t x (.const .nilFunc) rty,type:=ty,pos:=pos,after:=af,guard:=g } (rB (!decide (k=0))):=λa w Z ha hw=>by
 obtain⟨a1,a2,a3,hu⟩:=hu;have h:a.eval x=U7 k:=ha.ev hx;have hy:a.eval (.const .nilFunc) = .nilFunc:=rfl;refine⟨_,rfl,?_⟩
 cases k with
 | zero=>
  have h1:∀dd:Nat,(Op.equalIn (dd+1) t .nilFunc .nilFunc).run P w = .ok true w:=λdd=>by simp[Op.equalIn,run_underlying hu]
  have h2:(Op.equal t .nilFunc .nilFunc).run P w = .ok true w:=h1 9999;simp[execOp,h,hy,U7,eqGuard,binOp,h2]
 | succ k=>
  have h1:∀dd:Nat,(Op.equalIn (dd+1) t (.func (.func (k+1)) #[] #[]) .nilFunc).run P w = .ok false w:=λdd=>by simp[Op.equalIn,run_underlying hu]
  have h2:(Op.equal t (.func (.func (k+1)) #[] #[]) .nilFunc).run P w = .ok false w:=h1 9999;simp[execOp,h,hy,U7,eqGuard,binOp,h2]
theorem DY {u:TypeDesc}(hu:P.underlying t=some u)(hni:Uh u=true)(hx:ev l x=some r):Bj P n c l H { dst:=d',op:=.makeInterface t x,type:=ty,pos:=pos,after:=af,guard:=g } (Cu t r):=λa w Z ha hw=>⟨.iface t (a.eval x),⟨_,rfl,ha.ev hx⟩,by
 cases u<;>first | (cases hni;done) | simp[execOp,Instr.makeInterface,run_underlying hu]⟩
theorem Up.ifo {α:Type}{f:α→Rp}{a:α}(h:Up H r (f a)):Up H (Cu t r) (HE t f (some a)):=λc Z w v hw ⟨u,e,hu⟩=>⟨u,e,h c Z w u hw hu⟩
theorem Pa {α:Type}{f:α→Rp}{o:Option α}(hu:∃ms,P.underlying kt=some (.interface ms))(hx:ev l x=some (HE t f o)):Bj P n c l H { dst:=d',op:=.binOp .eql kt x (.const .nilIface) rty,type:=ty,pos:=pos,after:=af,guard:=g } (rB o.isNone):=λa w Z ha hw=>by
 obtain⟨ms,hu⟩:=hu;have h:=ha.ev hx;have hy:a.eval (.const .nilIface) = .nilIface:=rfl;refine⟨_,rfl,?_⟩
 cases o with
 | none=>
  have h:a.eval x = .nilIface:=h;have h1:∀dd:Nat,(Op.equalIn (dd+1) kt .nilIface .nilIface).run P w = .ok true w:=λdd=>by simp[Op.equalIn,run_underlying hu]
  have h2:(Op.equal kt .nilIface .nilIface).run P w = .ok true w:=h1 9999;have h3:(eqGuard .eql kt x (.const .nilIface) .nilIface .nilIface).run P w = .ok () w:=by unfold eqGuard;simp
  simp[execOp,h,hy,h3,binOp,h2]
 | some b=>
  obtain⟨u,e,_⟩:=h;have h1:∀dd:Nat,(Op.equalIn (dd+1) kt (.iface t u) .nilIface).run P w = .ok false w:=λdd=>by simp[Op.equalIn,run_underlying hu]
  have h2:(Op.equal kt (.iface t u) .nilIface).run P w = .ok false w:=h1 9999;have h3:(eqGuard .eql kt x (.const .nilIface) (.iface t u) .nilIface).run P w = .ok () w:=by unfold eqGuard;simp
  simp[execOp,e,hy,h3,binOp,h2]
theorem PJ {α:Type}{f:α→Rp}{o:Option α}{d0:α}(h:o.isSome=true):DL (HE t f o) (Cu t (f (Option.getD o d0))):=λZ v hv=>by
 cases o with
 | none=>cases h
 | some b=>exact hv
theorem OS {f:FuncId}{name:String}{args:List Operand}{ats:Array TypeId}{o:Oper}{a:Act}{u:Value}(ho:o.op = .call { callee:=.invoke x name,args:=args.toArray,argTypes:=ats })(hx:a.eval x = .iface t u)
  (hm:∀v w,(method (P.types.size+Made.depth) t v name).run P w = .ok (f,v) w) (hcall:∀(as1:Array Value) (w:World),(callFunc f as1).run P w = .ok (.enter f as1) w) (w:World):(execOp a.eval o).run P w = .ok (.enter f (u::args.map a.eval).toArray) w:=by
 have h2:=hm u w;simp only[execOp,ho,resolve,hx];simp[invoke,callMethod,h2,hcall,List.take_of_length_le]
theorem Mp {f:FuncId}{name:String}{args:List Operand}{ats:Array TypeId}{rs:List Rp}{Hin Hr:List Ent}(hm:∀v w,(method (P.types.size+Made.depth) t v name).run P w = .ok (f,v) w)(hcall:∀(as1:Array Value) (w:World),(callFunc f as1).run P w = .ok (.enter f as1) w)
  (hx:ev l x=some (Cu t q)) (hp:H.Perm (Hin++Hr)) (hc:Fn P c.E f (q::rs) Hin (λr' H'=>r'=r∧H'=Hin)) (hv:IU l args=some rs) :
  Cz P n c opsA Q l H { dst:=some d,op:=.call { callee:=.invoke x name,args:=args.toArray,argTypes:=ats },type:=ty,pos:=pos,after:=af,guard:=none } r H:=λa w Z K ha hw hK=>
 ⟨λ_=>by
  obtain⟨u,e,hu⟩:=ha.ev hx;unfold Oper.wp;rw[OS rfl e hm hcall w];have hw2:=hw.perm hp;refine(hc w Z (u::args.map a.eval) ⟨hu,DD ha hv⟩ hw2.enter).mono ?_;rintro e w' ⟨r2,v,Ho,Z',rfl,⟨rfl,rfl⟩,hr2,hs⟩;exact hK v w' Z' hs.le hr2 ((hw2.call hs).perm hp.symm),λh=>by simp[Region.wanted] at h⟩
theorem JZ {α:Type}{ff:α→Rp}{o:Option α}{d0:α}{f:FuncId}{name:String}{args:List Operand}{ats:Array TypeId}{rs:List Rp}(hm:∀v w,(method (P.types.size+Made.depth) t v name).run P w = .ok (f,v) w)(hcall:∀(as1:Array Value) (w:World),(callFunc f as1).run P w = .ok (.enter f as1) w)
  (hx:ev l x=some (HE t ff o)) (hs:o.isSome=true) (hc:Jz P c.E f (ff (Option.getD o d0)::rs) r) (hv:IU l args=some rs) :
  Cz P n c opsA Q l H { dst:=some d,op:=.call { callee:=.invoke x name,args:=args.toArray,argTypes:=ats },type:=ty,pos:=pos,after:=af,guard:=none } r H:=λa w Z K ha hw hK=>
 ⟨λ_=>by
  obtain⟨u,e,hu⟩:=PJ (d0:=d0) hs Z _ (ha.ev hx);unfold Oper.wp;rw[OS rfl e hm hcall w];refine(hc w Z (u::args.map a.eval) ⟨hu,DD ha hv⟩ (St.enter (Hin:=[]) (Hr:=H) hw)).mono ?_;rintro e w' ⟨r2,v,Ho,Z',rfl,⟨rfl,rfl⟩,hr2,hs⟩;exact hK v w' Z' hs.le hr2 (by simpa using hw.call0 hs),λh=>by simp[Region.wanted] at h⟩
theorem UB {k:Nat}{args:List Operand}{ats:Array TypeId}{rs:List Rp}(hk:(!decide (k=0))=true)(hc:(∀(as1:Array Value) (w:World),(callFunc k as1).run P w = .ok (.enter k as1) w)∧Jz P c.E k rs r)(hx:ev l x=some (MD k))(hv:IU l args=some rs)(h:WL P n c ops Q rest ((d,r)::l) H)(hn:Nat.blt d n=true:=by rfl) :
  WL P n c ops Q ({ dst:=some d,op:=.call { callee:=.value x,args:=args.toArray,argTypes:=ats },type:=ty,pos:=pos,after:=af,guard:=none }::rest) l H:=by
 cases k with
 | zero=>cases hk
 | succ k=>
  have hk':(if k+1=0 then Value.nilFunc else .func (.func (k+1)) #[] #[]) = .func (.func (k+1)) #[] #[]:=by simp
  exact DQ (caps:=[]) (Hin:=[]) (Hr:=H) hc.1 (show ev l x=some (rv (.func (.func (k+1)) #[] ([]:List Value).toArray)) from hx) hv (Vi _) (by simpa using hc.2) hn (by rintro _ _ ⟨rfl,rfl⟩;exact h)
theorem RT {α:Type}{enc:α→List Rp}{inf:TypeInfo}{z:Value}{zα:α}{rz:Rp}{kl kc:IntKind}{m:Int}{bytes:Nat}{e:TypeId}(ht:P.underlying t=some (.slice e))(hinf:P.info? e=some inf)(hz:inf.zero=some z)(hsize:inf.size=1)(hby:inf.bytes=bytes)(hbp:Nat.blt 0 bytes=true)
  (hzc:z.cells = #[z]) (henc:enc zα=[rz]) (hrz:∀Z,rz.p Z z)
  (hx:ev l x=some (rI kl m)) (hy:ev l y=some (rI kc m)) (hg:DV bytes m.toNat=true) (hg0:decide (0≤m)=true) (hn:Nat.blt d n=true)
  (h:∀v',WL P n c ops Q rest ((d,rv v')::l) (.row v' e 1 ((List.replicate m.toNat zα).map enc)::H)) :
  WL P n c ops Q ({ dst:=some d,op:=.makeSlice t x y,type:=ty,pos:=pos,after:=af,guard:=none }::rest) l H:=by
 have em:((m.toNat:Nat):Int)=m:=Int.toNat_of_nonneg (of_decide_eq_true hg0);exact Ti (m:=m.toNat) ht hinf hz hsize hby hbp hzc henc hrz (by rw[em];exact hx) (by rw[em];exact hy) hg hn h
theorem Ls {r:Rp}(hx:ev l x=some (Cu t r)):Bj P n c l H { dst:=d',op:=.nilCheck x,type:=ty,pos:=pos,after:=af,guard:=g } (Cu t r):=λa w Z ha hw=>by
 have h:=ha.ev hx;obtain⟨u,e1,hu⟩:=h;exact⟨a.eval x,⟨u,e1,hu⟩,by simp[execOp,e1]⟩
theorem RY (s:List UInt8)(i:Nat){c:List Rp}(h:((D6 s).map BE)[i]? =some c):∃u,s[i]? =some u∧c=[rI .u8 (u.toNat:Int)]:=by
 simp only[D6,VL,Vs,Option.map_eq_some_iff] at h;obtain⟨u,h1,h2⟩:=h;exact⟨u,h1,h2.symm⟩
theorem St.s2b {Z:Fz}{w:World}(hw:St c H Z w)(s:List UInt8)(e:TypeId)(cap:Nat)(h1:s.length≤cap)(h2:cap≤maxLen)(mk:Nat×Nat) :
  ∃Z',Fz.le Z Z'∧St c H Z' (w.drew.alloc (.cells (bytesRow (B s) cap) e mk))∧(AC 1 ((D6 s).map BE)).p Z' (.slice (some ⟨w.heap.size,0,none⟩) s.length cap):=by
 let o:Obj:=.cells (bytesRow (B s) cap) e mk
 let w':World:=w.drew.alloc o
 let Z':Fz:=⟨λb=>if b=w.heap.size then some o else Z b,Z.nm⟩
 have hs:St c H Z w':=(hw.add (w':=w') (e':=.fact (.bool true) (rv (.bool true))) rfl rfl rfl (by show w.heap.size≤(w.heap.push o).size;simp) (λk hk=>Below.heap_alloc w.drew o k hk) rfl (by simp[Ent.foot])).sub (List.sublist_cons_self _ _);have ho:w'.heap[w.heap.size]? =some o:=by show(w.heap.push o)[w.heap.size]? =some o;simp
 have hgz:Z w.heap.size=none:=by
  cases hz:Z w.heap.size with
  | none=>rfl
  | some q=>have:=hw.frz.lt hz;omega
 have hle:Fz.le Z Z':=⟨λb q hb=>by
  have:b≠w.heap.size:=λe=>by subst e;rw[hgz] at hb;cases hb
  simpa[Z',this] using hb,λ_ _ _ h=>h⟩
 refine⟨Z',hle,?_,?_⟩
 ·refine { hs with has:=λen he=>Ent.keep (hs.has en he) hle λ_ _=>rfl,frz:=⟨λb q hb=>?_,hs.frz.nm⟩,gst:=hs.gst.names rfl,le:=hs.le.trans hle,new:=λb q hb=>?_,zdis:=λen he k hk=>?_,env:=hs.emono hle hs.env }
  ·by_cases hbg:b=w.heap.size
   ·subst hbg;simp[Z'] at hb;rw[← hb];exact ho
   ·simp[Z',hbg] at hb;exact hs.frz b q hb
  ·by_cases hbg:b=w.heap.size
   ·subst hbg;exact .inr (.inl hw.size)
   ·simp[Z',hbg] at hb;exact hs.new b q hb
  ·have:=hw.mem_lt he hk;have hkg:k≠w.heap.size:=by omega
   simp only[Z',hkg,VC];exact hs.zdis en he k hk
 ·refine⟨some ⟨w.heap.size,0,none⟩,cap,by simp[D6],by simpa[D6] using h1,h2,(λh=>by cases h),λi cl hi=>?_⟩;obtain⟨u,hu,rfl⟩:=RY s i hi;refine⟨rfl,⟨w.heap.size,0,none⟩,rfl,rfl,λj r hj=>?_⟩
  cases j with
  | succ j=>simp at hj
  | zero=>
   simp at hj;subst hj;refine⟨.int .u8 (u.toNat:Int),?_,rfl⟩;have hi':i<s.length:=(List.getElem?_eq_some_iff.1 hu).1;have he:s[i]=u:=(List.getElem?_eq_some_iff.1 hu).2;simp only[EW,Z',VH,o,bytesRow,B];rw[Array.getElem?_append_left (by simpa using hi')];simp[hi',he]
theorem TT {s:List UInt8}{e t':TypeId}(hs:P.underlying t=some .string)(hd:P.underlying t'=some (.slice e))(he:P.underlying e=some (.int .u8))(hx:ev l x=some (rS s))(hg:DV 1 s.length=true)(hn:Nat.blt d n=true)
  (h:WL P n c ops Q rest ((d,AC 1 ((D6 s).map BE))::l) H) :
  WL P n c ops Q ({ dst:=some d,op:=.convert t t' x,type:=ty,pos:=pos,after:=af,guard:=none }::rest) l H:=
 Gi (λa w Z ha hw=>by
  have hb:s.length≤140737488355328:=by simpa[DV] using hg
  have e1:=run_bytes_of_string (P:=P) w t t' e (B s) hs hd he;have hsz:(B s).size=s.length:=rfl;rw[hsz] at e1;obtain⟨Z',hz,h1,h2⟩:=St.s2b hw s e (grownCap w s.length 0 e) (grownCap_ge w s.length 0 e) (grownCap_le_maxLen w s.length 0 e (by have:maxLen=9223372036854775807:=rfl;omega)) ((bytesRow (B s) (grownCap w s.length 0 e)).size,(bytesRow (B s) (grownCap w s.length 0 e)).size+1);exact⟨_,_,_,_,Z',by simp[execOp,ha.eval hx,e1],hz,h2,h1,h⟩) hn
end
set_option maxRecDepth 100000
set_option maxHeartbeats 4000000
@[reducible] def ET (x:(List Ai)):List Rp:=[AC 1 (A1 eS x)]
theorem O6 (x:(List Ai)):(ET x).length=1:=rfl
@[reducible] def Ah (x:Af):List Rp:=[rB x.fAllow,AC 1 (A1 eS x.fActions),AC 1 (A1 eS x.fResources)]
theorem Du (x:Af):(Ah x).length=3:=rfl
theorem Ic (x:Af):(Ah x).all (·.one)=true:=rfl
@[reducible] def HP (x:BY):List Rp:=[rB x.fAllowed,Av x.fIndex]
@[reducible] def An (x:AS):List Rp:=[rB x.fAllow,Av x.fAddr,Av x.fBits,Av x.fLow,Av x.fHigh]
theorem Gh (x:AS):(An x).length=5:=rfl
theorem Js (x:AS):(An x).all (·.one)=true:=rfl
theorem Pe:∃inf,Tryz.prog.info? 9=some inf∧inf.zero=some (.string ⟨#[]⟩)∧inf.size=1∧inf.bytes=16:=by
  have key:(Tryz.prog.info? 9).map (λi=>(i.zero,i.size,i.bytes))=some (some (.string ⟨#[]⟩),1,16):=by kernel_rfl
  obtain⟨inf,h1,h2⟩:=Option.map_eq_some_iff.1 key;simp only[Prod.mk.injEq] at h2;exact⟨inf,h1,h2.1,h2.2.1,h2.2.2⟩
theorem Pv (parts:List (Nat×Value)):Tryz.prog.built 63 parts=Instr.fill (λi=>(#[(0,1),(1,1)]:Array (Nat×Nat))[i]?) #[(.bool false),(.int .i64 0)] parts:=by kernel_rfl
theorem HM {n:Nat}{c:Cx}{l:Fr}{H:List Ent}{d:Option Nat}{ty:TypeId}{pos:String}{af:Array Edge}{g:Option (Nat×Bool)}{x0:Operand}{r0:Rp}(h0:ev l x0=some r0)(u0:r0.one=true){x1:Operand}{r1:Rp}(h1:ev l x1=some r1)(u1:r1.one=true):Bj Tryz.prog n c l H { dst:=d,op:=.build 63 #[(0,x0),(1,x1)],type:=ty,pos:=pos,after:=af,guard:=g } (Bm [r0,r1]):=λa w Z ha _=>by
  have p0:=ha.ev h0;have c0:=AZ (r0.hone u0 Z _ p0);have p1:=ha.ev h1;have c1:=AZ (r1.hone u1 Z _ p1);have hb:Tryz.prog.built 63 [(0,a.eval x0),(1,a.eval x1)]=some #[a.eval x0,a.eval x1]:=by
    rw[Pv];generalize a.eval x0=v0 at *;generalize a.eval x1=v1 at *;simp[Instr.fill,c0,c1]
  refine⟨.agg #[a.eval x0,a.eval x1],⟨[a.eval x0,a.eval x1],rfl,p0,p1,trivial⟩,?_⟩;have:=run_build w 63 #[(0,a.eval x0),(1,a.eval x1)] _ (by simpa using hb);simp[execOp,this]
theorem JA {n:Nat}{c:Cx}{l:Fr}{H:List Ent}{d:Option Nat}{ty:TypeId}{pos:String}{af:Array Edge}{g:Option (Nat×Bool)}{x1:Operand}{r1:Rp}(h1:ev l x1=some r1)(u1:r1.one=true):Bj Tryz.prog n c l H { dst:=d,op:=.build 63 #[(1,x1)],type:=ty,pos:=pos,after:=af,guard:=g } (Bm [rB false,r1]):=λa w Z ha _=>by
  have p1:=ha.ev h1;have c1:=AZ (r1.hone u1 Z _ p1);have hb:Tryz.prog.built 63 [(1,a.eval x1)]=some #[(.bool false),a.eval x1]:=by
    rw[Pv];generalize a.eval x1=v1 at *;simp[Instr.fill,c1]
  refine⟨.agg #[(.bool false),a.eval x1],⟨[(.bool false),a.eval x1],rfl,rfl,p1,trivial⟩,?_⟩;have:=run_build w 63 #[(1,a.eval x1)] _ (by simpa using hb);simp[execOp,this]
theorem HI (s:Ai)(x:Ai)(r:Bool)(h:EA s x=some r):Fn Tryz.prog GE 230 [rS s,rS x] [] (λR H=>R=rB r∧H=[]):=by
 refine enter (n:=21) Tryz.func230 Aa Tryz.ntmps230 Aa (λw Z=>?_);unfold EA at h;refine Ae (wa Aa (Aj (ck h λg1 h2=>ck h2 λg3 h4=>AG [(4,rB ((decide ((x.length:Int)≤(s.length:Int)))&&(decide ((List.drop (BK ((s.length:Int)-(x.length:Int))) s)=x))))] [] ?_ ?_)))
 ·refine Al (wm Aa (wv (B9 CN Aa) (wm Aa (wv (B9 CN Aa) (wv (DZ Aa Aa) (wm Aa (AT (decide ((x.length:Int)≤(s.length:Int))) (λc5=>?_) (λc5=>?_))))))))
  ·refine wo c5 (wm Aa (wo c5 (wm Aa (wo c5 (wv (B9 CN Aa) (wo c5 (wm Aa (wo c5 (wv (B9 CN Aa) (wo c5 (wv (Ew Aa Aa (BV g1 c5)) (wo c5 (wv (Ds CN Aa Aa (BV g3 c5)) (wo c5 (wm Aa (wo c5 (wv (Cc Aa Aa) (E7 Aa c5 Aa (wa Aa (Ar ?_))))))))))))))))))));exact Cl c5
  refine wf c5 (wf c5 (wf c5 (wf c5 (wf c5 (wf c5 (wf c5 (wf c5 (wf c5 (wv (r:=rB false) (Ay Aa c5 Aa) (wa Aa (Ar ?_)))))))))));exact Cl c5
 refine Ao ?_;obtain rfl:=Aq h4;exact Ap (B1 Tryz.results230 (AF Aa)) sN ⟨Aa,Aa⟩
theorem K3 (s:Ai)(x:Ai)(r:Ai)(h:Gr s x=some r):Fn Tryz.prog GE 229 [rS s,rS x] [] (λR H=>R=rS r∧H=[]):=by
 refine enter (n:=16) Tryz.func229 Aa Tryz.ntmps229 Aa (λw Z=>?_);unfold Gr at h;refine Ae (wv (r:=rS ([]:Ai)) (A3 Aa) (Aj (Ak (Ae (wm Aa (wm Aa (ob h λr1 e3 h2=>BU Tryz.call230 (HI s x r1 e3) Aa (Aj (cz h2 Aa (λc4 h5=>?_) (λc4 ha=>?_))))))))))
 ·refine Ae (wm Aa (wm Aa (wv (B9 CN Aa) (wm Aa (wv (B9 CN Aa) (ck h5 λg6 h7=>wv (Ew Aa Aa g6) (ck h7 λg8 h9=>wv (Ex CN Aa Aa g8) (wa Aa (Aj (Ao (Ab ?_)))))))))));obtain rfl:=Aq h9;exact Ap (B1 Tryz.results229 (AF Aa)) sN ⟨Aa,Aa⟩
 refine A0 (AO (Ae (wm Aa (wa Aa (Aj (Ao ?_))))));obtain rfl:=Aq ha;exact Ap (B1 Tryz.results229 (AF Aa)) sN ⟨Aa,Aa⟩
theorem N1 (s:Ai)(x:Ai)(r:Bool)(h:Jn s x=some r):Fn Tryz.prog GE 202 [rS s,rS x] [] (λR H=>R=rB r∧H=[]):=by
 refine enter (n:=8) Tryz.func202 Aa Tryz.ntmps202 Aa (λw Z=>?_);unfold Jn at h;refine Ae (wa Aa (Bc (wm Aa (wm Aa (ob h λr1 e3 h2=>BU Tryz.call230 (HI s x r1 e3) Aa (wa Aa (Aj (Ao ?_))))))));obtain rfl:=Aq h2;exact Ap (B1 Tryz.results202 (AF Aa)) sN ⟨Aa,Aa⟩
theorem Mg (s:Ai)(x:Ai)(r:Ai)(h:HV s x=some r):Fn Tryz.prog GE 201 [rS s,rS x] [] (λR H=>R=rS r∧H=[]):=by
 refine enter (n:=8) Tryz.func201 Aa Tryz.ntmps201 Aa (λw Z=>?_);unfold HV at h;refine Ae (wv (r:=rS ([]:Ai)) (A3 Aa) (Bc (wm Aa (wm Aa (ob h λr1 e3 h2=>BU Tryz.call229 (K3 s x r1 e3) Aa (wa Aa (Aj (Ao ?_))))))));obtain rfl:=Aq h2;exact Ap (B1 Tryz.results201 (AF Aa)) sN ⟨Aa,Aa⟩
theorem LN (s:Ai)(r:Ai)(h:Dm s=some r):Fn Tryz.prog GE 174 [rS s] [] (λR H=>R=rS r∧H=[]):=by
 refine enter (n:=5) Tryz.func174 Aa Tryz.ntmps174 Aa (λw Z=>?_);unfold Dm at h;refine Ae (wv (r:=rS ([]:Ai)) (A3 Aa) (Bc (wm Aa (ob h λr1 e3 h2=>BU Tryz.call201 (Mg s ([42]:Ai) r1 e3) Aa (wa Aa (Aj (Ao ?_)))))));obtain rfl:=Aq h2;exact Ap (B1 Tryz.results174 (AF Aa)) sN ⟨Aa,Aa⟩
theorem Ph (s:Ai)(r:Bool)(h:JC s=some r):Fn Tryz.prog GE 175 [rS s] [] (λR H=>R=rB r∧H=[]):=by
 refine enter (n:=5) Tryz.func175 Aa Tryz.ntmps175 Aa (λw Z=>?_);unfold JC at h;refine Ae (wa Aa (Bc (wm Aa (ob h λr1 e3 h2=>BU Tryz.call202 (N1 s ([42]:Ai) r1 e3) Aa (wa Aa (Aj (Ao ?_)))))));obtain rfl:=Aq h2;exact Ap (B1 Tryz.results175 (AF Aa)) sN ⟨Aa,Aa⟩
theorem KO (s:Ai)(r:Bool)(h:ID s=some r):Fn Tryz.prog GE 126 [rS s] [] (λR H=>R=rB r∧H=[]):=by
 refine enter (n:=23) Tryz.func126 Aa Tryz.ntmps126 Aa (λw Z=>?_);unfold ID at h;refine Ae (wa Aa (Aj (ck h λg1 h2=>ck h2 λg3 h4=>AG [(2,rB ((Lm s)||((decide (s=([42]:Ai)))||((Lm (ov (Dm s)))&&((ov (JC s))&&(decide ((s.length:Int)≤64)))))))] [] ?_ ?_)))
 ·refine Al (wm Aa (BQ (rs:=[rS s]) (r:=rB (Lm s)) Tryz.call115 Aa (SB s) Aa Aa (wm Aa (AT (Lm s) (λc5=>?_) (λc5=>?_)))))
  ·refine wf c5 (wf c5 (wv (r:=rB true) (A8 Aa c5 Aa) (wm Aa (wz Aa Aa (wz Aa Aa (wz Aa Aa (wz Aa Aa (wu (wu (wz Aa Aa (wz Aa Aa (wu (wu (wu (wz Aa Aa (wv (r:=rB true) (A8 (b:=true) Aa Aa Aa) (wa Aa (Ar ?_))))))))))))))))));exact Cl c5
  refine wo c5 (wm Aa (wo c5 (wv (Cc Aa Aa) (Ks Aa c5 Aa (wm Aa (AT (decide (s=([42]:Ai))) (λc6=>?_) (λc6=>?_)))))))
  ·refine wf c6 (wf c6 (wf c6 (wf c6 (wu (wu (wf c6 (wf c6 (wu (wu (wu (wf c6 (wv (r:=rB true) (A8 Aa c6 Aa) (wa Aa (Ar ?_))))))))))))));exact Cl (And.intro c5 c6)
  refine wo c6 (wm Aa (wo c6 (BU Tryz.call174 (LN s (ov (Dm s)) (D5 (Ee (Ee g1 c5) c6))) Aa (wo c6 (BQ (rs:=[rS (ov (Dm s))]) (r:=rB (Lm (ov (Dm s)))) Tryz.call115 Aa (SB (ov (Dm s))) Aa Aa (wo c6 (wm Aa (AT (Lm (ov (Dm s))) (λc7=>?_) (λc7=>?_)))))))))
  ·refine wo c7 (wm Aa (wo c7 (BU Tryz.call175 (Ph s (ov (JC s)) (D5 (BV (Ee (Ee g3 c5) c6) c7))) Aa (wo c6 (E7 Aa c7 Aa (wo c6 (wm Aa (AT ((ov (JC s))) (λc8=>?_) (λc8=>?_)))))))))
   ·refine wo c8 (wm Aa (wo c8 (wv (B9 CN Aa) (wo c8 (wv (HY Aa Aa) (wo c6 (E7 Aa c8 Aa (Ks Aa c6 Aa (wa Aa (Ar ?_))))))))));exact Cl (And.intro c5 (And.intro c6 (And.intro c7 c8)))
   refine wf c8 (wf c8 (wf c8 (wo c6 (wv (r:=rB false) (Ay Aa c8 Aa) (Ks Aa c6 Aa (wa Aa (Ar ?_)))))));exact Cl (And.intro c5 (And.intro c6 (And.intro c7 c8)))
  refine wf c7 (wf c7 (wo c6 (wv (r:=rB false) (Ay Aa c7 Aa) (wo c6 (wm Aa (wz Aa Aa (wz Aa Aa (wz Aa Aa (wo c6 (wv (r:=rB false) (Ay (b:=false) Aa Aa Aa) (Ks Aa c6 Aa (wa Aa (Ar ?_)))))))))))));exact Cl (And.intro c5 (And.intro c6 c7))
 refine Ao ?_;obtain rfl:=Aq h4;exact Ap (B1 Tryz.results126 (AF Aa)) sN ⟨Aa,Aa⟩
theorem Oy (q:Ai)(s:Ai)(r:Bool)(h:KP q s=some r):Fn Tryz.prog GE 128 [rS q,rS s] [] (λR H=>R=rB r∧H=[]):=by
 refine enter (n:=17) Tryz.func128 Aa Tryz.ntmps128 Aa (λw Z=>?_);unfold KP at h;refine Ae (wa Aa (Aj (Ak (Ae (wm Aa (ob h λr1 e3 h2=>BU Tryz.call126 (KO q r1 e3) Aa (wv (BT Aa) (Aj (cz h2 Aa (λc4 h5=>?_) (λc4 h6=>?_))))))))))
 ·refine Ae (wa Aa (Aj (Ao (Ab ?_))));obtain rfl:=Aq h5;exact Ap (B1 Tryz.results128 (AF Aa)) sN ⟨Aa,Aa⟩
 refine A0 (AO (Ak (Ae (wm Aa (ob h6 λr7 e9 h8=>BU Tryz.call175 (Ph q r7 e9) Aa (Aj (cz h8 Aa (λhb hc=>?_) (λhb hd=>?_))))))))
 ·refine Ae (wm Aa (wm Aa (ob hc λha he hf=>BU Tryz.call174 (LN q ha he) Aa (ob hf λhg hh hi=>BU Tryz.call176 (JD s ha hg hh) Aa (wa Aa (Aj (Ao (Ab ?_))))))));obtain rfl:=Aq hi;exact Ap (B1 Tryz.results128 (AF Aa)) sN ⟨Aa,Aa⟩
 refine A0 (AO (Ae (wm Aa (wm Aa (wv (Cc Aa Aa) (wa Aa (Aj (Ao ?_))))))));obtain rfl:=Aq hd;exact Ap (B1 Tryz.results128 (AF Aa)) sN ⟨Aa,Aa⟩
theorem Ro (F:Nat)(a:(List Ai))(b:(List Ai))(r:Bool)(h:Oz F a b=some r):Fn Tryz.prog GE 18 [AC 1 (A1 eS a),AC 1 (A1 eS b)] [] (λR H=>R=rB r∧H=[]):=by
 refine enter (n:=26) Tryz.func18 Aa Tryz.ntmps18 Aa (λw Z=>?_);unfold Oz at h;refine Ae (wa Aa (Aj (Ak (Ae (wm Aa (wv (Bi (ys:=a) (enc:=eS) Cp Aa) (wm Aa (wv (Bi (ys:=b) (enc:=eS) Cp Aa) (wv (Cs Aa Aa) (Aj (cz h Aa (λc1 h2=>?_) (λc1 h3=>?_))))))))))))
 ·refine Ae (wa Aa (Aj (Ao (Ab ?_))));obtain rfl:=Aq h2;exact Ap (B1 Tryz.results18 (AF Aa)) sN ⟨Aa,Aa⟩
 refine A0 (AO (Ak (Ae (wa Aa (Aj (AE (ob h3 λhf hg hd=>Bx (S:=Nat×(Int)×(Unit)) (V:=(Unit)×(Unit)) 0 (λσ=>CW (λσ=>Hy a b σ) σ.1 σ.2.1=some hf) (λσ=>[(0,AC 1 (A1 eS a)),(1,AC 1 (A1 eS b)),(5,Av σ.2.1)]) (λσ=>[]) (λσ=>σ.1) (F,0,()) hg (AL.c Aa (AL.c Aa (AL.c Aa AL.nil))) sN (λσ=>Hx =some r) (λσ=>[]) (λσ=>[]) ?_ ?_)))))))
 ·rintro⟨hz,he,⟨⟩⟩ hh;refine GL ?_;obtain⟨hi,rfl,hj,ha,hc⟩:=Ck hh;replace ha:Hy a b he=some hj:=ha;unfold Hy at ha;refine Ak (Ae (wm Aa (wm Aa (wv (Bi (ys:=a) (enc:=eS) Cp Aa) (wv (C9 Aa Aa) (Aj (cz ha Aa (λhk hl=>?_) (λhk hm=>?_))))))))
  ·refine A0 (AO (Ak (AE (Ak (ck hl λhn ho=>ck ho λhp hq=>CR [0,1,5] ?_)))));refine rq (Am Aa) (rq (Am Aa) (rq (Bs (enc:=eS) (ys:=a) Cp CC Aa Aa hn) (rq (Bh DO Aa Aa) (rq (Am Aa) (rq (Am Aa) (rq (Bs (enc:=eS) (ys:=b) Cp CC Aa Aa hp) (rq (Bh DO Aa Aa) (rq (J8 Aa Aa) (re [25,0,1,5] ?_)))))))));refine AO (cz hq Aa (λhr hs=>?_) (λhr ht=>?_))
   ·refine Ae (wa Aa (Aj (Ao (Ax (Ab (Ab (Bo ?_)))))));have hu:=BB hs hc hd;refine Ax (Ab ?_);obtain rfl:=Aq hu;exact Ap (B1 Tryz.results18 (AF Aa)) sN ⟨Aa,Aa⟩
   refine A0 (AH (AO (Al (wm Aa (ck ht λhv hw=>wv (B3 Aa Aa hv) (wa Aa (Ar ?_)))))));have hx:=Bw hw hc;exact A2 (AN (hi,he+1,()) ⟨hx,Vk _⟩ (AL.c Aa (AL.c Aa (AL.c Aa AL.nil))) sN)
  refine Bt (Aw ?_);have hy:=BJ hm hc hd;exact Aw (Bf (AN ((),()) hy AL.nil sN))
 rintro⟨⟨⟩,⟨⟩⟩ hb;refine Hi ?_;replace hb:Hx =some r:=hb;unfold Hx at hb;refine Bb (AO (Ae (wa Aa (Aj (Ao ?_)))));obtain rfl:=Aq hb;exact Ap (B1 Tryz.results18 (AF Aa)) sN ⟨Aa,Aa⟩
theorem Ol (x:Ai)(r:Bool)(h:KC x=some r):Fn Tryz.prog GE 125 [rS x] [] (λR H=>R=rB r∧H=[]):=by
 refine enter (n:=6) Tryz.func125 Aa Tryz.ntmps125 Aa (λw Z=>?_);unfold KC at h;refine Ae (wa Aa (Bc (wm Aa (ob h λr1 e3 h2=>BU Tryz.call126 (KO x r1 e3) Aa (wv (BT Aa) (wa Aa (Aj (Ao ?_))))))));obtain rfl:=Aq h2;exact Ap (B1 Tryz.results125 (AF Aa)) sN ⟨Aa,Aa⟩
theorem PM (ha:Nat)(x:Ai)(s:Ai)(r:Bool)(h:Mm x s=some r):Fn Tryz.prog GE 127 [rS x,rP ha 0] [.blk ha [rS s] 9] (λR H=>R=rB r∧H=[.blk ha [rS s] 9]):=by
 refine enter (n:=7) Tryz.func127 Aa Tryz.ntmps127 Aa (λw Z=>?_);unfold Mm at h;refine Ae (wa Aa (Bc (wm Aa (vL 0 DO Aa (ob h λr1 e3 h2=>BU Tryz.call128 (Oy x s r1 e3) Aa (wa Aa (Aj (Ao ?_))))))));obtain rfl:=Aq h2;exact Ap (B1 Tryz.results127 (AF Aa)) (sC sN) ⟨Aa,Aa⟩
theorem S6 (F:Nat)(ys:(List Ai))(r:Int)(h:Rj F ys=some r):Fn Tryz.prog GE 173 [AC 1 (A1 eS ys),rv (.func (.func 125) #[] #[])] [] (λR H=>R=Av r∧H=[]):=by
 refine enter (n:=19) Tryz.func173 Aa Tryz.ntmps173 Aa (λw Z=>?_);unfold Rj at h;refine Ae (wa Aa (Aj (Ak (Ae (wm Aa (wv (Bi (ys:=ys) (enc:=eS) Cp Aa) (wv (r:=Av 0) (Am Aa) (Aj (AE (ob h λhf hg he=>Bx (S:=Nat×(Int)×(Unit)) (V:=(Unit)×(Unit)) 0 (λσ=>CW (λσ=>IA ys σ) σ.1 σ.2.1=some hf) (λσ=>[(0,AC 1 (A1 eS ys)),(1,rv (.func (.func 125) #[] #[])),(7,Av (ys.length:Int)),(8,Av σ.2.1)]) (λσ=>[]) (λσ=>σ.1) (F,0,()) hg (AL.c Aa (AL.c Aa (AL.c Aa (AL.c Aa AL.nil)))) sN (λσ=>I9 =some r) (λσ=>[]) (λσ=>[]) ?_ ?_))))))))))
 ·rintro⟨h0,ha,⟨⟩⟩ hh;refine GL ?_;obtain⟨hi,rfl,hj,hb,hd⟩:=Ck hh;replace hb:IA ys ha=some hj:=hb;unfold IA at hb;refine Ae (wv (C9 Aa Aa) (Aj (Ak (cz hb Aa (λhk hl=>?_) (λhk hm=>?_)))))
  ·refine A0 (AO (Ak (AE (Ae (wm Aa (wa Aa (Bc (wm Aa (wm Aa (wm Aa (ck hl λhn ho=>wv (Bs (enc:=eS) (ys:=ys) Cp CC Aa Aa hn) (wv (Bh DO Aa Aa) (ob ho λhp hq hr=>DQ (rs:=[rS (Au ys ha)]) (Hin:=[]) (Hr:=[]) Tryz.call125 Aa Aa (Vi _) (Ol (Au ys ha) hp hq) Aa ?_)))))))))))));rintro _ _ ⟨rfl,rfl⟩;refine Aj (cz hr Aa (λhs ht=>?_) (λhs hu=>?_))
   ·refine Ae (wm Aa (wa Aa (Aj (Ao (Ax (Ab (Ab (Bo ?_))))))));have hv:=BB ht hd he;refine Ax (Ab ?_);obtain rfl:=Aq hv;exact Ap (B1 OI (AF Aa)) sN ⟨Aa,Aa⟩
   refine A0 (AH (AO (Al (ck hu λhw hx=>wv (B3 Aa Aa hw) (wm Aa (Ar ?_))))));have hy:=Bw hx hd;exact A2 (AN (hi,ha+1,()) ⟨hy,Vk _⟩ (AL.c Aa (AL.c Aa (AL.c Aa (AL.c Aa AL.nil)))) sN)
  refine Bt (Aw ?_);have hz:=BJ hm hd he;exact Aw (Bf (AN ((),()) hz AL.nil sN))
 rintro⟨⟨⟩,⟨⟩⟩ hc;refine Hi ?_;replace hc:I9 =some r:=hc;unfold I9 at hc;refine Bb (AO (Ae (wv (r:=Av (-1)) (A3 Aa) (Aj (Ao ?_)))));obtain rfl:=Aq hc;exact Ap (B1 OI (AF Aa)) sN ⟨Aa,Aa⟩
theorem Rq (F:Nat)(ys:(List Ai))(r:Bool)(h:O0 F ys=some r):Fn Tryz.prog GE 124 [AC 1 (A1 eS ys),rv (.func (.func 125) #[] #[])] [] (λR H=>R=rB r∧H=[]):=by
 refine enter (n:=9) Tryz.func124 Aa Tryz.ntmps124 Aa (λw Z=>?_);unfold O0 at h;refine Ae (wa Aa (Bc (wm Aa (wm Aa (ob h λr1 e3 h2=>BU Tryz.call173 (S6 F ys r1 e3) Aa (wv (DZ Aa Aa) (wa Aa (Aj (Ao ?_)))))))));obtain rfl:=Aq h2;exact Ap (B1 Tryz.results124 (AF Aa)) sN ⟨Aa,Aa⟩
theorem Rf (F:Nat)(ha:Nat)(ys:(List Ai))(s:Ai)(r:Int)(h:Ov F ys s=some r):Fn Tryz.prog GE 173 [AC 1 (A1 eS ys),rv (.func (.func 127) #[] #[(.pointer (some ⟨ha,0,none⟩))])] [.blk ha [rS s] 9] (λR H=>R=Av r∧H=[.blk ha [rS s] 9]):=by
 refine enter (n:=19) Tryz.func173 Aa Tryz.ntmps173 Aa (λw Z=>?_);unfold Ov at h;refine Ae (wa Aa (Aj (Ak (Ae (wm Aa (wv (Bi (ys:=ys) (enc:=eS) Cp Aa) (wv (r:=Av 0) (Am Aa) (Aj (AE (ob h λhg hh hf=>Bx (S:=Nat×(Int)×(Unit)) (V:=(Unit)×(Unit)) 0 (λσ=>CW (λσ=>Ht ys s σ) σ.1 σ.2.1=some hg) (λσ=>[(0,AC 1 (A1 eS ys)),(1,rv (.func (.func 127) #[] #[(.pointer (some ⟨ha,0,none⟩))])),(7,Av (ys.length:Int)),(8,Av σ.2.1)]) (λσ=>[.blk ha [rS s] 9]) (λσ=>σ.1) (F,0,()) hh (AL.c Aa (AL.c Aa (AL.c Aa (AL.c Aa AL.nil)))) (sC sN) (λσ=>Hq =some r) (λσ=>[]) (λσ=>[.blk ha [rS s] 9]) ?_ ?_))))))))))
 ·rintro⟨h1,hb,⟨⟩⟩ hi;refine GL ?_;obtain⟨hj,rfl,hk,hc,he⟩:=Ck hi;replace hc:Ht ys s hb=some hk:=hc;unfold Ht at hc;refine Ae (wv (C9 Aa Aa) (Aj (Ak (cz hc Aa (λhl hm=>?_) (λhl hn=>?_)))))
  ·refine A0 (AO (Ak (AE (Ae (wm Aa (wa Aa (Bc (wm Aa (wm Aa (wm Aa (ck hm λho hp=>wv (Bs (enc:=eS) (ys:=ys) Cp CC Aa Aa ho) (wv (Bh DO Aa Aa) (ob hp λhq hr hs=>DQ (rs:=[rS (Au ys hb)]) (Hin:=[.blk ha [rS s] 9]) (Hr:=[]) Tryz.call127 Aa Aa (Vi _) (PM ha (Au ys hb) s hq hr) Aa ?_)))))))))))));rintro _ _ ⟨rfl,rfl⟩;refine Aj (cz hs Aa (λht hu=>?_) (λht hv=>?_))
   ·refine Ae (wm Aa (wa Aa (Aj (Ao (Ax (Ab (Ab (Bo ?_))))))));have hw:=BB hu he hf;refine Ax (Ab ?_);obtain rfl:=Aq hw;exact Ap (B1 OI (AF Aa)) (sC sN) ⟨Aa,Aa⟩
   refine A0 (AH (AO (Al (ck hv λhx hy=>wv (B3 Aa Aa hx) (wm Aa (Ar ?_))))));have hz:=Bw hy he;exact A2 (AN (hj,hb+1,()) ⟨hz,Vk _⟩ (AL.c Aa (AL.c Aa (AL.c Aa (AL.c Aa AL.nil)))) (sC sN))
  refine Bt (Aw ?_);have h0:=BJ hn he hf;exact Aw (Bf (AN ((),()) h0 AL.nil (sC sN)))
 rintro⟨⟨⟩,⟨⟩⟩ hd;refine Hi ?_;replace hd:Hq =some r:=hd;unfold Hq at hd;refine Bb (AO (Ae (wv (r:=Av (-1)) (A3 Aa) (Aj (Ao ?_)))));obtain rfl:=Aq hd;exact Ap (B1 OI (AF Aa)) (sC sN) ⟨Aa,Aa⟩
theorem PX (F:Nat)(ha:Nat)(ys:(List Ai))(s:Ai)(r:Bool)(h:Ms F ys s=some r):Fn Tryz.prog GE 124 [AC 1 (A1 eS ys),rv (.func (.func 127) #[] #[(.pointer (some ⟨ha,0,none⟩))])] [.blk ha [rS s] 9] (λR H=>R=rB r∧H=[.blk ha [rS s] 9]):=by
 refine enter (n:=9) Tryz.func124 Aa Tryz.ntmps124 Aa (λw Z=>?_);unfold Ms at h;refine Ae (wa Aa (Bc (wm Aa (wm Aa (ob h λr1 e3 h2=>EP [0] Tryz.call173 (Rf F ha ys s r1 e3) ?_)))));rintro _ _ ⟨rfl,rfl⟩;refine wv (DZ Aa Aa) (wa Aa (Aj (Ao ?_)));obtain rfl:=Aq h2;exact Ap (B1 Tryz.results124 (AF Aa)) (sC sN) ⟨Aa,Aa⟩
theorem LF (F:Nat)(s:Af)(r:Int)(h:DS F s=some r):Fn Tryz.prog GE 74 [Bm (Ah s)] [] (λR H=>R=Av r∧H=[]):=by
 refine enter (n:=37) Tryz.func74 Aa Tryz.ntmps74 Aa (λw Z=>?_);unfold DS at h;refine Ae (BC Aa Aa (λb1=>?_));refine wa Aa (Bc (vF EX Aa C6 (vL 0 Et Aa (vF EX Aa C6 (vL 0 Et Aa (AQ (ys:=([s.fActions,s.fResources]:List (List Ai))) (enc:=ET) (css:=[[AC 1 (A1 eS s.fActions)],[AC 1 (A1 eS s.fResources)]]) (xs:=[.tmp 9,.tmp 11]) ML C6 Tryz.zeroValue22 Aa Aa Aa ⟨Dw.one Aa (Up.refl _),Dw.one Aa (Up.refl _),trivial⟩ Aa O6 Aa Aa Aa (λb2=>?_)))))));refine wa Aa (Aj (Ak (Ae (wm Aa (wv (Cn (ys:=([s.fActions,s.fResources]:List (List Ai))) (enc:=ET) (i:=0) ML Aa Aa) (wv (r:=Av 0) (Am Aa) (Aj (AE (ob h λhn ho hj=>Bx (S:=Nat×(Int)×(Unit)) (V:=(Unit)×(Unit)) 0 (λσ=>CW (λσ=>Gw s σ) σ.1 σ.2.1=some hn) (λσ=>[(3,rv (.slice (some ⟨b2,0,none⟩) 2 2)),(13,rv (.slice (some ⟨b2,0,none⟩) 2 2)),(14,Av (([s.fActions,s.fResources]:List (List Ai)).length:Int)),(15,Av σ.2.1)]) (λσ=>[.row (.slice (some ⟨b2,0,none⟩) 2 2) 22 1 (A1 ET ([s.fActions,s.fResources]:List (List Ai)))]) (λσ=>σ.1) (F,0,()) ho (AL.c Aa (AL.c Aa (AL.c Aa (AL.c Aa AL.nil)))) (sC (sS sN)) (λσ=>Gu F s =some r) (λσ=>[(3,rv (.slice (some ⟨b2,0,none⟩) 2 2))]) (λσ=>[.row (.slice (some ⟨b2,0,none⟩) 2 2) 22 1 (A1 ET ([s.fActions,s.fResources]:List (List Ai)))]) ?_ ?_)))))))))
 ·rintro⟨hO,ha,⟨⟩⟩ hp;refine GL ?_;obtain⟨hq,rfl,hr,hd,hh⟩:=Ck hp;replace hd:Gw s ha=some hr:=hd;unfold Gw at hd;refine Ae (wv (C9 Aa Aa) (Aj (Ak (cz hd Aa (λhs ht=>?_) (λhs hu=>?_)))))
  ·refine A0 (AO (Ak (AE (Ae (ck ht λhk hv=>wv (r:=rv (Dg 1 (.slice (some ⟨b2,0,none⟩) 2 2) (BK ha) 0)) (CU (i:=0) ML C6 Aa Aa Aa (Bu hk)) (wv (r:=AC 1 (A1 eS (Au ([s.fActions,s.fResources]:List (List Ai)) ha))) (Ez (enc:=ET) (ys:=([s.fActions,s.fResources]:List (List Ai))) (i:=0) (j:=ha) Et Aa Aa hk Aa) (wa Aa (Aj (AG [(3,rv (.slice (some ⟨b2,0,none⟩) 2 2)),(13,rv (.slice (some ⟨b2,0,none⟩) 2 2)),(14,Av (([s.fActions,s.fResources]:List (List Ai)).length:Int)),(15,Av ha),(26,rB ((decide (((Au ([s.fActions,s.fResources]:List (List Ai)) ha).length:Int)<1))||(decide (8<((Au ([s.fActions,s.fResources]:List (List Ai)) ha).length:Int)))))] [.row (.slice (some ⟨b2,0,none⟩) 2 2) 22 1 (A1 ET ([s.fActions,s.fResources]:List (List Ai)))] ?_ ?_)))))))))
   ·refine Al (wm Aa (wv (Bi (ys:=Au ([s.fActions,s.fResources]:List (List Ai)) ha) (enc:=eS) Cp Aa) (wv (C9 Aa Aa) (wm Aa (AT (decide (((Au ([s.fActions,s.fResources]:List (List Ai)) ha).length:Int)<1)) (λhb=>?_) (λhb=>?_))))))
    ·refine wf hb (wf hb (wf hb (wv (r:=rB true) (A8 Aa hb Aa) (Ar ?_))));exact Cl hb
    refine wo hb (wm Aa (wo hb (wv (Bi (ys:=Au ([s.fActions,s.fResources]:List (List Ai)) ha) (enc:=eS) Cp Aa) (wo hb (wv (Ei Aa Aa) (Ks Aa hb Aa (Ar ?_)))))));exact Cl hb
   refine cz hv Aa (λhw hx=>?_) (λhw hy=>?_)
   ·refine Ae (wa Aa (Aj (Ao (Ax (Ab (Ab (Bo ?_)))))));have hz:=BB hx hh hj;refine Ax (Ab ?_);obtain rfl:=Aq hz;exact Ap (B1 Tryz.results74 (AF Aa)) (sS sN) ⟨Aa,Aa⟩
   refine A0 (AH (AO (Al (ck hy λh0 h1=>wv (B3 Aa Aa h0) (wm Aa (Ar ?_))))));have h2:=Bw h1 hh;exact A2 (AN (hq,ha+1,()) ⟨h2,Vk _⟩ (AL.c Aa (AL.c Aa (AL.c Aa (AL.c Aa AL.nil)))) (sC sN))
  refine Bt (Aw ?_);have h3:=BJ hu hh hj;exact Aw (Bf (AN ((),()) h3 (AL.c Aa AL.nil) (sC sN)))
 rintro⟨⟨⟩,⟨⟩⟩ he;refine Hi ?_;replace he:Gu F s =some r:=he;unfold Gu at he;refine Bb (AO (Ak (Ae (wm Aa (wv (Cn (ys:=([s.fActions,s.fResources]:List (List Ai))) (enc:=ET) (i:=0) ML Aa Aa) (wv (r:=Av 0) (Am Aa) (Aj (AE (ob he λh4 h5 hl=>Bx (S:=Nat×(Int)×(Unit)) (V:=(Unit)×(Unit)) 2 (λσ=>CW (λσ=>Gv F s σ) σ.1 σ.2.1=some h4) (λσ=>[(28,rv (.slice (some ⟨b2,0,none⟩) 2 2)),(29,Av (([s.fActions,s.fResources]:List (List Ai)).length:Int)),(30,Av σ.2.1)]) (λσ=>[.row (.slice (some ⟨b2,0,none⟩) 2 2) 22 1 (A1 ET ([s.fActions,s.fResources]:List (List Ai)))]) (λσ=>σ.1) (F,0,()) h5 (AL.c Aa (AL.c Aa (AL.c Aa AL.nil))) (sC sN) (λσ=>Gt =some r) (λσ=>[]) (λσ=>[]) ?_ ?_)))))))))
 ·rintro⟨hP,hc,⟨⟩⟩ h6;refine GL ?_;obtain⟨h7,rfl,h8,hf,hi⟩:=Ck h6;replace hf:Gv F s hc=some h8:=hf;unfold Gv at hf;refine Ae (wv (C9 Aa Aa) (Aj (Ak (cz hf Aa (λh9 hA=>?_) (λh9 hB=>?_)))))
  ·refine A0 (AO (Ak (AE (Ae (ck hA λhm hC=>wv (r:=rv (Dg 1 (.slice (some ⟨b2,0,none⟩) 2 2) (BK hc) 0)) (CU (i:=0) ML C6 Aa Aa Aa (Bu hm)) (wv (r:=AC 1 (A1 eS (Au ([s.fActions,s.fResources]:List (List Ai)) hc))) (Ez (enc:=ET) (ys:=([s.fActions,s.fResources]:List (List Ai))) (i:=0) (j:=hc) Et Aa Aa hm Aa) (wa Aa (Bc (wm Aa (ob hC λhD hE hF=>BU Tryz.call124 (Rq F (Au ([s.fActions,s.fResources]:List (List Ai)) hc) hD hE) Aa (Aj (cz hF Aa (λhG hH=>?_) (λhG hI=>?_)))))))))))))
   ·refine Ae (wa Aa (Aj (Ao (Ax (Ab (Ab (Bo ?_)))))));have hJ:=BB hH hi hl;refine Ax (Ab ?_);obtain rfl:=Aq hJ;exact Ap (B1 Tryz.results74 (AF Aa)) (sS sN) ⟨Aa,Aa⟩
   refine A0 (AH (AO (Al (ck hI λhK hL=>wv (B3 Aa Aa hK) (wm Aa (Ar ?_))))));have hM:=Bw hL hi;exact A2 (AN (h7,hc+1,()) ⟨hM,Vk _⟩ (AL.c Aa (AL.c Aa (AL.c Aa AL.nil))) (sC sN))
  refine Bt (Aw ?_);have hN:=BJ hB hi hl;exact Aw (Bf (AN ((),()) hN AL.nil (sS sN)))
 rintro⟨⟨⟩,⟨⟩⟩ hg;refine Hi ?_;replace hg:Gt =some r:=hg;unfold Gt at hg;refine Bb (AO (Ae (wa Aa (Aj (Ao ?_)))));obtain rfl:=Aq hg;exact Ap (B1 Tryz.results74 (AF Aa)) sN ⟨Aa,Aa⟩
theorem Nf (F:Nat)(l:(List Ai))(s:Ai)(r:Bool)(h:DX F l s=some r):Fn Tryz.prog GE 75 [AC 1 (A1 eS l),rS s] [] (λR H=>R=rB r∧H=[]):=by
 refine enter (n:=8) Tryz.func75 Aa Tryz.ntmps75 Aa (λw Z=>?_);unfold DX at h;refine Ae (Ku Aa (B2 Aa) Aa (λb1=>?_));refine wa Aa (Bc (wm Aa (wv (r:=rv (.func (.func 127) #[] #[(.pointer (some ⟨b1,0,none⟩))])) (Ey Aa) (ob h λr2 e4 h3=>EP [0] Tryz.call124 (PX F b1 l s r2 e4) ?_))));rintro _ _ ⟨rfl,rfl⟩;refine wa Aa (Aj (Ao ?_));obtain rfl:=Aq h3;exact Ap (B1 Tryz.results75 (AF Aa)) (sS sN) ⟨Aa,Aa⟩
theorem PN (F:Nat)(hb:Nat)(hc:Nat)(hd:Nat)(x:Af)(allow:Bool)(action:Ai)(resource:Ai)(r:Bool)(h:Mn F x allow action resource=some r):Fn Tryz.prog GE 73 [Bm (Ah x),rP hb 0,rP hc 0,rP hd 0] [.blk hb [rB allow] 4,.blk hc [rS action] 9,.blk hd [rS resource] 9] (λR H=>R=rB r∧H=[.blk hb [rB allow] 4,.blk hc [rS action] 9,.blk hd [rS resource] 9]):=by
 refine enter (n:=27) Tryz.func73 Aa Tryz.ntmps73 Aa (λw Z=>?_);unfold Mn at h;refine Ae (BC Aa Aa (λb1=>?_));refine wa Aa (Aj (ck h λg2 h3=>ck h3 λg4 h5=>ck h5 λg6 h7=>AG [(5,rB ((x.fAllow ==allow)&&((decide ((ov (DS F x))=0))&&((ov (DX F x.fActions action))&&(ov (DX F x.fResources resource))))))] [.blk hb [rB allow] 4,.blk hc [rS action] 9,.blk hd [rS resource] 9] ?_ ?_))
 ·refine Al (vF EX Aa GJ (vL 0 MB Aa (vL 1 MB Aa (wv (r:=rB (x.fAllow ==allow)) (SY Tryz.underlying4 Aa Aa) (wm Aa (AT (x.fAllow ==allow) (λc8=>?_) (λc8=>?_)))))))
  ·refine wo c8 (wv (Bd (i:=0) L8 D7 Aa Aa Aa Aa) (wo c8 (BU Tryz.call74 (LF F x (ov (DS F x)) (D5 (BV g2 c8))) Aa (wo c8 (wv (BD Aa Aa) (E7 Aa c8 Aa (wm Aa (AT (decide ((ov (DS F x))=0)) (λc9=>?_) (λc9=>?_)))))))))
   ·refine wo c9 (vF EX Aa C6 (wo c9 (vL 0 Et Aa (wo c9 (vL 2 DO Aa (wo c9 (BU Tryz.call75 (Nf F x.fActions action (ov (DX F x.fActions action)) (D5 (BV (BV g4 c8) c9))) Aa (E7 Aa c9 Aa (wm Aa (AT ((ov (DX F x.fActions action))) (λha=>?_) (λha=>?_)))))))))))
    ·refine wo ha (vF EX Aa C6 (wo ha (vL 0 Et Aa (wo ha (vL 3 DO Aa (wo ha (BU Tryz.call75 (Nf F x.fResources resource (ov (DX F x.fResources resource)) (D5 (BV (BV (BV g6 c8) c9) ha))) Aa (E7 Aa ha Aa (wa Aa (Ar ?_))))))))));exact Cl (And.intro c8 (And.intro c9 ha))
    refine wf ha (wf ha (wf ha (wf ha (wv (r:=rB false) (Ay Aa ha Aa) (wa Aa (Ar ?_))))));exact Cl (And.intro c8 (And.intro c9 ha))
   refine wf c9 (wf c9 (wf c9 (wf c9 (wv (r:=rB false) (Ay Aa c9 Aa) (wm Aa (wz Aa Aa (wz Aa Aa (wz Aa Aa (wz Aa Aa (wv (r:=rB false) (Ay (b:=false) Aa Aa Aa) (wa Aa (Ar ?_))))))))))));exact Cl (And.intro c8 c9)
  refine wf c8 (wf c8 (wf c8 (wv (r:=rB false) (Ay Aa c8 Aa) (wm Aa (wz Aa Aa (wz Aa Aa (wz Aa Aa (wz Aa Aa (wv (r:=rB false) (Ay (b:=false) Aa Aa Aa) (wm Aa (wz Aa Aa (wz Aa Aa (wz Aa Aa (wz Aa Aa (wv (r:=rB false) (Ay (b:=false) Aa Aa Aa) (wa Aa (Ar ?_)))))))))))))))));exact Cl c8
 refine Ao ?_;obtain rfl:=Aq h7;exact Ap (B1 Tryz.results73 (AF Aa)) (sC (sC (sC sN))) ⟨Aa,Aa⟩
theorem S4 (F:Nat)(ha:Nat)(hb:Nat)(hc:Nat)(ys:(List Af))(allow:Bool)(action:Ai)(resource:Ai)(r:Int)(h:Rh F ys allow action resource=some r):Fn Tryz.prog GE 72 [AC 3 (A1 Ah ys),rv (.func (.func 73) #[] #[(.pointer (some ⟨ha,0,none⟩)),(.pointer (some ⟨hb,0,none⟩)),(.pointer (some ⟨hc,0,none⟩))])] [.blk ha [rB allow] 4,.blk hb [rS action] 9,.blk hc [rS resource] 9] (λR H=>R=Av r∧H=[.blk ha [rB allow] 4,.blk hb [rS action] 9,.blk hc [rS resource] 9]):=by
 refine enter (n:=19) Tryz.func72 Aa Tryz.ntmps72 Aa (λw Z=>?_);unfold Rh at h;refine Ae (wa Aa (Aj (Ak (Ae (wm Aa (wv (Bi (ys:=ys) (enc:=Ah) GO Aa) (wv (r:=Av 0) (Am Aa) (Aj (AE (ob h λhi hj hh=>Bx (S:=Nat×(Int)×(Unit)) (V:=(Unit)×(Unit)) 0 (λσ=>CW (λσ=>I8 F ys allow action resource σ) σ.1 σ.2.1=some hi) (λσ=>[(0,AC 3 (A1 Ah ys)),(1,rv (.func (.func 73) #[] #[(.pointer (some ⟨ha,0,none⟩)),(.pointer (some ⟨hb,0,none⟩)),(.pointer (some ⟨hc,0,none⟩))])),(7,Av (ys.length:Int)),(8,Av σ.2.1)]) (λσ=>[.blk ha [rB allow] 4,.blk hb [rS action] 9,.blk hc [rS resource] 9]) (λσ=>σ.1) (F,0,()) hj (AL.c Aa (AL.c Aa (AL.c Aa (AL.c Aa AL.nil)))) (sC (sC (sC sN))) (λσ=>I7 =some r) (λσ=>[]) (λσ=>[.blk ha [rB allow] 4,.blk hb [rS action] 9,.blk hc [rS resource] 9]) ?_ ?_))))))))))
 ·rintro⟨h3,hd,⟨⟩⟩ hk;refine GL ?_;obtain⟨hl,rfl,hm,he,hg⟩:=Ck hk;replace he:I8 F ys allow action resource hd=some hm:=he;unfold I8 at he;refine Ae (wv (C9 Aa Aa) (Aj (Ak (cz he Aa (λhn ho=>?_) (λhn hp=>?_)))))
  ·refine A0 (AO (Ak (AE (Ae (wm Aa (wa Aa (Bc (wm Aa (wm Aa (wm Aa (ck ho λhq hr=>wv (Bs (enc:=Ah) (ys:=ys) GO D7 Aa Aa hq) (wv (C1 L8 D7 Aa Aa Aa) (ob hr λhs ht hu=>DQ (rs:=[Bm (Ah (Au ys hd))]) (Hin:=[.blk ha [rB allow] 4,.blk hb [rS action] 9,.blk hc [rS resource] 9]) (Hr:=[]) Tryz.call73 Aa Aa (Vi _) (PN F ha hb hc (Au ys hd) allow action resource hs ht) Aa ?_)))))))))))));rintro _ _ ⟨rfl,rfl⟩;refine Aj (cz hu Aa (λhv hw=>?_) (λhv hx=>?_))
   ·refine Ae (wm Aa (wa Aa (Aj (Ao (Ax (Ab (Ab (Bo ?_))))))));have hy:=BB hw hg hh;refine Ax (Ab ?_);obtain rfl:=Aq hy;exact Ap (B1 Tryz.results72 (AF Aa)) (sC (sC (sC sN))) ⟨Aa,Aa⟩
   refine A0 (AH (AO (Al (ck hx λhz h0=>wv (B3 Aa Aa hz) (wm Aa (Ar ?_))))));have h1:=Bw h0 hg;exact A2 (AN (hl,hd+1,()) ⟨h1,Vk _⟩ (AL.c Aa (AL.c Aa (AL.c Aa (AL.c Aa AL.nil)))) (sC (sC (sC sN))))
  refine Bt (Aw ?_);have h2:=BJ hp hg hh;exact Aw (Bf (AN ((),()) h2 AL.nil (sC (sC (sC sN)))))
 rintro⟨⟨⟩,⟨⟩⟩ hf;refine Hi ?_;replace hf:I7 =some r:=hf;unfold I7 at hf;refine Bb (AO (Ae (wv (r:=Av (-1)) (A3 Aa) (Aj (Ao ?_)))));obtain rfl:=Aq hf;exact Ap (B1 Tryz.results72 (AF Aa)) (sC (sC (sC sN))) ⟨Aa,Aa⟩
theorem Ng (F:Nat)(hc:Nat)(ha:Nat)(hb:Nat)(allow:Bool)(l:(List Af))(action:Ai)(resource:Ai)(r:Int)(h:Mo F allow l action resource=some r):Fn Tryz.prog GE 71 [rB allow,rP hc 0,rP ha 0,rP hb 0] [.blk hc [AC 3 (A1 Ah l)] 23,.blk ha [rS action] 9,.blk hb [rS resource] 9] (λR H=>R=Av r∧H=[.blk hc [AC 3 (A1 Ah l)] 23,.blk ha [rS action] 9,.blk hb [rS resource] 9]):=by
 refine enter (n:=9) Tryz.func71 Aa Tryz.ntmps71 Aa (λw Z=>?_);unfold Mo at h;refine Ae (Ku Aa (B2 Aa) Aa (λb1=>?_));refine wa Aa (Bc (vL 1 JI Aa (wv (r:=rv (.func (.func 73) #[] #[(.pointer (some ⟨b1,0,none⟩)),(.pointer (some ⟨ha,0,none⟩)),(.pointer (some ⟨hb,0,none⟩))])) (Ey Aa) (ob h λr2 e4 h3=>EP [0,1,1] Tryz.call72 (S4 F b1 ha hb l allow action resource r2 e4) ?_))));rintro _ _ ⟨rfl,rfl⟩;refine wa Aa (Aj (Ao (J5 [3,1,1] ?_)));obtain rfl:=Aq h3;exact Ap (B1 Tryz.results71 (AF Aa)) (sC (sC (sC (sS sN)))) ⟨Aa,Aa⟩
theorem Ok (F:Nat)(l:(List Af))(action:Ai)(resource:Ai)(r:BY)(h:KB F l action resource=some r):Fn Tryz.prog GE 22 [AC 3 (A1 Ah l),rS action,rS resource] [] (λR H=>R=Bm (HP r)∧H=[]):=by
 refine enter (n:=23) Tryz.func22 Aa Tryz.ntmps22 Aa (λw Z=>?_);unfold KB at h;refine Ae (Ku Aa (B2 Aa) Aa (λb1=>?_));refine Ku Aa (B2 Aa) Aa (λb2=>?_);refine Ku Aa (B2 Aa) Aa (λb3=>?_);refine Bz (cs:=[rB false,Av 0]) Tryz.zeroValue63 Aa Aa (λb4=>?_);refine Bc (wv (r:=rv (.func (.func 71) #[] #[(.pointer (some ⟨b1,0,none⟩)),(.pointer (some ⟨b2,0,none⟩)),(.pointer (some ⟨b3,0,none⟩))])) (Ey Aa) (wa Aa (Aj (Ak (Ae (wm Aa (ob h λr5 e7 h6=>DQ (rs:=[rB false]) (Hin:=[.blk b1 [AC 3 (A1 Ah l)] 23,.blk b2 [rS action] 9,.blk b3 [rS resource] 9]) (Hr:=[.blk b4 [rB false,Av 0] 63]) Tryz.call71 Aa Aa ((AI (i:=3) Aa).trans (Vj _ ((AI (i:=2) Aa).trans (Vj _ ((AI (i:=1) Aa).trans (Vj _ (Vi _))))))) (Ng F b1 b2 b3 false l action resource r5 e7) Aa ?_)))))));rintro _ _ ⟨rfl,rfl⟩;refine wa Aa (Bc (wm Aa (wv (DZ Aa Aa) (Aj (cz h6 Aa (λc8 h9=>?_) (λc8 hb=>?_))))))
 ·refine Ae (wm Aa (wv (r:=Bm [rB false,Av r5]) (JA Aa Aa) (DW (i:=3) MN Aa Aa Aa (Bn.c Aa) Aa Aa ?_)));refine Aj (Ao (Ab ?_));obtain rfl:=Aq h9;exact Ap (B1 Tryz.results22 (Cr (i:=3) RN MN Aa Aa Aa)) (sS (sS (sS (sS sN)))) ⟨Aa,Aa⟩
 refine A0 (AO (Ae (wm Aa (ob hb λha hc hd=>DQ (rs:=[rB true]) (Hin:=[.blk b1 [AC 3 (A1 Ah l)] 23,.blk b2 [rS action] 9,.blk b3 [rS resource] 9]) (Hr:=[.blk b4 [rB false,Av 0] 63]) Tryz.call71 Aa Aa (Vi _) (Ng F b1 b2 b3 true l action resource ha hc) Aa ?_))));rintro _ _ ⟨rfl,rfl⟩;refine wa Aa (Bc (wm Aa (wv (DZ Aa Aa) (wm Aa (wv (r:=Bm [rB (decide (0≤ha)),Av ha]) (HM Aa Aa Aa Aa) (DW (i:=3) MN Aa Aa Aa (Bn.c Aa) Aa Aa ?_))))));refine Aj (Ao ?_);obtain rfl:=Aq hd;exact Ap (B1 Tryz.results22 (Cr (i:=3) RN MN Aa Aa Aa)) (sS (sS (sS (sS sN)))) ⟨Aa,Aa⟩
theorem GX (n:Int)(low:Int)(high:Int)(r:Bool)(h:Cy n low high=some r):Fn Tryz.prog GE 137 [Av n,Av low,Av high] [] (λR H=>R=rB r∧H=[]):=by
 refine enter (n:=15) Tryz.func137 Aa Tryz.ntmps137 Aa (λw Z=>?_);unfold Cy at h;refine Ae (wa Aa (Aj (AG [(6,rB ((decide (low≤n))&&(decide (n≤high))))] [] ?_ ?_)))
 ·refine Al (wm Aa (wm Aa (wv (DZ Aa Aa) (wm Aa (AT (decide (low≤n)) (λc1=>?_) (λc1=>?_))))))
  ·refine wo c1 (wm Aa (wo c1 (wm Aa (wo c1 (wv (HY Aa Aa) (E7 Aa c1 Aa (wa Aa (Ar ?_))))))));exact Cl c1
  refine wf c1 (wf c1 (wf c1 (wv (r:=rB false) (Ay Aa c1 Aa) (wa Aa (Ar ?_)))));exact Cl c1
 refine Ao ?_;obtain rfl:=Aq h;exact Ap (B1 Tryz.results137 (AF Aa)) sN ⟨Aa,Aa⟩
theorem KH (bits:Int)(r:Int)(h:CV bits=some r):Fn Tryz.prog GE 138 [Av bits] [] (λR H=>R=Av r∧H=[]):=by
 refine enter (n:=7) Tryz.func138 Aa Tryz.ntmps138 Aa (λw Z=>?_);unfold CV at h;refine Ae (wa Aa (Bc (wm Aa (ck h λg1 h2=>wv (Ew Aa Aa g1) (ck h2 λg3 h4=>wv (r:=Av (Gz .i64 1 (32-bits))) (OX Aa Aa g3) (ck h4 λg5 h6=>wv (Ew Aa Aa g5) (wa Aa (Aj (Ao ?_)))))))));obtain rfl:=Aq h6;exact Ap (B1 Tryz.results138 (AF Aa)) sN ⟨Aa,Aa⟩
theorem Hn (q:AS)(r:Int)(h:CA q=some r):Fn Tryz.prog GE 86 [Bm (An q)] [] (λR H=>R=Av r∧H=[]):=by
 refine enter (n:=34) Tryz.func86 Aa Tryz.ntmps86 Aa (λw Z=>?_);unfold CA at h;refine Ae (BC Aa Aa (λb1=>?_));refine wa Aa (Aj (Ak (ck h λg2 h3=>ck h3 λg4 h5=>ck h5 λg6 h7=>ck h7 λg8 h9=>AG [(1,rP b1 0),(26,rB ((!(ov (Cy q.fAddr 0 4294967295)))||((!(ov (Cy q.fBits 0 32)))||((!(ov (Cy q.fLow 1 65535)))||(!(ov (Cy q.fHigh q.fLow 65535)))))))] [.blk b1 (An q) 111] ?_ ?_)))
 ·refine Al (vF Ec Aa CM (vL 0 D8 Aa (BU J2 (GX q.fAddr 0 4294967295 (ov (Cy q.fAddr 0 4294967295)) (D5 g2)) Aa (wv (BT Aa) (wm Aa (AT (!(ov (Cy q.fAddr 0 4294967295))) (λha=>?_) (λha=>?_)))))))
  ·refine wf ha (wf ha (wf ha (wf ha (wv (r:=rB true) (A8 Aa ha Aa) (wm Aa (wz Aa Aa (wz Aa Aa (wz Aa Aa (wz Aa Aa (wv (r:=rB true) (A8 (b:=true) Aa Aa Aa) (wm Aa (wz Aa Aa (wz Aa Aa (wz Aa Aa (wz Aa Aa (wz Aa Aa (wz Aa Aa (wv (r:=rB true) (A8 (b:=true) Aa Aa Aa) (Ar ?_)))))))))))))))))));exact Cl ha
  refine wo ha (vF Ec Aa CM (wo ha (vL 0 D8 Aa (wo ha (BU J2 (GX q.fBits 0 32 (ov (Cy q.fBits 0 32)) (D5 (Ee g4 ha))) Aa (wo ha (wv (BT Aa) (Ks Aa ha Aa (wm Aa (AT (!(ov (Cy q.fBits 0 32))) (λhc=>?_) (λhc=>?_)))))))))))
  ·refine wf hc (wf hc (wf hc (wf hc (wv (r:=rB true) (A8 Aa hc Aa) (wm Aa (wz Aa Aa (wz Aa Aa (wz Aa Aa (wz Aa Aa (wz Aa Aa (wz Aa Aa (wv (r:=rB true) (A8 (b:=true) Aa Aa Aa) (Ar ?_)))))))))))));exact Cl (And.intro ha hc)
  refine wo hc (vF Ec Aa CM (wo hc (vL 0 D8 Aa (wo hc (BU J2 (GX q.fLow 1 65535 (ov (Cy q.fLow 1 65535)) (D5 (Ee (Ee g6 ha) hc))) Aa (wo hc (wv (BT Aa) (Ks Aa hc Aa (wm Aa (AT (!(ov (Cy q.fLow 1 65535))) (λhb=>?_) (λhb=>?_)))))))))))
  ·refine wf hb (wf hb (wf hb (wf hb (wf hb (wf hb (wv (r:=rB true) (A8 Aa hb Aa) (Ar ?_)))))));exact Cl (And.intro ha (And.intro hc hb))
  refine wo hb (vF Ec Aa CM (wo hb (vL 0 D8 Aa (wo hb (vF Ec Aa CM (wo hb (vL 0 D8 Aa (wo hb (BU J2 (GX q.fHigh q.fLow 65535 (ov (Cy q.fHigh q.fLow 65535)) (D5 (Ee (Ee (Ee g8 ha) hc) hb))) Aa (wo hb (wv (BT Aa) (Ks Aa hb Aa (Ar ?_)))))))))))));exact Cl (And.intro ha (And.intro hc hb))
 refine cz h9 Aa (λhe hf=>?_) (λhe hg=>?_)
 ·refine Ae (wa Aa (Aj (Ao (Ab ?_))));obtain rfl:=Aq hf;exact Ap (B1 Tryz.results86 (AF Aa)) (sS sN) ⟨Aa,Aa⟩
 refine A0 (AO (Ak (Ak (ob hg λhd hh hi=>CR [1] ?_))));refine rq (As Ec Aa CM Aa Aa) (rq (AP (i:=0) D8 Aa Aa Aa) (rq (As Ec Aa CM Aa Aa) (rq (AP (i:=0) D8 Aa Aa Aa) (HD (Cj Tryz.call138 (KH q.fBits hd hh) Aa) (rq (r:=Av (SD .i64 q.fAddr hd)) (Uf Aa Aa) (rq (Cs Aa Aa) (re [33] ?_)))))));refine AO (cz hi Aa (λhj hk=>?_) (λhj hl=>?_))
 ·refine Ae (wa Aa (Aj (Ao (Ab ?_))));obtain rfl:=Aq hk;exact Ap (B1 Tryz.results86 (AF Aa)) (sS sN) ⟨Aa,Aa⟩
 refine A0 (AO (Ae (wa Aa (Aj (Ao ?_)))));obtain rfl:=Aq hl;exact Ap (B1 Tryz.results86 (AF Aa)) (sS sN) ⟨Aa,Aa⟩
theorem S3 (s:Ai)(r:Int)(h:Rg s=some r):Fn Tryz.prog GE 180 [rS s,rS ([46]:Ai)] [] (λR H=>R=Av r∧H=[]):=by
 refine enter (n:=143) Tryz.func180 Aa Tryz.ntmps180 Aa (λw Z=>?_);unfold Rg at h;refine Ae (wa Aa (Bc (wm Aa (wv (B9 (p:=([46]:Ai)) CN Aa) (wa Aa (Aj (Ak (AE (AG [(0,rS s),(1,rS ([46]:Ai)),(5,Av 1),(16,rB (decide (([46]:Ai)=s)))] [] ?_ ?_)))))))))
 ·refine Al (wm Aa (wv (BD Aa Aa) (wm Aa (AU (b:=decide (1=0)) Aa Aa (by decide) (wm Aa (AU (b:=decide (1=0)) Aa Aa (by decide) (wm Aa (AU (b:=decide (1=0)) Aa Aa (by decide) (wv (Cc Aa Aa) (wv (r:=rB (decide (([46]:Ai)=s))) (Ay (b:=decide (1=0)) Aa (by decide) Aa) (wa Aa (Ar ?_))))))))))));exact wt
 refine cz h Aa (λc1 h2=>?_) (λc1 h3=>?_)
 ·refine Ae (wa Aa (Aj (Ao (Ax (Ab ?_)))));obtain rfl:=Aq h2;exact Ap (B1 OH (AF Aa)) sN ⟨Aa,Aa⟩
 refine Ae (wm Aa (wv (BD Aa Aa) (wa Aa (Aj (BZ Aa (by decide) (Ae (wm Aa (wm Aa (ck h3 λg4 h5=>wv (BO CN Aa Aa g4) (BQ (rs:=[rS s,rI .u8 (C2 ([46]:Ai) 0)]) (r:=Av (Lib.indexByte s (BK (C2 ([46]:Ai) 0)).toUInt8)) Tryz.call207 Aa (SZ s (C2 ([46]:Ai) 0)) Aa Aa (wa Aa (Aj (Ao (Ax (Ab ?_)))))))))))))));obtain rfl:=Aq h5;exact Ap (B1 OH (AF Aa)) sN ⟨Aa,Aa⟩
theorem S5 (s:Ai)(r:Int)(h:Ri s=some r):Fn Tryz.prog GE 180 [rS s,rS ([58]:Ai)] [] (λR H=>R=Av r∧H=[]):=by
 refine enter (n:=143) Tryz.func180 Aa Tryz.ntmps180 Aa (λw Z=>?_);unfold Ri at h;refine Ae (wa Aa (Bc (wm Aa (wv (B9 (p:=([58]:Ai)) CN Aa) (wa Aa (Aj (Ak (AE (AG [(0,rS s),(1,rS ([58]:Ai)),(5,Av 1),(16,rB (decide (([58]:Ai)=s)))] [] ?_ ?_)))))))))
 ·refine Al (wm Aa (wv (BD Aa Aa) (wm Aa (AU (b:=decide (1=0)) Aa Aa (by decide) (wm Aa (AU (b:=decide (1=0)) Aa Aa (by decide) (wm Aa (AU (b:=decide (1=0)) Aa Aa (by decide) (wv (Cc Aa Aa) (wv (r:=rB (decide (([58]:Ai)=s))) (Ay (b:=decide (1=0)) Aa (by decide) Aa) (wa Aa (Ar ?_))))))))))));exact wt
 refine cz h Aa (λc1 h2=>?_) (λc1 h3=>?_)
 ·refine Ae (wa Aa (Aj (Ao (Ax (Ab ?_)))));obtain rfl:=Aq h2;exact Ap (B1 OH (AF Aa)) sN ⟨Aa,Aa⟩
 refine Ae (wm Aa (wv (BD Aa Aa) (wa Aa (Aj (BZ Aa (by decide) (Ae (wm Aa (wm Aa (ck h3 λg4 h5=>wv (BO CN Aa Aa g4) (BQ (rs:=[rS s,rI .u8 (C2 ([58]:Ai) 0)]) (r:=Av (Lib.indexByte s (BK (C2 ([58]:Ai) 0)).toUInt8)) Tryz.call207 Aa (SZ s (C2 ([58]:Ai) 0)) Aa Aa (wa Aa (Aj (Ao (Ax (Ab ?_)))))))))))))));obtain rfl:=Aq h5;exact Ap (B1 OH (AF Aa)) sN ⟨Aa,Aa⟩
theorem QG (s:Ai)(r:Int)(h:Oi s=some r):Fn Tryz.prog GE 206 [rS s,rS ([46]:Ai)] [] (λR H=>R=Av r∧H=[]):=by
 refine enter (n:=8) Tryz.func206 Aa Tryz.ntmps206 Aa (λw Z=>?_);unfold Oi at h;refine Ae (wa Aa (Bc (wm Aa (wm Aa (ob h λr1 e3 h2=>BU Tryz.call180 (S3 s r1 e3) Aa (wa Aa (Aj (Ao ?_))))))));obtain rfl:=Aq h2;exact Ap (B1 Tryz.results206 (AF Aa)) sN ⟨Aa,Aa⟩
theorem O4 (F:Nat)(s:Ai)(r:(List Ai))(h:KX F s=some r):Fn Tryz.prog GE 181 [rS s,rS ([46]:Ai),Av 0,Av (-1)] [] (λR H=>∃u0:Value,R=rv u0∧H=[.row u0 9 1 (A1 eS r)]):=by
 refine enter (n:=66) Tryz.func181 Aa Tryz.ntmps181 Aa (λw Z=>?_);unfold KX at h;refine Ae (wa Aa (Aj (Ak (Ae (wm Aa (wv (BD Aa Aa) (Aj (BG Aa (by decide) (A0 (AO (Ak (Ae (wm Aa (wv (Cc Aa Aa) (Aj (BG Aa (by decide) (A0 (AO (Ak (Ae (wm Aa (wv (C9 Aa Aa) (Aj ?_)))))))))))))))))))))));refine BZ Aa (by decide) (Al (wm Aa (wm Aa (BQ (rs:=[rS s,rS ([46]:Ai)]) (r:=Av (Lib.countByte s 46:Int)) Tryz.call179 Aa (M1 s 46) Aa Aa (ck h λg1 h2=>wv (B3 Aa Aa g1) (wa Aa (Bc (wm Aa (wm Aa (wv (B9 CN Aa) (ck h2 λg3 h4=>wv (B3 Aa Aa g3) (wv (r:=Av (min ((Lib.countByte s 46:Int)+1) ((s.length:Int)+1))) (Uc TR Aa Aa) (wa Aa (Bc (wm Aa (ck h4 λg6 h7=>ck h7 λg8 h9=>Exists.elim Pe λinf hinf=>RT (enc:=eS) (zα:=([]:Ai)) (m:=min ((Lib.countByte s 46:Int)+1) ((s.length:Int)+1)) Cp hinf.1 hinf.2.1 hinf.2.2.1 hinf.2.2.2 Aa Aa Aa (λ_=>Aa) Aa Aa g6 g8 Aa (λv5=>?_)))))))))))))))));refine wa Aa (Bc (wm Aa (ck h9 λhn ho=>wv (Ew Aa Aa hn) (wa Aa (Bc (wa Aa (Aj (Ak (AE (ob ho λhp hq hk=>Bx (S:=Nat×(Ai×Int×(List Ai))×(Unit)) (V:=(Ai×Int×(List Ai))×(Unit)) 0 (λσ=>CW (λσ=>EO s σ.1 σ.2.1 σ.2.2) σ.1 σ.2.1=some hp) (λσ=>[(0,rS σ.2.1.1),(1,rS ([46]:Ai)),(2,Av 0),(3,Av ((min ((Lib.countByte s 46:Int)+1) ((s.length:Int)+1))-1)),(9,rv v5),(10,Av σ.2.1.2.1)]) (λσ=>[.row v5 9 1 (A1 eS σ.2.1.2.2)]) (λσ=>σ.1) (F,(s,0,List.replicate (BK (min ((Lib.countByte s 46:Int)+1) ((s.length:Int)+1))) ([]:Ai)),()) hq (AL.c Aa (AL.c5 Aa Aa Aa Aa Aa AL.nil)) (sC sN) (λσ=>EN σ.1.1 σ.1.2.1 σ.1.2.2=some r) (λσ=>[(0,rS σ.1.1),(9,rv v5),(10,Av σ.1.2.1)]) (λσ=>[.row v5 9 1 (A1 eS σ.1.2.2)]) ?_ ?_))))))))))
 ·rintro⟨hU,⟨ha,hb,hc⟩,⟨⟩⟩ hr;refine GL ?_;obtain⟨hs,rfl,t210,hd,hh⟩:=Ck hr;replace hd:EO s ha hb hc=some t210:=hd;unfold EO at hd;refine Ak (Ae (wm Aa (wm Aa (wv (C9 Aa Aa) (Aj (cz hd Aa (λht hu=>?_) (λht hv=>?_)))))))
  ·refine A0 (AO (AE (Ae (wm Aa (wm Aa (ob hu λhe hw hx=>BU Tryz.call206 (QG ha he hw) Aa (wa Aa (Aj (Ak (Ae (wm Aa (wv (C9 Aa Aa) (Aj (cz hx Aa (λhy hz=>?_) (λhy h0=>?_)))))))))))))))
   ·refine Bt (Aw (Kt Aa ?_));have h1:=BJ hz hh hk;exact Aw (Bf (AN ((ha,hb,hc),()) h1 (AL.c Aa (AL.c Aa (AL.c Aa AL.nil))) (sC sN)))
   refine A0 (AO (Ae (wm Aa (wm Aa (wm Aa (wm Aa (wm Aa (ck h0 λh3 h5=>wv (B3 Aa Aa h3) (ck h5 λh6 h8=>wv (Ex CN Aa Aa h6) (ck h8 λhl hA=>wv (r:=rv (Dg 1 v5 (BK hb) 0)) (CU (i:=0) Cp CC Aa Aa Aa (Bu hl)) (GR (enc:=eS) (ys:=hc) (y':=List.take (BK (he+0)) ha) (i:=0) (j:=hb) CC Aa Aa (B2 Aa) Aa hl Aa Aa (H':=[.row v5 9 1 (A1 eS (List.set hc (BK hb) (List.take (BK (he+0)) ha)))]) Aa (bd hA λhB hC hD=>?_))))))))))));rw[← hC];refine Bc (wm Aa (wm Aa (wm Aa (wv (B9 (p:=([46]:Ai)) CN Aa) (ck hD λhE hF=>wv (B3 Aa Aa hE) (ck hF λhG hH=>wv (Ds CN Aa Aa hG) (wa Aa (Aj (Al (wm Aa (ck hH λhI hJ=>wv (B3 Aa Aa hI) (wa Aa (Ar (AH ?_))))))))))))));have hK:=Bw hJ hh;exact A2 (AN (hs,(List.drop (BK (he+1)) ha,hb+1,hB),()) ⟨hK,Vk _⟩ (AL.c Aa (AL.c5 Aa Aa Aa Aa Aa AL.nil)) (sC sN))
  refine Bt (Aw ?_);have hL:=BJ hv hh hk;exact Aw (Bf (AN ((ha,hb,hc),()) hL (AL.c Aa (AL.c Aa (AL.c Aa AL.nil))) (sC sN)))
 rintro⟨⟨hi,hf,hj⟩,⟨⟩⟩ hg;refine Hi ?_;replace hg:EN hi hf hj=some r:=hg;unfold EN at hg;refine Bb (AO (Ae (wm Aa (wm Aa (wm Aa (ck hg λhm hM=>wv (r:=rv (Dg 1 v5 (BK hf) 0)) (CU (i:=0) Cp CC Aa Aa Aa (Bu hm)) (GR (enc:=eS) (ys:=hj) (y':=hi) (i:=0) (j:=hf) CC Aa Aa (B2 Aa) Aa hm Aa Aa (H':=[.row v5 9 1 (A1 eS (List.set hj (BK hf) hi))]) Aa (bd hM λhV hN hO=>?_))))))));rw[← hN];refine Bc (wm Aa (wm Aa (ck hO λhP hQ=>wv (B3 Aa Aa hP) (ck hQ λhR hS=>SU (i:=0) Cp CC Aa Aa Aa hR Aa (λhT=>?_)))));refine wa Aa (Aj (Ao ?_));obtain rfl:=Aq hS;exact Ap (B1 Tryz.results181 (AF Aa)) (sC sN) ⟨hT,Aa,Aa⟩
theorem QF (F:Nat)(s:Ai)(r:(List Ai))(h:Oh F s=some r):Fn Tryz.prog GE 145 [rS s,rS ([46]:Ai)] [] (λR H=>∃u0:Value,R=rv u0∧H=[.row u0 9 1 (A1 eS r)]):=by
 refine enter (n:=8) Tryz.func145 Aa Tryz.ntmps145 Aa (λw Z=>?_);unfold Oh at h;refine Ae (wa Aa (Bc (wm Aa (wm Aa (ob h λr1 e3 h2=>EP [] Tryz.call181 (O4 F s r1 e3) ?_)))));rintro _ _ ⟨v4,rfl,rfl⟩;refine wa Aa (Aj (Ao ?_));obtain rfl:=Aq h2;exact Ap (B1 Tryz.results145 (AF Aa)) (sC sN) ⟨v4,Aa,Aa⟩
theorem Sb (s:Ai)(r:Ai×Ai×Bool)(h:QA s=some r):Fn Tryz.prog GE 144 [rS s,rS ([58]:Ai)] [] (λR H=>R=C0 [rS r.1,rS r.2.1,rB r.2.2]∧H=[]):=by
 refine enter (n:=23) Tryz.func144 Aa Tryz.ntmps144 Aa (λw Z=>?_);unfold QA at h;refine Ae (wv (r:=rS ([]:Ai)) (A3 Aa) (wv (r:=rS ([]:Ai)) (A3 Aa) (wa Aa (Aj (Ak (Ae (wm Aa (wm Aa (ob h λr1 e3 h2=>BU Tryz.call180 (S5 s r1 e3) Aa (wa Aa (Bc (wm Aa (wv (DZ Aa Aa) (Aj (cz h2 Aa (λc4 h5=>?_) (λc4 ha=>?_))))))))))))))))
 ·refine Ak (ck h5 λg6 h7=>ck h7 λg8 h9=>ck h9 λhb hc=>CR [0,1,7] ?_);refine rq (Am Aa) (rq (Am Aa) (rq (Ex CN Aa Aa g6) (rq (Am Aa) (rq (Am Aa) (rq (Am Aa) (rq (B9 (p:=([58]:Ai)) CN Aa) (rq (B3 Aa Aa g8) (rq (Ds CN Aa Aa hb) (rq (A3 Aa) (rq (A3 Aa) (rq (r:=rB true) (A3 Aa) (re [4,5,6] ?_))))))))))));refine AO (Ao (Ab ?_));obtain rfl:=Aq hc;exact Ap (PH Tryz.results144 (AF Aa) (AF Aa) (AF Aa)) sN ⟨Aa,Aa⟩
 refine A0 (AO (Ae (wm Aa (wa Aa (wv (r:=rS ([]:Ai)) (A3 Aa) (wa Aa (Aj (Ao ?_))))))));obtain rfl:=Aq ha;exact Ap (PH Tryz.results144 (AF Aa) (AF Aa) (AF Aa)) sN ⟨Aa,Aa⟩
theorem Tr (s:Ai)(r:Ai×Ai×Bool)(h:Ts s=some r):Fn Tryz.prog GE 96 [rS s,rS ([58]:Ai)] [] (λR H=>R=C0 [rS r.1,rS r.2.1,rB r.2.2]∧H=[]):=by
 refine enter (n:=13) Tryz.func96 Aa Tryz.ntmps96 Aa (λw Z=>?_);unfold Ts at h;refine Ae (wv (r:=rS ([]:Ai)) (A3 Aa) (wv (r:=rS ([]:Ai)) (A3 Aa) (wa Aa (Bc (wm Aa (wm Aa (ob h λr1 e3 h2=>BU Tryz.call144 (Sb s r1 e3) Aa (wv (A4 Aa Aa) (wv (A4 Aa Aa) (wv (A4 Aa Aa) (wa Aa (wa Aa (wa Aa (Aj (Ao ?_)))))))))))))));obtain rfl:=Aq h2;exact Ap (PH Tryz.results96 (AF Aa) (AF Aa) (AF Aa)) sN ⟨Aa,Aa⟩
theorem Nr (F:Nat)(s:Ai)(r:Int×Int)(h:Jj F s=some r):Fn Tryz.prog GE 97 [rS s] [] (λR H=>R=C0 [Av r.1,Av r.2]∧H=[]):=by
 refine enter (n:=50) Tryz.func97 Aa Tryz.ntmps97 Aa (λw Z=>?_);unfold Jj at h;refine Ae (wa Aa (wa Aa (Bc (wm Aa (ob h λr1 e3 h2=>EP [] Tryz.call145 (QF F s r1 e3) ?_)))));rintro _ _ ⟨v4,rfl,rfl⟩;refine wa Aa (Aj (Ak (Ae (wm Aa (wv (Cn (ys:=r1) (enc:=eS) (i:=0) Cp Aa Aa) (wv (Cs Aa Aa) (Aj (cz h2 Aa (λc5 h6=>?_) (λc5 h7=>?_)))))))))
 ·refine Ae (wa Aa (wa Aa (Aj (Ao (Ab ?_)))));obtain rfl:=Aq h6;exact Ap (Gs Tryz.results97 (AF Aa) (AF Aa)) (sS sN) ⟨Aa,Aa⟩
 refine A0 (AO (Ae (Bz (cs:=A1 (rI .i64) (List.replicate 4 (0:Int))) Tryz.zeroValue195 (by kernel_rfl) Aa (λb8=>?_))));refine Aj (Ak (Ae (wv (r:=Av 0) (Am Aa) (Aj (AE (ob h7 λhj hk hh=>Bx (S:=Nat×(Int×(List Int))×(Unit)) (V:=((List Int))×(Unit)) 0 (λσ=>CW (λσ=>Ek r1 σ.1 σ.2) σ.1 σ.2.1=some hj) (λσ=>[(4,rv v4),(5,rP b8 0),(14,Av σ.2.1.1)]) (λσ=>[.blk b8 (A1 (rI .i64) σ.2.1.2) 195,.row v4 9 1 (A1 eS r1)]) (λσ=>σ.1) (F,(0,List.replicate 4 (0:Int)),()) hk (AL.c Aa (AL.c Aa (AL.c Aa AL.nil))) (sC (sC sN)) (λσ=>Ej σ.1=some r) (λσ=>[(5,rP b8 0)]) (λσ=>[.blk b8 (A1 (rI .i64) σ.1) 195]) ?_ ?_))))))
 ·rintro⟨hQ,⟨ha,hd⟩,⟨⟩⟩ hl;refine GL ?_;obtain⟨hm,rfl,hn,he,hg⟩:=Ck hl;replace he:Ek r1 ha hd=some hn:=he;unfold Ek at he;refine Ae (wv (C9 Aa Aa) (Aj (Ak (cz he Aa (λc75 ho=>?_) (λc75 hp=>?_)))))
  ·refine A0 (AO (Ak (AE (Ae (wm Aa (wa Aa (Bc (wm Aa (wm Aa (ck ho λhi hq=>wv (r:=rv (Dg 1 v4 (BK ha) 0)) (CU (i:=1) Cp CC Aa Aa Aa (Bu hi)) (wv (r:=rS (Au r1 ha)) (Ez (enc:=eS) (ys:=r1) (i:=1) (j:=ha) DO Aa Aa hi Aa) (ck hq λhr hs=>BQ (rs:=[rS (Au r1 ha)]) (r:=C0 [Av (Ci (Au r1 ha)),Av (Dr (Au r1 ha))]) Tryz.call98 Aa (OV (Au r1 ha) hr) Aa Aa (wm Aa (wv (A4 Aa Aa) (wv (A4 Aa Aa) (wa Aa (wa Aa (Aj (Ak (ck hs λht hu=>AG [(4,rv v4),(5,rP b8 0),(6,Av ha),(7,Av (Ci (Au r1 ha))),(14,Av ha),(31,rB ((!decide ((Dr (Au r1 ha))=0))||(!(ov (Cy (Ci (Au r1 ha)) 0 255)))))] [.blk b8 (A1 (rI .i64) hd) 195,.row v4 9 1 (A1 eS r1)] ?_ ?_))))))))))))))))))))
   ·refine Al (wm Aa (wv (Cs Aa Aa) (wm Aa (AT (!decide ((Dr (Au r1 ha))=0)) (λhc=>?_) (λhc=>?_)))))
    ·refine wf hc (wf hc (wf hc (wv (r:=rB true) (A8 Aa hc Aa) (Ar ?_))));exact Cl hc
    refine wo hc (wm Aa (wo hc (BU J2 (GX (Ci (Au r1 ha)) 0 255 (ov (Cy (Ci (Au r1 ha)) 0 255)) (D5 (Ee ht hc))) Aa (wo hc (wv (BT Aa) (Ks Aa hc Aa (Ar ?_)))))));exact Cl hc
   refine cz hu Aa (λhv hw=>?_) (λhv hx=>?_)
   ·refine Ae (wa Aa (wa Aa (Aj (Ao (Ab (Ax (Ab (Ab (Bo ?_)))))))));have hy:=BB hw hg hh;refine Ax (Ab ?_);obtain rfl:=Aq hy;exact Ap (Gs Tryz.results97 (AF Aa) (AF Aa)) (sS (sS sN)) ⟨Aa,Aa⟩
   refine A0 (AO (Al (wm Aa (wm Aa (ck hx λhz h0=>wv (r:=rv (.pointer (some ⟨b8,BK ha,none⟩))) (KG MK CM Aa Aa hz) (ck h0 λh1 h3=>PC (enc:=(rI .i64)) (ys:=hd) (v:=Ci (Au r1 ha)) (i:=0) CM Aa Aa (B2 Aa) Aa h1 (H':=[.blk b8 (A1 (rI .i64) (List.set hd (BK ha) (Ci (Au r1 ha)))) 195,.row v4 9 1 (A1 eS r1)]) Aa (Ar (AH (AO (Al (ck h3 λh4 h5=>wv (B3 Aa Aa h4) (wm Aa (Ar ?_)))))))))))));have h8:=Bw h5 hg;exact A2 (AN (hm,(ha+1,List.set hd (BK ha) (Ci (Au r1 ha))),()) ⟨h8,Vk _⟩ (AL.c Aa (AL.c Aa (AL.c Aa AL.nil))) (sC (sC sN)))
  refine Bt (Aw ?_);have h9:=BJ hp hg hh;exact Aw (Bf (AN (hd,()) h9 (AL.c Aa AL.nil) (sC (sS sN))))
 rintro⟨hb,⟨⟩⟩ hf;refine Hi ?_;replace hf:Ej hb=some r:=hf;unfold Ej at hf;refine Bb (AO (Ae (ck hf λhA hB=>wv (r:=rv (.pointer (some ⟨b8,BK 0,none⟩))) (KG MK CM Aa Aa hA) (ck hB λhC hD=>wv (r:=Av (Au hb 0)) (I2 (enc:=(rI .i64)) (ys:=hb) (i:=0) D8 Aa Aa hC) (wv (r:=Av (Gz .i64 (Au hb 0) 24)) (OX Aa Aa (by decide)) (ck hD λhE hF=>wv (r:=rv (.pointer (some ⟨b8,BK 1,none⟩))) (KG MK CM Aa Aa hE) (ck hF λhG hH=>wv (r:=Av (Au hb 1)) (I2 (enc:=(rI .i64)) (ys:=hb) (i:=0) D8 Aa Aa hG) (wv (r:=Av (Gz .i64 (Au hb 1) 16)) (OX Aa Aa (by decide)) (wv (r:=Av (Rn .i64 (Gz .i64 (Au hb 0) 24) (Gz .i64 (Au hb 1) 16))) (Tv Aa Aa) (ck hH λhI hJ=>wv (r:=rv (.pointer (some ⟨b8,BK 2,none⟩))) (KG MK CM Aa Aa hI) (ck hJ λhK hL=>wv (r:=Av (Au hb 2)) (I2 (enc:=(rI .i64)) (ys:=hb) (i:=0) D8 Aa Aa hK) (wv (r:=Av (Gz .i64 (Au hb 2) 8)) (OX Aa Aa (by decide)) (wv (r:=Av (Rn .i64 (Rn .i64 (Gz .i64 (Au hb 0) 24) (Gz .i64 (Au hb 1) 16)) (Gz .i64 (Au hb 2) 8))) (Tv Aa Aa) (ck hL λhM hN=>wv (r:=rv (.pointer (some ⟨b8,BK 3,none⟩))) (KG MK CM Aa Aa hM) (ck hN λhO hP=>wv (r:=Av (Au hb 3)) (I2 (enc:=(rI .i64)) (ys:=hb) (i:=0) D8 Aa Aa hO) ?_)))))))))))))));refine wv (r:=Av (Rn .i64 (Rn .i64 (Rn .i64 (Gz .i64 (Au hb 0) 24) (Gz .i64 (Au hb 1) 16)) (Gz .i64 (Au hb 2) 8)) (Au hb 3))) (Tv Aa Aa) (wa Aa (wa Aa (Aj (Ao ?_))));obtain rfl:=Aq hP;exact Ap (Gs Tryz.results97 (AF Aa) (AF Aa)) (sS sN) ⟨Aa,Aa⟩
theorem Nq (q:AS)(addr:Int)(port:Int)(r:Bool)(h:Ji q addr port=some r):Fn Tryz.prog GE 99 [Bm (An q),Av addr,Av port] [] (λR H=>R=rB r∧H=[]):=by
 refine enter (n:=30) Tryz.func99 Aa Tryz.ntmps99 Aa (λw Z=>?_);unfold Ji at h;refine Ae (BC Aa Aa (λb1=>?_));refine wa Aa (Aj (ck h λg2 h3=>ck h3 λg4 h5=>ck h5 λg6 h7=>ck h7 λg8 h9=>ck h9 λhc hd=>AG [(6,rB ((decide ((ov (CA q))=0))&&((ov (Cy addr q.fAddr (q.fAddr+(ov (CV q.fBits)))))&&(ov (Cy port q.fLow q.fHigh)))))] [] ?_ ?_))
 ·refine AT (decide ((ov (CA q))=0)) (λha=>?_) (λha=>?_)
  ·refine AT ((ov (Cy addr q.fAddr (q.fAddr+(ov (CV q.fBits)))))) (λhb=>?_) (λhb=>?_)
   ·refine CR [1,2,3] ?_;refine rq (Bd (i:=0) Kr GC Aa Aa Aa Aa) (HD (Cj Tryz.call86 (Hn q (ov (CA q)) (D5 g2)) Aa) (rq (BD Aa Aa) (rq (Am Aa) (rg ha (Am Aa) (rg ha (As Ec Aa CM Aa Aa) (rg ha (AP (i:=0) D8 Aa Aa Aa) (rg ha (As Ec Aa CM Aa Aa) (rg ha (AP (i:=0) D8 Aa Aa Aa) (rg ha (As Ec Aa CM Aa Aa) (rg ha (AP (i:=0) D8 Aa Aa Aa) (ro ha (Cj Tryz.call138 (KH q.fBits (ov (CV q.fBits)) (D5 (BV g4 ha))) Aa) (rg ha (B3 Aa Aa (BV g6 ha)) (ro ha (Cj J2 (GX addr q.fAddr (q.fAddr+(ov (CV q.fBits))) (ov (Cy addr q.fAddr (q.fAddr+(ov (CV q.fBits))))) (D5 (BV g8 ha))) Aa) (rq (A8 Aa ha Aa) (rq (Am Aa) (rg hb (Am Aa) (rg hb (As Ec Aa CM Aa Aa) (rg hb (AP (i:=0) D8 Aa Aa Aa) (rg hb (As Ec Aa CM Aa Aa) (rg hb (AP (i:=0) D8 Aa Aa Aa) (ro hb (Cj J2 (GX port q.fLow q.fHigh (ov (Cy port q.fLow q.fHigh)) (D5 (BV (BV hc ha) hb))) Aa) (rq (A8 Aa hb Aa) (rq (A3 Aa) ?_)))))))))))))))))))))));refine re [6] ?_;exact Cl (And.intro ha hb)
   refine CR [1,2,3] ?_;refine rq (Bd (i:=0) Kr GC Aa Aa Aa Aa) (HD (Cj Tryz.call86 (Hn q (ov (CA q)) (D5 g2)) Aa) (rq (BD Aa Aa) (rq (Am Aa) (rg ha (Am Aa) (rg ha (As Ec Aa CM Aa Aa) (rg ha (AP (i:=0) D8 Aa Aa Aa) (rg ha (As Ec Aa CM Aa Aa) (rg ha (AP (i:=0) D8 Aa Aa Aa) (rg ha (As Ec Aa CM Aa Aa) (rg ha (AP (i:=0) D8 Aa Aa Aa) (ro ha (Cj Tryz.call138 (KH q.fBits (ov (CV q.fBits)) (D5 (BV g4 ha))) Aa) (rg ha (B3 Aa Aa (BV g6 ha)) (ro ha (Cj J2 (GX addr q.fAddr (q.fAddr+(ov (CV q.fBits))) (ov (Cy addr q.fAddr (q.fAddr+(ov (CV q.fBits))))) (D5 (BV g8 ha))) Aa) (rq (A8 Aa ha Aa) (rq (Am Aa) (rz hb (rz hb (rz hb (rz hb (rz hb (rz hb (rq (r:=rB false) (Ay (b:=(ov (Cy addr q.fAddr (q.fAddr+(ov (CV q.fBits)))))) Aa hb Aa) (rq (A3 Aa) ?_)))))))))))))))))))))));refine re [6] ?_;exact Cl (And.intro ha hb)
  refine CR [1,2,3] ?_;refine rq (Bd (i:=0) Kr GC Aa Aa Aa Aa) (HD (Cj Tryz.call86 (Hn q (ov (CA q)) (D5 g2)) Aa) (rq (BD Aa Aa) (rq (Am Aa) (rz ha (rz ha (rz ha (rz ha (rz ha (rz ha (rz ha (rz ha (rz ha (rz ha (rq (r:=rB false) (Ay (b:=decide ((ov (CA q))=0)) Aa ha Aa) (rq (Am Aa) (rz Aa (rz Aa (rz Aa (rz Aa (rz Aa (rz Aa (rq (r:=rB false) (Ay (b:=false) Aa Aa Aa) (rq (A3 Aa) ?_)))))))))))))))))))))));refine re [6] ?_;exact Cl ha
 refine Ao ?_;obtain rfl:=Aq hd;exact Ap (B1 Tryz.results99 (AF Aa)) sN ⟨Aa,Aa⟩
theorem KI (F:Nat)(l:(List AS))(addr:Int)(port:Int)(r:BY)(h:I3 F l addr port=some r):Fn Tryz.prog GE 39 [AC 5 (A1 An l),Av addr,Av port] [] (λR H=>R=Bm (HP r)∧H=[]):=by
 refine enter (n:=26) Tryz.func39 Aa Tryz.ntmps39 Aa (λw Z=>?_);unfold I3 at h;refine Ae (Bz (cs:=[rB false,Av 0]) Tryz.zeroValue63 Aa Aa (λb1=>?_));refine Aj (Ak (Ae (wm Aa (wv (Bi (ys:=l) (enc:=An) MJ Aa) (wv (r:=Av 0) (Am Aa) (Aj (AE (ob h λhf hg he=>Bx (S:=Nat×(Int)×(Unit)) (V:=(Unit)×(Unit)) 0 (λσ=>CW (λσ=>EI l addr port σ) σ.1 σ.2.1=some hf) (λσ=>[(1,Av addr),(2,Av port),(6,rP b1 0),(9,AC 5 (A1 An l)),(10,Av (l.length:Int)),(11,Av σ.2.1)]) (λσ=>[.blk b1 [rB false,Av 0] 63]) (λσ=>σ.1) (F,0,()) hg (AL.c Aa (AL.c5 Aa Aa Aa Aa Aa AL.nil)) (sC sN) (λσ=>EH =some r) (λσ=>[(6,rP b1 0)]) (λσ=>[.blk b1 [rB false,Av 0] 63]) ?_ ?_))))))))
 ·rintro⟨hz,ha,⟨⟩⟩ hh;refine GL ?_;obtain⟨hi,rfl,hj,hb,hd⟩:=Ck hh;replace hb:EI l addr port ha=some hj:=hb;unfold EI at hb;refine Ae (wv (C9 Aa Aa) (Aj (Ak (cz hb Aa (λc53 hk=>?_) (λc53 hl=>?_)))))
  ·refine A0 (AO (Ak (AE (Ae (wm Aa (ck hk λhm hn=>wv (Bs (enc:=An) (ys:=l) MJ GC Aa Aa hm) (wv (C1 Kr GC Aa Aa Aa) (Bz (cs:=[rB false,Av 0,Av 0,Av 0,Av 0]) Tryz.zeroValue111 Aa Aa (λh0=>?_)))))))));refine wa Aa (DW (i:=0) GC Aa Aa Aa (Bn.c Aa) Aa Aa ?_);refine Bc (wv (Bd (i:=0) Kr GC Aa Aa Aa Aa) (wm Aa (wm Aa (ob hn λho hp hq=>BU Tryz.call99 (Nq (Au l ha) addr port ho hp) Aa (Aj (cz hq Aa (λhr hs=>?_) (λhr ht=>?_)))))))
   ·refine Ae (vF Ec Aa GJ (vL 0 MB Aa (wm Aa (wv (r:=Bm [rB ((Au l ha).fAllow),Av ha]) (HM Aa Aa Aa Aa) (DW (i:=1) MN Aa Aa Aa (Bn.c Aa) Aa Aa ?_)))));refine Aj (Ao (Ax (Ab (Ab (Bo ?_)))));have hu:=BB hs hd he;refine Ax (Ab ?_);obtain rfl:=Aq hu;exact Ap (B1 Tryz.results39 (Cr (i:=1) RN MN Aa Aa Aa)) (sS (sS sN)) ⟨Aa,Aa⟩
   refine A0 (AH (AO (Al (ck ht λhv hw=>wv (B3 Aa Aa hv) (wm Aa (Ar ?_))))));have hx:=Bw hw hd;exact A2 (AN (hi,ha+1,()) ⟨hx,Vk _⟩ (AL.c Aa (AL.c5 Aa Aa Aa Aa Aa AL.nil)) (sS (sC sN)))
  refine Bt (Aw ?_);have hy:=BJ hl hd he;exact Aw (Bf (AN ((),()) hy (AL.c Aa AL.nil) (sC sN)))
 rintro⟨⟨⟩,⟨⟩⟩ hc;refine Hi ?_;replace hc:EH =some r:=hc;unfold EH at hc;refine Bb (AO (Ae (wv (r:=Bm [rB false,Av (-1)]) (JA Aa Aa) (DW (i:=0) MN Aa Aa Aa (Bn.c Aa) Aa Aa ?_))));refine Aj (Ao ?_);obtain rfl:=Aq hc;exact Ap (B1 Tryz.results39 (Cr (i:=0) RN MN Aa Aa Aa)) (sS sN) ⟨Aa,Aa⟩
end Go.Proofs.YtmjlemhondjfhaaGreatDoor.Q
namespace Go.Proofs.YtmjlemhondjfhaaGreatDoor
open Go
set_option linter.unusedVariables false
structure AV where
 fOp:Ai
 fArgs:(List (List Ac))
 deriving DecidableEq,Inhabited
structure Br where
 fTenant:Ai
 fFunction:Ai
 fOps:(List Ai)
 fPolicy:(List Af)
 fNet:(List AS)
 fNow:Int
 deriving DecidableEq,Inhabited
structure B6 where
 fKey:Ai
 fValue:(List Ac)
 fVersion:Int
 deriving DecidableEq,Inhabited
end Go.Proofs.YtmjlemhondjfhaaGreatDoor
namespace Go.Proofs.YtmjlemhondjfhaaGreatDoor.Q
open Go Go.RowKit
set_option linter.unusedVariables false
set_option linter.unusedSimpArgs false
set_option maxRecDepth 100000
set_option maxHeartbeats 4000000
@[reducible] def AB (x:(List Ac)):List Rp:=[AC 4 (A1 Ad x)]
theorem Cb (x:(List Ac)):(AB x).length=1:=rfl
@[reducible] def AM (x:AV):List Rp:=[rS x.fOp,AC 1 (A1 AB x.fArgs)]
@[reducible] def Bl (x:Br):List Rp:=[rS x.fTenant,rS x.fFunction,AC 1 (A1 eS x.fOps),AC 3 (A1 Ah x.fPolicy),AC 5 (A1 An x.fNet),Av x.fNow]
@[reducible] def By (x:B6):List Rp:=[rS x.fKey,AC 4 (A1 Ad x.fValue),Av x.fVersion]
theorem Lx (x:B6):(By x).length=3:=rfl
theorem T6:∃inf,Tryz.prog.info? 70=some inf∧inf.zero=some (.agg #[(.int .i64 0),(.int .i64 0),(.string ⟨#[]⟩),(.int .i64 0)])∧inf.size=4∧inf.bytes=40:=by
  have key:(Tryz.prog.info? 70).map (λi=>(i.zero,i.size,i.bytes))=some (some (.agg #[(.int .i64 0),(.int .i64 0),(.string ⟨#[]⟩),(.int .i64 0)]),4,40):=by kernel_rfl
  obtain⟨inf,h1,h2⟩:=Option.map_eq_some_iff.1 key;simp only[Prod.mk.injEq] at h2;exact⟨inf,h1,h2.1,h2.2.1,h2.2.2⟩
end Go.Proofs.YtmjlemhondjfhaaGreatDoor.Q
namespace Go.Proofs.YtmjlemhondjfhaaGreatDoor
open Go
set_option linter.unusedVariables false
structure Bv where
 fSecrets:(List (Ai×Int))
 deriving DecidableEq,Inhabited
structure Be where
 fText:Ai
 fBefore:Ai
 fVersion:Int
 fUntil:Int
 fNow:Int
 fBound:(List (Ai×Bool))
 deriving DecidableEq,Inhabited
def DJ (ys:(List Ac)):Option ((List Ac)):=
 Bg (DV 40 (([]:List Ac).length+ys.length))<|some (([]:List Ac)++ys)
def K5 (c:Int):Option (Bool):=
 some ((decide (c<33))||(decide (126<c)))
def Hv (ys:(List Int))(ha:Int):Option (Stp (Int) (Out (Int) (Unit))):=
 B4 (decide (ha<(ys.length:Int))) (Bg (Ca ha (ys.length:Int))<|Bq (K5 (Au ys ha)) λhb=>B4 (hb) (some (.out (.ret ha))) (Bg (Cf .i64 (ha+1))<|some (.next (ha+1)))) (some (.out (.go ())))
def Hu :Option (Int):=
 some (-1)
def Ow (F:Nat)(ys:(List Int)):Option (Int):=
 Bq (CW (λσ=>Hv ys σ) F 0) (Cv λν=>Hu )
def Hz (F:Nat)(ys:(List Int)):Option (Bool):=
 Bq (Ow F ys) λr1=>some (decide (0≤r1))
def Mj (F:Nat)(s:Ai):Option (Bool):=
 Bg (imp (!decide (s=([]:Ai))) (imp (decide ((s.length:Int)≤200)) (DV 1 s.length)))<|Bg (imp (!decide (s=([]:Ai))) (imp (decide ((s.length:Int)≤200)) ((Hz F (D6 s)).isSome)))<|some ((!decide (s=([]:Ai)))&&((decide ((s.length:Int)≤200))&&(!(ov (Hz F (D6 s))))))
def QD :Option ((Bv×(List Be))):=
 some ((Bv.mk ([]:List (Ai×Int))),([]:List Be))
def K9 (v:Bv)(ha:(List Be))(name:Ai):Option (Int×Int):=
 B4 (!(GM v.fSecrets name)) (some ((-1),5)) (some (Jk v.fSecrets name (-1),0))
def QC (F:Nat)(v:Bv)(ha:(List Be))(name:Ai)(text:Ai):Option (Int×Bv×(List Be)):=
 Bq (K9 v ha name) λr1=>B4 (decide (r1.2=10)) (some (r1.2,v,ha)) (B4 (!(D0 name)) (some (4,v,ha)) (Bq (Mj F text) λhb=>B4 (!hb) (some (1,v,ha)) (B4 (decide (r1.2=0)) (some (6,v,ha)) (B4 (decide (256≤(v.fSecrets.length:Int))) (some (3,v,ha)) (some (0,(Bv.mk (Ge v.fSecrets name (ha.length:Int))),ha++[(Be.mk text ([]:Ai) 1 0 0 ([]:List (Ai×Bool)))]))))))
def Og (v:Bv)(ha:(List Be))(name:Ai)(function:Ai):Option (Int×Bv×(List Be)):=
 Bq (K9 v ha name) λr1=>B4 (!decide (r1.2=0)) (some (r1.2,v,ha)) (B4 (!(D0 function)) (some (4,v,ha)) (Bg (Ca r1.1 (ha.length:Int))<|B4 (Jk ((Au ha r1.1).fBound) function false) (some (6,v,ha)) (B4 (decide (32≤(((Au ha r1.1).fBound).length:Int))) (some (3,v,ha)) (some (0,v,List.set ha (Int.toNat r1.1) (Be.mk ((Au ha r1.1).fText) ((Au ha r1.1).fBefore) ((Au ha r1.1).fVersion) ((Au ha r1.1).fUntil) ((Au ha r1.1).fNow) (Ge ((Au ha r1.1).fBound) function true)))))))
def Of (v:Bv)(ha:(List Be))(name:Ai)(function:Ai):Option (Ai×Int×Int):=
 Bq (K9 v ha name) λr1=>B4 (!decide (r1.2=0)) (some (([]:Ai),0,r1.2)) (Bg (Ca r1.1 (ha.length:Int))<|B4 (!(Jk ((Au ha r1.1).fBound) function false)) (some (([]:Ai),0,12)) (some ((Au ha r1.1).fText,(Au ha r1.1).fVersion,0)))
def ED (ha:(List Be))(he:Ai)(hb:Int)(hd:Int)(hc:Int):Option (Stp (Int×Int) (Out (Stp (Int) (Out (Stp (Ai×Ai) (Out (Ai) (Ai))) (Int))) (Int×Int×Bool))):=
 B4 (decide (hc<(([(Au ha hb).fText,(Au ha hb).fBefore]:List Ai).length:Int))) (Bg (Ca hc (([(Au ha hb).fText,(Au ha hb).fBefore]:List Ai).length:Int))<|Bg ((Dd he (Au ([(Au ha hb).fText,(Au ha hb).fBefore]:List Ai) hc)).isSome)<|Bg (Cf .i64 (hc+1))<|some (.next ((bif (ov (Dd he (Au ([(Au ha hb).fText,(Au ha hb).fBefore]:List Ai) hc))) then max hd ((Au ([(Au ha hb).fText,(Au ha hb).fBefore]:List Ai) hc).length:Int) else hd),hc+1))) (some (.out (.go (hd,hc,decide (hc<(([(Au ha hb).fText,(Au ha hb).fBefore]:List Ai).length:Int))))))
def EB (ha:Int)(hb:Int)(hc:Bool):Option (Stp (Int) (Out (Stp (Ai×Ai) (Out (Ai) (Ai))) (Int))):=
 some (.next ha)
def EE (F:Nat)(ha:(List Be))(hc:Ai)(he:Ai)(hb:Int)(hd:Int):Option (Stp (Int) (Out (Stp (Ai×Ai) (Out (Ai) (Ai))) (Int))):=
 Bg (Ca hb (ha.length:Int))<|Bq (CW (λσ=>ED ha hc hb σ.1 σ.2) F (hd,0)) (Cv λν=>EB ν.1 ν.2.1 ν.2.2)
def Dz (ha:Ai)(hb:Ai)(hc:Int):Option (Stp (Ai×Ai) (Out (Ai) (Ai))):=
 B4 (decide (hc=0)) (Bg (Ca 0 (ha.length:Int))<|Bg (DV 1 (hb.length+1))<|Bg (Cf .u8 (C2 ha 0))<|IX (hb++[UInt8.ofNat (Int.toNat (C2 ha 0))]) λhd=>Bg (JN 1 (ha.length:Int))<|some (.next (List.drop (Int.toNat 1) ha,hd))) (Bg (DV 1 (hb.length+([42,42,42]:Ai).length))<|IX (hb++([42,42,42]:Ai)) λhe=>Bg (JN hc (ha.length:Int))<|some (.next (List.drop (Int.toNat hc) ha,he)))
def EF (F:Nat)(v:Bv)(hc:(List Be))(ha:Ai)(hb:Ai):Option (Stp (Ai×Ai) (Out (Ai) (Ai))):=
 B4 (!decide (ha=([]:Ai))) (Ty v.fSecrets λord=>Bq (Rb (λpe τ=>EE F hc ha pe.1 pe.2 τ) ord 0) (Cv λν=>Dz ha hb ν)) (some (.out (.go hb)))
def EC (ha:Ai):Option (Ai):=
 Bg (decide (0<ha.length))<|some ha
def K7 (F:Nat)(v:Bv)(ha:(List Be))(s:Ai):Option (Ai):=
 Bq (CW (λσ=>EF F v ha σ.1 σ.2) F (s,([]:Ai))) (Cv λν=>EC ν)
end Go.Proofs.YtmjlemhondjfhaaGreatDoor
namespace Go.Proofs.YtmjlemhondjfhaaGreatDoor.Q
open Go Go.RowKit
set_option linter.unusedVariables false
set_option linter.unusedSimpArgs false
set_option linter.unusedSectionVars false
section
variable {P : Program} {n : Nat} {c : Cx} {ops : Array Oper} {Q : Exit → Act → World → Prop} {rest : List Oper} {l : Fr} {H H' Hr : List Ent} {d k b rz : Nat} {ty t e re : TypeId} {pos : String} {af : Array Edge} {pv r : Value} {cs : List Rp} {ys : List (List Rp)} {K : Act → World → Prop} {cx : Code}
section
variable {Z : Fz} {w : World} {xs : List ((Value → List Rp) × List (List Rp))}
end
def SR (l:Fr)(k:Nat)(i:Int):List Nat→Prop
 | []=>True
 | d::ds=>look l d=some (RG k i 0)∧SR l k i ds
def Uw (b:Nat):List Nat→Fr→Fr
 | [],l=>l
 | d::ds,l=>(d,rv (.pointer (some ⟨b,0,none⟩)))::Uw b ds l
def SO (k:Nat)(i:Int):List Nat→Fr→Fr
 | [],l=>l
 | d::ds,l=>(d,RG k i 0)::SO k i ds l
theorem OD {Z:Fz}{a:Act}{i:Int}{l:Fr}(ha:Ch n l a Z)(h0:0≤i)(hn:Z.nm k i.toNat=some b):∀{ds:List Nat},SR l k i ds→Ch n (Uw b ds l) a Z
 | [],_=>ha
 | d::ds,⟨h1,h2⟩=>by
  have h3:=OD ha h0 hn h2;refine⟨h3.size,h3.defers,λj u hj=>?_⟩;rw[Uw,BH] at hj
  split at hj
  ·rename_i e;subst e;simp at hj;subst hj
   obtain⟨v,h4,h5⟩:=ha.tm d _ h1
   change Qu k i 0 Z v at h5
   unfold Qu at h5;rw[VF (by omega)] at h5;obtain⟨b',g1,g2⟩:=h5;rw[hn] at g1;obtain rfl:=Option.some.inj g1;exact⟨v,h4,g2⟩
  ·exact h3.tm j u hj
theorem If {Z:Fz}{a:Act}{i:Int}{l:Fr}(ha:Ch n l a Z)(h0:0≤i)(hn:Z.nm k i.toNat=some b):∀{ds:List Nat},Lk l b ds→Ch n (SO k i ds l) a Z
 | [],_=>ha
 | d::ds,⟨h1,h2⟩=>by
  have h3:=If ha h0 hn h2;refine⟨h3.size,h3.defers,λj u hj=>?_⟩;rw[SO,BH] at hj
  split at hj
  ·rename_i e;subst e;simp at hj;subst hj
   obtain⟨v,h4,h5⟩:=ha.tm d _ h1;refine⟨v,h4,?_⟩;show Qu k i 0 Z v;unfold Qu;rw[VF (by omega)];exact⟨b,hn,h5⟩
  ·exact h3.tm j u hj
section
variable {β : Type} [Inhabited β] {xs : List β} {encw : β → (Value → List Rp) × List (List Rp)} {i : Int} {y : β}
end
end
section
variable {P : Program} {n : Nat} {c : Cx} {ops : Array Oper} {Q : Exit → Act → World → Prop} {rest : List Oper} {l : Fr} {H H' Hr : List Ent} {d k b r : Nat} {ty t e : TypeId} {pos : String} {af : Array Edge} {pv : Value} {cs : List Rp} {ys : List (List UInt8 × Rp)} {K : Act → World → Prop} {cx : Code}
theorem NA {ps:List (Nat×Nat)}{i:Nat}{p:Nat×Nat}(h:ps[i]? =some p):(LP ps).Perm (([p.1,p.2])++LP (ps.eraseIdx i)):=by
 have:ps.Perm (p::ps.eraseIdx i):=by
  induction ps generalizing i with
  | nil=>cases h
  | cons x r ih=>
   cases i with
   | zero=>simp at h;subst h;exact Vi _
   | succ i=>
    simp at h;exact((ih h).cons x).trans (List.Perm.swap p x _)
 exact this.flatMap_right _
theorem SI {ps:List (Nat×Nat)}{i:Nat}{p q:Nat×Nat}(h:ps[i]? =some p):(LP (ps.set i q)).Perm (([q.1,q.2])++LP (ps.eraseIdx i)):=by
 have hi:=(List.getElem?_eq_some_iff.1 h).1;have h1:=NA (ps:=ps.set i q) (i:=i) (p:=q) (by simp[hi]);have h2:(ps.set i q).eraseIdx i=ps.eraseIdx i:=by
  refine List.ext_getElem? λj=>?_;rw[List.getElem?_eraseIdx,List.getElem?_eraseIdx]
  split
  ·rw[List.getElem?_set_ne (by omega)]
  ·rw[List.getElem?_set_ne (by omega)]
 rw[h2] at h1;exact h1
theorem Pn (ps:List (Nat×Nat))(q:Nat×Nat):LP (ps++[q])=LP ps++([q.1,q.2]):=by
 unfold LP;rw[List.flatMap_append];simp
section
variable {Z : Fz} {w : World} {xs : List ((Nat → List Rp) × List (List UInt8 × Rp))}
theorem St.mtakeout (h:St c (.poolm k pv e xs none::Hr) Z w){i:Nat}(hi:i<xs.length) :
  ∃b r,Z.nm k i=some b∧St c (.blk b (xs[i].1 r) e::.map r xs[i].2::.poolm k pv e xs (some (i,(b,r)))::Hr) Z w:=by
 obtain⟨hl,hn,hm,_,hx⟩:=h.has (.poolm k pv e xs none) (by simp);have hp:(Df pv)[i]? =some (Df pv)[i]:=Vh (by omega);generalize(Df pv)[i]=p at hp;obtain⟨b,r⟩:=p;have hperm:=NA hp;have hnd:=hperm.nodup hn;have hd:=List.pairwise_cons.1 h.dis;have gd:=List.pairwise_cons.1 h.gst.dis;obtain⟨⟨us,h1,h2⟩,es,ck,h4,h5⟩:=hx i (b,r) xs[i] hp (Vh hi) (λo ho=>by cases ho);rw[List.nodup_append] at hnd;have hin:∀q,q∈[b,r]∨q∈LP ((Df pv).eraseIdx i)→q∈(Ent.poolm k pv e xs none).foot:=λq hq=>hperm.symm.subset (List.mem_append.2 hq);have fb:∀q∈(Ent.blk b (xs[i].1 r) e).foot,q∈(Ent.poolm k pv e xs none).foot:=λq hq=>hin q (.inl (by simp[Ent.foot] at hq;simp[hq]));have fr:∀q∈(Ent.map r xs[i].2).foot,q∈(Ent.poolm k pv e xs none).foot:=λq hq=>hin q (.inl (List.mem_cons_of_mem _ hq));have fo:∀q∈(Ent.poolm k pv e xs (some (i,(b,r)))).foot,q∈(Ent.poolm k pv e xs none).foot:=λq hq=>hin q (.inr hq);have hmem:∀en∈(.blk b (xs[i].1 r) e::.map r xs[i].2::.poolm k pv e xs (some (i,(b,r)))::Hr:List Ent),(∀q∈en.foot,q∈(Ent.poolm k pv e xs none).foot)∨en∈Hr:=λen he=>by
  simp only[VE] at he;rcases he with rfl | rfl | rfl | he
  ·exact .inl fb
  ·exact .inl fr
  ·exact .inl fo
  ·exact .inr he
 have hgk:∀en∈(.blk b (xs[i].1 r) e::.map r xs[i].2::.poolm k pv e xs (some (i,(b,r)))::Hr:List Ent),∀q∈en.gk,∃en'∈(.poolm k pv e xs none::Hr:List Ent),q∈en'.gk∧en'.gn=en.gn:=λen he q hq=>by
  simp only[VE] at he;rcases he with rfl | rfl | rfl | he
  ·cases hq
  ·cases hq
  ·exact⟨_,List.mem_cons_self ..,hq,rfl⟩
  ·exact⟨en,List.mem_cons_of_mem _ he,hq,rfl⟩
 refine⟨b,r,hm i _ hp,{ h with has:=λen he=>?_,own:=λen he q hq=>?_,dis:=?_,zdis:=λen he q hq=>?_,gst:=⟨λen he q hq=>?_,λen he q hq=>?_,?_,h.gst.new,λen he q hq j hj=>?_⟩ }⟩
 ·simp only[VE] at he;rcases he with rfl | rfl | rfl | he
  ·exact⟨us,h1,h2⟩
  ·exact⟨es,ck,h4,h5⟩
  ·exact⟨hl,hnd.2.1,hm,λo ho=>by cases ho;exact hp,λj p x hj hxj hne=>hx j p x hj hxj (λo ho=>by cases ho)⟩
  ·exact h.has en (List.mem_cons_of_mem _ he)
 ·rcases hmem en he with h6 | h6
  ·exact h.own _ (List.mem_cons_self ..) q (h6 q hq)
  ·exact h.own en (List.mem_cons_of_mem _ h6) q hq
 ·have hbr:=List.nodup_cons.1 hnd.1;refine List.pairwise_cons.2 ⟨λen he q hq hq'=>?_,List.pairwise_cons.2 ⟨λen he q hq hq'=>?_,List.pairwise_cons.2 ⟨λen he q hq hq'=>hd.1 en he q (fo q hq) hq',hd.2⟩⟩⟩
  ·have e1:q=b:=by simpa[Ent.foot] using hq
   subst e1;simp only[VE] at he;rcases he with rfl | rfl | he
   ·exact hbr.1 hq'
   ·exact hnd.2.2 q (List.mem_cons_self ..) q hq' rfl
   ·exact hd.1 en he q (fb q hq) hq'
  ·simp only[VE] at he;rcases he with rfl | he
   ·exact hnd.2.2 q (List.mem_cons_of_mem _ hq) q hq' rfl
   ·exact hd.1 en he q (fr q hq) hq'
 ·rcases hmem en he with h6 | h6
  ·exact h.zdis _ (List.mem_cons_self ..) q (h6 q hq)
  ·exact h.zdis en (List.mem_cons_of_mem _ h6) q hq
 ·obtain⟨en',h6,h7,_⟩:=hgk en he q hq;exact h.gst.own en' h6 q h7
 ·obtain⟨en',h6,h7,_⟩:=hgk en he q hq;exact h.gst.sz en' h6 q h7
 ·exact List.pairwise_cons.2 ⟨λ_ _ _ hq=>(by cases hq),List.pairwise_cons.2 ⟨λ_ _ _ hq=>(by cases hq),List.pairwise_cons.2 ⟨gd.1,gd.2⟩⟩⟩
 ·obtain⟨en',h6,h7,h8⟩:=hgk en he q hq;exact h.gst.cap en' h6 q h7 j (by rw[h8];exact hj)
theorem St.mputback {i:Nat}{r0:Nat}{y:(Nat→List Rp)×List (List UInt8×Rp)}(h:St c (.blk b cs e::.map r ys::.poolm k pv e xs (some (i,(b,r0)))::Hr) Z w)(hcs:y.1 r=cs)(hys:y.2=ys){pv':Value}(hpv:Df pv'=(Df pv).set i (b,r)) :
  Z.nm k i=some b∧St c (.poolm k pv' e (xs.set i y) none::Hr) Z w:=by
 obtain⟨us,h1,h2⟩:=h.has (.blk b cs e) (by simp);obtain⟨es,ck,h4,h5⟩:=h.has (.map r ys) (by simp);obtain⟨hl,hn,hm,ho,hx⟩:=h.has (.poolm k pv e xs (some (i,(b,r0)))) (by simp);have hp:(Df pv)[i]? =some (b,r0):=ho _ rfl;have hi:i<(Df pv).length:=(List.getElem?_eq_some_iff.1 hp).1;have hd:=List.pairwise_cons.1 h.dis;have hd2:=List.pairwise_cons.1 hd.2;have hd3:=List.pairwise_cons.1 hd2.2;have gd:=List.pairwise_cons.1 (List.pairwise_cons.1 (List.pairwise_cons.1 h.gst.dis).2).2;have hperm:=SI (q:=(b,r)) hp;have hback:∀q∈(Ent.poolm k pv' e (xs.set i y) none).foot,q=b∨q∈[r]∨q∈(Ent.poolm k pv e xs (some (i,(b,r0)))).foot:=λq hq=>by
  have h6:q∈LP ((Df pv).set i (b,r)):=by rw[← hpv];exact hq
  rcases List.mem_append.1 (hperm.subset h6) with h7 | h7
  ·rcases List.mem_cons.1 h7 with h8 | h8
   ·exact .inl h8
   ·exact .inr (.inl h8)
  ·exact .inr (.inr h7)
 have hbr:b ∉ [r]:=λhb=>hd.1 (.map r ys) (by simp) b (by simp[Ent.foot]) hb;have hbo:b ∉ (Ent.poolm k pv e xs (some (i,(b,r0)))).foot:=λhb=>hd.1 (.poolm k pv e xs (some (i,(b,r0)))) (by simp) b (by simp[Ent.foot]) hb;have hro:∀q∈[r],q ∉ (Ent.poolm k pv e xs (some (i,(b,r0)))).foot:=λq hq hq'=>hd2.1 (.poolm k pv e xs (some (i,(b,r0)))) (by simp) q hq hq';have hrn:([r]).Nodup:=by simp
 refine⟨hm i _ hp,{ h with has:=λen he=>?_,own:=λen he q hq=>?_,dis:=List.pairwise_cons.2 ⟨λen he q hq hq'=>?_,hd3.2⟩,zdis:=λen he q hq=>?_,gst:=⟨λen he q hq=>?_,λen he q hq=>?_,List.pairwise_cons.2 ⟨gd.1,gd.2⟩,h.gst.new,λen he q hq j hj=>?_⟩ }⟩
 ·rcases List.mem_cons.1 he with rfl | he
  ·refine⟨by rw[hpv];simpa using hl,?_,λj p hj=>?_,λo ho=>(by cases ho),λj p x hj hxj _=>?_⟩
   ·show(LP (Df pv')).Nodup;rw[hpv];refine hperm.symm.nodup ?_;rw[List.nodup_append];exact⟨List.nodup_cons.2 ⟨hbr,hrn⟩,hn,λq hq q' hq' e=>by
     subst e;rcases List.mem_cons.1 hq with rfl | hq
     ·exact hbo hq'
     ·exact hro q hq hq'⟩
   ·rw[hpv,List.getElem?_set] at hj
    split at hj
    ·rename_i e1;subst e1;simp[hi] at hj;subst hj;exact(hm i _ hp:Z.nm k i=some b)
    ·exact hm j p hj
   ·rw[hpv,List.getElem?_set] at hj;rw[List.getElem?_set] at hxj
    by_cases e1:i=j
    ·subst e1;rw[VP rfl,VP hi] at hj;rw[VP rfl,VP (by omega)] at hxj
     cases hj;cases hxj
     subst hcs;subst hys;exact⟨⟨us,h1,h2⟩,es,ck,h4,h5⟩
    ·rw[VF e1] at hj hxj;exact hx j p x hj hxj (λo ho=>by cases ho;exact e1)
  ·exact h.has en (by simp[he])
 ·rcases List.mem_cons.1 he with rfl | he
  ·rcases hback q hq with rfl | h6 | h6
   ·exact h.own (.blk q cs e) (by simp) q (by simp[Ent.foot])
   ·exact h.own (.map r ys) (by simp) q h6
   ·exact h.own (.poolm k pv e xs (some (i,(b,r0)))) (by simp) q h6
  ·exact h.own en (by simp[he]) q hq
 ·rcases hback q hq with rfl | h6 | h6
  ·exact hd.1 en (by simp[he]) q (by simp[Ent.foot]) hq'
  ·exact hd2.1 en (by simp[he]) q h6 hq'
  ·exact hd3.1 en he q h6 hq'
 ·rcases List.mem_cons.1 he with rfl | he
  ·rcases hback q hq with rfl | h6 | h6
   ·exact h.zdis (.blk q cs e) (by simp) q (by simp[Ent.foot])
   ·exact h.zdis (.map r ys) (by simp) q h6
   ·exact h.zdis (.poolm k pv e xs (some (i,(b,r0)))) (by simp) q h6
  ·exact h.zdis en (by simp[he]) q hq
 ·rcases List.mem_cons.1 he with rfl | he
  ·exact h.gst.own (.poolm k pv e xs (some (i,(b,r0)))) (by simp) q hq
  ·exact h.gst.own en (by simp[he]) q hq
 ·rcases List.mem_cons.1 he with rfl | he
  ·exact h.gst.sz (.poolm k pv e xs (some (i,(b,r0)))) (by simp) q hq
  ·exact h.gst.sz en (by simp[he]) q hq
 ·rcases List.mem_cons.1 he with rfl | he
  ·refine h.gst.cap (.poolm k pv e xs (some (i,(b,r0)))) (by simp) q hq j ?_;have:(Df pv').length≤j:=hj;rw[hpv,List.length_set] at this;exact this
  ·exact h.gst.cap en (by simp[he]) q hq j hj
theorem St.mputsame {i:Nat}(hi:i<xs.length)(h:St c (.blk b (xs[i].1 r) e::.map r xs[i].2::.poolm k pv e xs (some (i,(b,r)))::Hr) Z w):Z.nm k i=some b∧St c (.poolm k pv e xs none::Hr) Z w:=by
 obtain⟨hl,hn,hm,ho,hx⟩:=h.has (.poolm k pv e xs (some (i,(b,r)))) (by simp);have hp:(Df pv)[i]? =some (b,r):=ho _ rfl;have h1:=St.mputback (y:=xs[i]) (pv':=pv) h rfl rfl (by
  refine(List.ext_getElem? λj=>?_);rw[List.getElem?_set]
  split
  ·rename_i e1;subst e1
   have:=(List.getElem?_eq_some_iff.1 hp).1;rw[VP this,hp]
  ·rfl)
 rw[List.set_getElem_self] at h1;exact h1
theorem St.adoptM {y:(Nat→List Rp)×List (List UInt8×Rp)}(h:St c (.blk b cs e::.map r ys::.poolm k pv e xs none::Hr) Z w)(hcs:y.1 r=cs)(hys:y.2=ys){pv':Value}(hpv:Df pv'=Df pv++[(b,r)]) :
  ∃Z',Fz.le Z Z'∧Z'.nm k xs.length=some b∧St c (.poolm k pv' e (xs++[y]) none::Hr) Z' w:=by
 obtain⟨us,h1,h2⟩:=h.has (.blk b cs e) (by simp);obtain⟨es,ck,h4,h5⟩:=h.has (.map r ys) (by simp);obtain⟨hl,hn,hm,ho,hx⟩:=h.has (.poolm k pv e xs none) (by simp);have hd:=List.pairwise_cons.1 h.dis;have hd2:=List.pairwise_cons.1 hd.2;have hd3:=List.pairwise_cons.1 hd2.2;have gd:=List.pairwise_cons.1 (List.pairwise_cons.1 (List.pairwise_cons.1 h.gst.dis).2).2;have hcap:=h.gst.cap (.poolm k pv e xs none) (by simp) k (by simp[Ent.gk]);have hksz:=h.gst.sz (.poolm k pv e xs none) (by simp) k (by simp[Ent.gk]);have hkown:=h.gst.own (.poolm k pv e xs none) (by simp) k (by simp[Ent.gk])
 let Z':Fz:=⟨Z.f,λq i=>if q=k∧i=xs.length then some b else Z.nm q i⟩
 have hnew:Z'.nm k xs.length=some b:=by simp[Z']
 have hle:Fz.le Z Z':=⟨λ_ _ h=>h,λq i b' hq=>by
  by_cases hqi:q=k∧i=xs.length
  ·obtain⟨rfl,rfl⟩:=hqi;rw[hcap _ (by simp[Ent.gn,hl])] at hq;cases hq
  ·simpa[Z',hqi] using hq⟩
 have hbr:b ∉ [r]:=λhb=>hd.1 (.map r ys) (by simp) b (by simp[Ent.foot]) hb;have hbo:b ∉ (Ent.poolm k pv e xs none).foot:=λhb=>hd.1 (.poolm k pv e xs none) (by simp) b (by simp[Ent.foot]) hb;have hro:∀q∈[r],q ∉ (Ent.poolm k pv e xs none).foot:=λq hq hq'=>hd2.1 (.poolm k pv e xs none) (by simp) q hq hq';have hrn:([r]).Nodup:=by simp
 have hback:∀q∈(Ent.poolm k pv' e (xs++[y]) none).foot,q=b∨q∈[r]∨q∈(Ent.poolm k pv e xs none).foot:=λq hq=>by
  have h6:q∈LP (Df pv++[(b,r)]):=by rw[← hpv];exact hq
  rw[Pn] at h6;rcases List.mem_append.1 h6 with h7 | h7
  ·exact .inr (.inr h7)
  ·rcases List.mem_cons.1 h7 with h8 | h8
   ·exact .inl h8
   ·exact .inr (.inl h8)
 refine⟨Z',hle,hnew,{ h with has:=λen he=>?_,own:=λen he q hq=>?_,dis:=List.pairwise_cons.2 ⟨λen he q hq hq'=>?_,hd3.2⟩,frz:=⟨λb o hb=>h.frz.f b o hb,λq i b' hq=>?_⟩,le:=h.le.trans hle,new:=λb o hb=>h.new b o hb,zdis:=λen he q hq=>?_,env:=h.emono hle h.env,gst:=⟨λen he q hq=>?_,λen he q hq=>?_,List.pairwise_cons.2 ⟨gd.1,gd.2⟩,λq i b' hq=>?_,λen he q hq i hi=>?_⟩ }⟩
 ·rcases List.mem_cons.1 he with rfl | he
  ·refine⟨by rw[hpv];simp[hl],?_,λj p hj=>?_,λo ho=>(by cases ho),λj p x hj hxj _=>?_⟩
   ·show(LP (Df pv')).Nodup;rw[hpv,Pn,List.nodup_append];exact⟨hn,List.nodup_cons.2 ⟨hbr,hrn⟩,λq hq q' hq' e=>by
     subst e;rcases List.mem_cons.1 hq' with rfl | hq'
     ·exact hbo hq
     ·exact hro q hq' hq⟩
   ·rw[hpv] at hj
    by_cases hjl:j<(Df pv).length
    ·rw[VD hjl] at hj;exact hle.nm k j _ (hm j p hj)
    ·have hj2:j=(Df pv).length:=by have:=(List.getElem?_eq_some_iff.1 hj).1;simp at this;omega
     subst hj2;simp at hj;subst hj;rw[hl];exact hnew
   ·rw[hpv] at hj
    by_cases hjl:j<(Df pv).length
    ·rw[VD hjl] at hj;rw[VD (by omega)] at hxj;obtain⟨⟨us',g1,g2⟩,es',ck',g4,g5⟩:=hx j p x hj hxj (λo ho=>by cases ho);exact⟨⟨us',g1,g2.mono hle⟩,es',ck',g4,g5.mono hle⟩
    ·have hj2:j=(Df pv).length:=by have:=(List.getElem?_eq_some_iff.1 hj).1;simp at this;omega
     subst hj2;simp at hj;subst hj;rw[hl] at hxj;simp at hxj;subst hxj;subst hcs;subst hys;exact⟨⟨us,h1,h2.mono hle⟩,es,ck,h4,h5.mono hle⟩
  ·exact Ent.keep (h.has en (by simp[he])) hle λ_ _=>rfl
 ·rcases List.mem_cons.1 he with rfl | he
  ·rcases hback q hq with rfl | h6 | h6
   ·exact h.own (.blk q cs e) (by simp) q (by simp[Ent.foot])
   ·exact h.own (.map r ys) (by simp) q h6
   ·exact h.own (.poolm k pv e xs none) (by simp) q h6
  ·exact h.own en (by simp[he]) q hq
 ·rcases hback q hq with rfl | h6 | h6
  ·exact hd.1 en (by simp[he]) q (by simp[Ent.foot]) hq'
  ·exact hd2.1 en (by simp[he]) q h6 hq'
  ·exact hd3.1 en he q h6 hq'
 ·by_cases hqi:q=k∧i=xs.length
  ·rw[hqi.1];exact hksz
  ·exact h.frz.nm q i b' (by simpa[Z',hqi] using hq)
 ·rcases List.mem_cons.1 he with rfl | he
  ·rcases hback q hq with rfl | h6 | h6
   ·exact h.zdis (.blk q cs e) (by simp) q (by simp[Ent.foot])
   ·exact h.zdis (.map r ys) (by simp) q h6
   ·exact h.zdis (.poolm k pv e xs none) (by simp) q h6
  ·exact h.zdis en (by simp[he]) q hq
 ·rcases List.mem_cons.1 he with rfl | he
  ·simp[Ent.gk] at hq;subst hq;exact hkown
  ·exact h.gst.own en (by simp[he]) q hq
 ·rcases List.mem_cons.1 he with rfl | he
  ·simp[Ent.gk] at hq;subst hq;exact hksz
  ·exact h.gst.sz en (by simp[he]) q hq
 ·by_cases hqi:q=k∧i=xs.length
  ·rw[hqi.1];exact .inr hkown
  ·exact h.gst.new q i b' (by simpa[Z',hqi] using hq)
 ·rcases List.mem_cons.1 he with rfl | he
  ·simp[Ent.gk] at hq;subst hq;have hi':(Df pv').length≤i:=hi;rw[hpv,List.length_append] at hi';simp at hi';have hne : ¬ i=xs.length:=by omega
   simp only[Z',hne,and_false,VC];exact hcap i (by simp[Ent.gn];omega)
  ·have hqk:q≠k:=λe1=>gd.1 en he k (by simp[Ent.gk]) (e1▸hq);simp only[Z',hqk,false_and,VC];exact h.gst.cap en (by simp[he]) q hq i hi
end
section
variable {β : Type} [Inhabited β] {xs : List β} {encw : β → (Nat → List Rp) × List (List UInt8 × Rp)} {i : Int} {y : β}
theorem St.mtakeoutE {Z:Fz}{w:World}(hw:St c H Z w)(hp:H.Perm (.poolm k pv e (xs.map encw) none::Hr))(hg:Ca i (xs.length:Int)=true) :
  ∃b r,0≤i∧Z.nm k i.toNat=some b∧St c (.blk b ((encw (Au xs i)).1 r) e::.map r (encw (Au xs i)).2::.poolm k pv e (xs.map encw) (some (i.toNat,(b,r)))::Hr) Z w:=by
 have h0:=(BA hg).1;have h1:i.toNat<xs.length:=by have:=(BA hg).2;omega
 obtain⟨b,r,h2,h3⟩:=(hw.perm hp).mtakeout (i:=i.toNat) (by simpa using h1);have e1:(xs.map encw)[i.toNat]'(by simpa using h1)=encw (Au xs i):=by simp[Au,h1]
 rw[e1] at h3;exact⟨b,r,h0,h2,h3⟩
theorem WL.mtakeout (hp:H.Perm (.poolm k pv e (xs.map encw) none::Hr))(hg:Ca i (xs.length:Int)=true)(ds:List Nat)(hd:SR l k i ds)
  (h:∀b r,WL P n c ops Q rest (Uw b ds l) (.blk b ((encw (Au xs i)).1 r) e::.map r (encw (Au xs i)).2::.poolm k pv e (xs.map encw) (some (i.toNat,(b,r)))::Hr)):WL P n c ops Q rest l H:=λa w Z ha hw=>by
 obtain⟨b,r,h0,h1,h2⟩:=St.mtakeoutE hw hp hg;exact h b r a w Z (OD ha h0 h1 hd) h2
theorem WC.mtakeout (hp:H.Perm (.poolm k pv e (xs.map encw) none::Hr))(hg:Ca i (xs.length:Int)=true)(ds:List Nat)(hd:SR l k i ds)
  (h:∀b r,WC P n c cx Q (Uw b ds l) (.blk b ((encw (Au xs i)).1 r) e::.map r (encw (Au xs i)).2::.poolm k pv e (xs.map encw) (some (i.toNat,(b,r)))::Hr)):WC P n c cx Q l H:=λa w Z ha hw=>by
 obtain⟨b,r,h0,h1,h2⟩:=St.mtakeoutE hw hp hg;exact h b r a w Z (OD ha h0 h1 hd) h2
theorem St.mputbackE {Z:Fz}{w:World}{r0:Nat}(hw:St c H Z w)(hp:H.Perm (.blk b cs e::.map r ys::.poolm k pv e (xs.map encw) (some (i.toNat,(b,r0)))::Hr))(hcs:(encw y).1 r=cs)(hys:(encw y).2=ys) :
  ∃pv',Z.nm k i.toNat=some b∧St c (.poolm k pv' e ((xs.set i.toNat y).map encw) none::Hr) Z w:=by
 obtain⟨h1,h2⟩:=(hw.perm hp).mputback (y:=encw y) (pv':=Su ((Df pv).set i.toNat (b,r))) hcs hys (Pb _);rw[← List.map_set] at h2;exact⟨_,h1,h2⟩
theorem WL.mputback {r0:Nat}(hp:H.Perm (.blk b cs e::.map r ys::.poolm k pv e (xs.map encw) (some (i.toNat,(b,r0)))::Hr))(hg:Ca i (xs.length:Int)=true)(ds:List Nat)(hd:Lk l b ds)(hcs:(encw y).1 r=cs)(hys:(encw y).2=ys)
  (h:∀pv',WL P n c ops Q rest (SO k i ds l) (.poolm k pv' e ((xs.set i.toNat y).map encw) none::Hr)):WL P n c ops Q rest l H:=λa w Z ha hw=>by
 obtain⟨pv',h1,h2⟩:=St.mputbackE hw hp hcs hys;exact h pv' a w Z (If ha (BA hg).1 h1 hd) h2
theorem WC.mputback {r0:Nat}(hp:H.Perm (.blk b cs e::.map r ys::.poolm k pv e (xs.map encw) (some (i.toNat,(b,r0)))::Hr))(hg:Ca i (xs.length:Int)=true)(ds:List Nat)(hd:Lk l b ds)(hcs:(encw y).1 r=cs)(hys:(encw y).2=ys)
  (h:∀pv',WC P n c cx Q (SO k i ds l) (.poolm k pv' e ((xs.set i.toNat y).map encw) none::Hr)):WC P n c cx Q l H:=λa w Z ha hw=>by
 obtain⟨pv',h1,h2⟩:=St.mputbackE hw hp hcs hys;exact h pv' a w Z (If ha (BA hg).1 h1 hd) h2
theorem WK.mputback {r0:Nat}(hp:H.Perm (.blk b cs e::.map r ys::.poolm k pv e (xs.map encw) (some (i.toNat,(b,r0)))::Hr))(hg:Ca i (xs.length:Int)=true)(ds:List Nat)(hd:Lk l b ds)(hcs:(encw y).1 r=cs)(hys:(encw y).2=ys)
  (h:∀pv',WK n c K (SO k i ds l) (.poolm k pv' e ((xs.set i.toNat y).map encw) none::Hr)):WK n c K l H:=λa w Z ha hw=>by
 obtain⟨pv',h1,h2⟩:=St.mputbackE hw hp hcs hys;exact h pv' a w Z (If ha (BA hg).1 h1 hd) h2
theorem St.mputsameE {Z:Fz}{w:World}(hw:St c H Z w)(hp:H.Perm (.blk b cs e::.map r ys::.poolm k pv e (xs.map encw) (some (i.toNat,(b,r)))::Hr))(hg:Ca i (xs.length:Int)=true)(hcs:(encw (Au xs i)).1 r=cs)(hys:(encw (Au xs i)).2=ys) :
  Z.nm k i.toNat=some b∧St c (.poolm k pv e (xs.map encw) none::Hr) Z w:=by
 have h1:i.toNat<xs.length:=by have:=BA hg;omega
 have e1:(xs.map encw)[i.toNat]'(by simpa using h1)=encw (Au xs i):=by simp[Au,h1]
 subst hcs;subst hys;have h2:=hw.perm hp;rw[← e1] at h2;exact St.mputsame (by simpa using h1) h2
theorem WL.mputsame (hp:H.Perm (.blk b cs e::.map r ys::.poolm k pv e (xs.map encw) (some (i.toNat,(b,r)))::Hr))(hg:Ca i (xs.length:Int)=true)(ds:List Nat)(hd:Lk l b ds)(hcs:(encw (Au xs i)).1 r=cs)(hys:(encw (Au xs i)).2=ys)
  (h:WL P n c ops Q rest (SO k i ds l) (.poolm k pv e (xs.map encw) none::Hr)):WL P n c ops Q rest l H:=λa w Z ha hw=>by
 obtain⟨h1,h2⟩:=St.mputsameE hw hp hg hcs hys;exact h a w Z (If ha (BA hg).1 h1 hd) h2
theorem WC.mputsame (hp:H.Perm (.blk b cs e::.map r ys::.poolm k pv e (xs.map encw) (some (i.toNat,(b,r)))::Hr))(hg:Ca i (xs.length:Int)=true)(ds:List Nat)(hd:Lk l b ds)(hcs:(encw (Au xs i)).1 r=cs)(hys:(encw (Au xs i)).2=ys)
  (h:WC P n c cx Q (SO k i ds l) (.poolm k pv e (xs.map encw) none::Hr)):WC P n c cx Q l H:=λa w Z ha hw=>by
 obtain⟨h1,h2⟩:=St.mputsameE hw hp hg hcs hys;exact h a w Z (If ha (BA hg).1 h1 hd) h2
theorem WK.mputsame (hp:H.Perm (.blk b cs e::.map r ys::.poolm k pv e (xs.map encw) (some (i.toNat,(b,r)))::Hr))(hg:Ca i (xs.length:Int)=true)(ds:List Nat)(hd:Lk l b ds)(hcs:(encw (Au xs i)).1 r=cs)(hys:(encw (Au xs i)).2=ys)
  (h:WK n c K (SO k i ds l) (.poolm k pv e (xs.map encw) none::Hr)):WK n c K l H:=λa w Z ha hw=>by
 obtain⟨h1,h2⟩:=St.mputsameE hw hp hg hcs hys;exact h a w Z (If ha (BA hg).1 h1 hd) h2
theorem WC.uncur {it i:Nat}{m lf:List (List UInt8×Rp)}{cur:Option (List UInt8×Rp)}(hi:H[i]? =some (.mit b it m lf cur))(h:WC P n c cx Q l (H.set i (.mit b it m lf none))):WC P n c cx Q l H:=λa w Z ha hw=>h a w Z ha (hw.uncur hi)
theorem St.adoptME {Z:Fz}{w:World}(hw:St c H Z w)(hp:H.Perm (.blk b cs e::.map r ys::.poolm k pv e (xs.map encw) none::Hr))(hcs:(encw y).1 r=cs)(hys:(encw y).2=ys) :
  ∃Z' pv',Fz.le Z Z'∧Z'.nm k xs.length=some b∧St c (.poolm k pv' e ((xs++[y]).map encw) none::Hr) Z' w:=by
 obtain⟨Z',h1,h2,h3⟩:=(hw.perm hp).adoptM (y:=encw y) (pv':=Su (Df pv++[(b,r)])) hcs hys (Pb _);rw[Vl] at h2;exact⟨Z',_,h1,h2,by rw[List.map_append];exact h3⟩
theorem WL.adoptM (hp:H.Perm (.blk b cs e::.map r ys::.poolm k pv e (xs.map encw) none::Hr))(ds:List Nat)(hd:Lk l b ds)(hcs:(encw y).1 r=cs)(hys:(encw y).2=ys)
  (h:∀pv',WL P n c ops Q rest (Uv k xs.length ds l) (.poolm k pv' e ((xs++[y]).map encw) none::Hr)):WL P n c ops Q rest l H:=λa w Z ha hw=>by
 obtain⟨Z',pv',h1,h2,h3⟩:=St.adoptME hw hp hcs hys;exact h pv' a w Z' (OC (ha.mono h1) h2 hd) h3
theorem WC.adoptM (hp:H.Perm (.blk b cs e::.map r ys::.poolm k pv e (xs.map encw) none::Hr))(ds:List Nat)(hd:Lk l b ds)(hcs:(encw y).1 r=cs)(hys:(encw y).2=ys)
  (h:∀pv',WC P n c cx Q (Uv k xs.length ds l) (.poolm k pv' e ((xs++[y]).map encw) none::Hr)):WC P n c cx Q l H:=λa w Z ha hw=>by
 obtain⟨Z',pv',h1,h2,h3⟩:=St.adoptME hw hp hcs hys;exact h pv' a w Z' (OC (ha.mono h1) h2 hd) h3
end
theorem GY:Df (.tuple #[])=[]:=rfl
theorem JJ (hn:Nat.blt d n=true)(h:∀b,WL P n c ops Q rest ((d,rv (.map (some b)))::l) (.poolm b (.tuple #[]) e [] none::.map b []::H)) :
  WL P n c ops Q ({ dst:=some d,op:=.makeMap t none,type:=ty,pos:=pos,after:=af,guard:=none }::rest) l H:=
 Gi (λa w Z ha hw=>by
  have h1:=hw.alloc (.map #[] 0) (e:=.map w.heap.size []) ⟨#[],0,by simpa using heap_alloc_new w _,by simp,by simp,by simp,[],Vi _,trivial⟩ rfl;refine⟨_,w.alloc (.map #[] 0),_,_,Z,by simp[execOp,run_makeMap],Fz.le.refl _,rfl,?_,h w.heap.size⟩;have hz:∀i,Z.nm w.heap.size i=none:=λi=>by
   cases hq:Z.nm w.heap.size i with
   | none=>rfl
   | some b=>have:=hw.frz.nm _ _ _ hq;omega
  have hold:∀en∈(Ent.map w.heap.size []::H),∀q∈en.gk,q<w.heap.size:=λen he q hq=>by
   rcases List.mem_cons.1 he with rfl | he
   ·simp[Ent.gk] at hq
   ·exact hw.gst.sz en he q hq
  have hf:∀q,q ∉ (Ent.poolm w.heap.size (.tuple #[]) e [] none).foot:=λq hq=>by simp[Ent.foot,GY,Om,LP] at hq
  refine { h1 with has:=λen he=>?_,own:=λen he q hq=>?_,dis:=List.pairwise_cons.2 ⟨λen he q hq=>absurd hq (hf q),h1.dis⟩,zdis:=λen he q hq=>?_,gst:=⟨λen he q hq=>?_,λen he q hq=>?_,List.pairwise_cons.2 ⟨λen he q hq hq'=>?_,h1.gst.dis⟩,h1.gst.new,λen he q hq i hi=>?_⟩ }
  ·rcases List.mem_cons.1 he with rfl | he
   ·exact⟨by simp[GY],by simp[GY,Om,LP],by simp[GY],λo ho=>(by cases ho),by simp[GY]⟩
   ·exact h1.has en he
  ·rcases List.mem_cons.1 he with rfl | he
   ·exact absurd hq (hf q)
   ·exact h1.own en he q hq
  ·rcases List.mem_cons.1 he with rfl | he
   ·exact absurd hq (hf q)
   ·exact h1.zdis en he q hq
  ·rcases List.mem_cons.1 he with rfl | he
   ·simp[Ent.gk] at hq;subst hq;exact .inl hw.size
   ·exact h1.gst.own en he q hq
  ·rcases List.mem_cons.1 he with rfl | he
   ·simp[Ent.gk] at hq;subst hq;simp
   ·exact h1.gst.sz en he q hq
  ·simp[Ent.gk] at hq;subst hq;have:=hold en he _ hq';omega
  ·rcases List.mem_cons.1 he with rfl | he
   ·simp[Ent.gk] at hq;subst hq;exact hz i
   ·exact h1.gst.cap en he q hq i hi) hn
end
end Go.Proofs.YtmjlemhondjfhaaGreatDoor.Q
namespace Go.Proofs.YtmjlemhondjfhaaGreatDoor
open Go
end Go.Proofs.YtmjlemhondjfhaaGreatDoor
namespace Go.Proofs.YtmjlemhondjfhaaGreatDoor.Q
open Go Go.RowKit Go.ChangeMaps
set_option linter.unusedVariables false
set_option linter.unusedSimpArgs false
end Go.Proofs.YtmjlemhondjfhaaGreatDoor.Q
namespace Go.Proofs.YtmjlemhondjfhaaGreatDoor.Q
open Go Go.RowKit
set_option linter.unusedVariables false
set_option linter.unusedSimpArgs false
set_option maxRecDepth 100000
set_option maxHeartbeats 4000000
@[reducible] def Gy (x:Bool):Rp:=rB x
theorem Nw (Z:Fz):(Gy false).p Z (.bool false):=rfl
@[reducible] def A6 (x:Be):(Nat→List Rp)×List (List UInt8×Rp):=(λr=>[rS x.fText,rS x.fBefore,Av x.fVersion,Av x.fUntil,Av x.fNow,rv (.map (some r))],AY Gy x.fBound)
theorem R8 (parts:List (Nat×Value)):Tryz.prog.built 156 parts=Instr.fill (λi=>(#[(0,1)]:Array (Nat×Nat))[i]?) #[((.map none))] parts:=by kernel_rfl
theorem Mq {n:Nat}{c:Cx}{l:Fr}{H:List Ent}{d:Option Nat}{ty:TypeId}{pos:String}{af:Array Edge}{g:Option (Nat×Bool)}{x0:Operand}{r0:Rp}(h0:ev l x0=some r0)(u0:r0.one=true):Bj Tryz.prog n c l H { dst:=d,op:=.build 156 #[(0,x0)],type:=ty,pos:=pos,after:=af,guard:=g } (Bm [r0]):=λa w Z ha _=>by
  have p0:=ha.ev h0;have c0:=AZ (r0.hone u0 Z _ p0);have hb:Tryz.prog.built 156 [(0,a.eval x0)]=some #[a.eval x0]:=by
    rw[R8];generalize a.eval x0=v0 at *;simp[Instr.fill,c0]
  refine⟨.agg #[a.eval x0],⟨[a.eval x0],rfl,p0,trivial⟩,?_⟩;have:=run_build w 156 #[(0,a.eval x0)] _ (by simpa using hb);simp[execOp,this]
theorem R7 (parts:List (Nat×Value)):Tryz.prog.built 162 parts=Instr.fill (λi=>(#[(0,1),(1,1),(2,1),(3,1),(4,1),(5,1)]:Array (Nat×Nat))[i]?) #[(.string ⟨#[]⟩),(.string ⟨#[]⟩),(.int .i64 0),(.int .i64 0),(.int .i64 0),((.map none))] parts:=by kernel_rfl
theorem Jg {n:Nat}{c:Cx}{l:Fr}{H:List Ent}{d:Option Nat}{ty:TypeId}{pos:String}{af:Array Edge}{g:Option (Nat×Bool)}{x0:Operand}{r0:Rp}(h0:ev l x0=some r0)(u0:r0.one=true){x2:Operand}{r2:Rp}(h2:ev l x2=some r2)(u2:r2.one=true){x5:Operand}{r5:Rp}(h5:ev l x5=some r5)(u5:r5.one=true):Bj Tryz.prog n c l H { dst:=d,op:=.build 162 #[(0,x0),(2,x2),(5,x5)],type:=ty,pos:=pos,after:=af,guard:=g } (Bm [r0,rS ([]:Ai),r2,Av 0,Av 0,r5]):=λa w Z ha _=>by
  have p0:=ha.ev h0;have c0:=AZ (r0.hone u0 Z _ p0);have p2:=ha.ev h2;have c2:=AZ (r2.hone u2 Z _ p2);have p5:=ha.ev h5;have c5:=AZ (r5.hone u5 Z _ p5);have hb:Tryz.prog.built 162 [(0,a.eval x0),(2,a.eval x2),(5,a.eval x5)]=some #[a.eval x0,(.string ⟨#[]⟩),a.eval x2,(.int .i64 0),(.int .i64 0),a.eval x5]:=by
    rw[R7];generalize a.eval x0=v0 at *;generalize a.eval x2=v2 at *;generalize a.eval x5=v5 at *;simp[Instr.fill,c0,c2,c5]
  refine⟨.agg #[a.eval x0,(.string ⟨#[]⟩),a.eval x2,(.int .i64 0),(.int .i64 0),a.eval x5],⟨[a.eval x0,(.string ⟨#[]⟩),a.eval x2,(.int .i64 0),(.int .i64 0),a.eval x5],rfl,p0,rfl,p2,rfl,rfl,p5,trivial⟩,?_⟩;have:=run_build w 162 #[(0,a.eval x0),(2,a.eval x2),(5,a.eval x5)] _ (by simpa using hb);simp[execOp,this]
theorem CZ (ys:(List Ac))(r:(List Ac))(h:DJ ys=some r):Fn Tryz.prog GE 59 [AC 4 (A1 Ad ys)] [] (λR H=>R=AC 4 (A1 Ad r)∧H=[]):=by
 refine enter (n:=8) Tryz.func59 Aa Tryz.ntmps59 Aa (λw Z=>?_);unfold DJ at h;refine Ae (wa Aa (Aj (Ak (Ae (wm Aa (wv (Hm CK Aa) (Aj (Iq Aa (λc1=>?_) (λc1=>?_)))))))))
 ·have e2:ys=[]:=List.map_eq_nil_iff.1 (c1 rfl);have h3:some ([]:List Ac)=some r:=by rw[e2] at h;exact(LW h).2
  refine Ae (wa Aa (Aj (Ao (Ab (WK.up (d:=2) (r:=AC 4 (A1 Ad ([]:List Ac))) Aa (Up.le (DL.nil _)) ?_)))));obtain rfl:=Aq h3;exact Ap (B1 Tryz.results59 (AF Aa)) sN ⟨Aa,Aa⟩
 refine A0 (AO (Ae (AQ (ys:=([]:List Ac)) (enc:=Ad) (css:=[]) (xs:=[]) CK Dh MF Aa Aa Aa trivial Aa Cm Aa Aa Aa (λb4=>?_))));refine wm Aa (ck h λg6 h7=>Exists.elim T6 λinf hinf=>Di (xs:=([]:List Ac)) (ys:=ys) (enc:=Ad) (i:=0) CK hinf.1 hinf.2.1 hinf.2.2.1 hinf.2.2.2 Aa Aa Aa Aa Aa (M8.z Aa Aa) Cm Ly g6 Aa (λv5=>?_));refine wa Aa (Aj (Ao (WK.freeze (i:=0) Aa (WK.up (d:=2) (r:=AC 4 (A1 Ad (([]:List Ac)++ys))) Aa (Up.fact (i:=0) Aa) ?_))));obtain rfl:=Aq h7;exact Ap (B1 Tryz.results59 (AF Aa)) (sS sN) ⟨Aa,Aa⟩
theorem Oe (c:Int)(r:Bool)(h:K5 c=some r):Fn Tryz.prog GE 158 [rI .u8 c] [] (λR H=>R=rB r∧H=[]):=by
 refine enter (n:=9) Tryz.func158 Aa Tryz.ntmps158 Aa (λw Z=>?_);unfold K5 at h;refine Ae (wa Aa (Aj (AG [(2,rB ((decide (c<33))||(decide (126<c))))] [] ?_ ?_)))
 ·refine Al (wm Aa (wv (C9 Aa Aa) (wm Aa (AT (decide (c<33)) (λc1=>?_) (λc1=>?_)))))
  ·refine wf c1 (wf c1 (wv (r:=rB true) (A8 Aa c1 Aa) (wa Aa (Ar ?_))));exact Cl c1
  refine wo c1 (wm Aa (wo c1 (wv (Ei Aa Aa) (Ks Aa c1 Aa (wa Aa (Ar ?_))))));exact Cl c1
 refine Ao ?_;obtain rfl:=Aq h;exact Ap (B1 Tryz.results158 (AF Aa)) sN ⟨Aa,Aa⟩
theorem Rk (F:Nat)(ys:(List Int))(r:Int)(h:Ow F ys=some r):Fn Tryz.prog GE 186 [AC 1 (A1 BE ys),rv (.func (.func 158) #[] #[])] [] (λR H=>R=Av r∧H=[]):=by
 refine enter (n:=19) Tryz.func186 Aa Tryz.ntmps186 Aa (λw Z=>?_);unfold Ow at h;refine Ae (wa Aa (Aj (Ak (Ae (wm Aa (wv (Bi (ys:=ys) (enc:=BE) GP Aa) (wv (r:=Av 0) (Am Aa) (Aj (AE (ob h λhf hg he=>Bx (S:=Nat×(Int)×(Unit)) (V:=(Unit)×(Unit)) 0 (λσ=>CW (λσ=>Hv ys σ) σ.1 σ.2.1=some hf) (λσ=>[(0,AC 1 (A1 BE ys)),(1,rv (.func (.func 158) #[] #[])),(7,Av (ys.length:Int)),(8,Av σ.2.1)]) (λσ=>[]) (λσ=>σ.1) (F,0,()) hg (AL.c Aa (AL.c Aa (AL.c Aa (AL.c Aa AL.nil)))) sN (λσ=>Hu =some r) (λσ=>[]) (λσ=>[]) ?_ ?_))))))))))
 ·rintro⟨h0,ha,⟨⟩⟩ hh;refine GL ?_;obtain⟨hi,rfl,hj,hb,hd⟩:=Ck hh;replace hb:Hv ys ha=some hj:=hb;unfold Hv at hb;refine Ae (wv (C9 Aa Aa) (Aj (Ak (cz hb Aa (λhk hl=>?_) (λhk hm=>?_)))))
  ·refine A0 (AO (Ak (AE (Ae (wm Aa (wa Aa (Bc (wm Aa (wm Aa (wm Aa (ck hl λhn ho=>wv (Bs (enc:=BE) (ys:=ys) GP Tryz.sizeOf5 Aa Aa hn) (wv (Bh Tryz.isAgg5 Aa Aa) (ob ho λhp hq hr=>DQ (rs:=[rI .u8 (Au ys ha)]) (Hin:=[]) (Hr:=[]) Tryz.call158 Aa Aa (Vi _) (Oe (Au ys ha) hp hq) Aa ?_)))))))))))));rintro _ _ ⟨rfl,rfl⟩;refine Aj (cz hr Aa (λhs ht=>?_) (λhs hu=>?_))
   ·refine Ae (wm Aa (wa Aa (Aj (Ao (Ax (Ab (Ab (Bo ?_))))))));have hv:=BB ht hd he;refine Ax (Ab ?_);obtain rfl:=Aq hv;exact Ap (B1 Tryz.results186 (AF Aa)) sN ⟨Aa,Aa⟩
   refine A0 (AH (AO (Al (ck hu λhw hx=>wv (B3 Aa Aa hw) (wm Aa (Ar ?_))))));have hy:=Bw hx hd;exact A2 (AN (hi,ha+1,()) ⟨hy,Vk _⟩ (AL.c Aa (AL.c Aa (AL.c Aa (AL.c Aa AL.nil)))) sN)
  refine Bt (Aw ?_);have hz:=BJ hm hd he;exact Aw (Bf (AN ((),()) hz AL.nil sN))
 rintro⟨⟨⟩,⟨⟩⟩ hc;refine Hi ?_;replace hc:Hu =some r:=hc;unfold Hu at hc;refine Bb (AO (Ae (wv (r:=Av (-1)) (A3 Aa) (Aj (Ao ?_)))));obtain rfl:=Aq hc;exact Ap (B1 Tryz.results186 (AF Aa)) sN ⟨Aa,Aa⟩
theorem PY (F:Nat)(ys:(List Int))(r:Bool)(h:Hz F ys=some r):Fn Tryz.prog GE 157 [AC 1 (A1 BE ys),rv (.func (.func 158) #[] #[])] [] (λR H=>R=rB r∧H=[]):=by
 refine enter (n:=9) Tryz.func157 Aa Tryz.ntmps157 Aa (λw Z=>?_);unfold Hz at h;refine Ae (wa Aa (Bc (wm Aa (wm Aa (ob h λr1 e3 h2=>BU Tryz.call186 (Rk F ys r1 e3) Aa (wv (DZ Aa Aa) (wa Aa (Aj (Ao ?_)))))))));obtain rfl:=Aq h2;exact Ap (B1 Tryz.results157 (AF Aa)) sN ⟨Aa,Aa⟩
theorem PG (F:Nat)(s:Ai)(r:Bool)(h:Mj F s=some r):Fn Tryz.prog GE 111 [rS s] [] (λR H=>R=rB r∧H=[]):=by
 refine enter (n:=16) Tryz.func111 Aa Tryz.ntmps111 Aa (λw Z=>?_);unfold Mj at h;refine Ae (wa Aa (Aj (ck h λg1 h2=>ck h2 λg3 h4=>AG [(2,rB ((!decide (s=([]:Ai)))&&((decide ((s.length:Int)≤200))&&(!(ov (Hz F (D6 s)))))))] [] ?_ ?_)))
 ·refine Al (wm Aa (wv (J8 Aa Aa) (wm Aa (AT (!decide (s=([]:Ai))) (λc5=>?_) (λc5=>?_)))))
  ·refine wo c5 (wm Aa (wo c5 (wv (B9 CN Aa) (wo c5 (wv (HY Aa Aa) (E7 Aa c5 Aa (wm Aa (AT (decide ((s.length:Int)≤200)) (λc6=>?_) (λc6=>?_)))))))))
   ·refine wo c6 (wm Aa (wo c6 (TT CN GP Tryz.underlying5 Aa (BV (BV g1 c5) c6) Aa (wo c6 (BU Tryz.call157 (PY F (D6 s) (ov (Hz F (D6 s))) (D5 (BV (BV g3 c5) c6))) Aa (wo c6 (wv (BT Aa) (E7 Aa c6 Aa (wa Aa (Ar ?_))))))))));exact Cl (And.intro c5 c6)
   refine wf c6 (wf c6 (wf c6 (wf c6 (wv (r:=rB false) (Ay Aa c6 Aa) (wa Aa (Ar ?_))))));exact Cl (And.intro c5 c6)
  refine wf c5 (wf c5 (wf c5 (wv (r:=rB false) (Ay Aa c5 Aa) (wm Aa (wz Aa Aa (wz Aa Aa (wz Aa Aa (wz Aa Aa (wv (r:=rB false) (Ay (b:=false) Aa Aa Aa) (wa Aa (Ar ?_)))))))))));exact Cl c5
 refine Ao ?_;obtain rfl:=Aq h4;exact Ap (B1 Tryz.results111 (AF Aa)) sN ⟨Aa,Aa⟩
theorem Se  (r:(Bv×(List Be)))(h:QD=some r):Fn Tryz.prog GE 48 [] [] (λR H=>∃u0:Nat,∃u0_0:Nat,∃u0_p0:Value,R=rP u0 0∧H=[.blk u0 [rv (.map (some u0_0))] 156,.map u0_0 (AY (mP u0_0) r.1.fSecrets),.poolm u0_0 u0_p0 162 (A1 A6 r.2) none]):=by
 refine enter (n:=4) Tryz.func48 Aa Tryz.ntmps48 Aa (λw Z=>?_);unfold QD at h;refine Ae (wa Aa (Bc (JJ (e:=162) Aa (λb1=>?_))));refine wv (r:=Bm [rv (.map (some b1))]) (Mq Aa Aa) (BC Aa Aa (λb2=>?_));refine wa Aa (Aj (Ao (J5 [0,1] ?_)));obtain rfl:=Aq h;exact Ap (B1 Tryz.results48 (AF Aa)) (sC (sC (sC sN))) ⟨b2,b1,(.tuple #[]),Aa,Aa⟩
theorem K8 (hb:Nat)(ha:Nat)(hd:Value)(v:Bv)(hc:(List Be))(name:Ai)(r:Int×Int)(h:K9 v hc name=some r):Fn Tryz.prog GE 110 [rP hb 0,rS name] [.blk hb [rv (.map (some ha))] 156,.map ha (AY (mP ha) v.fSecrets),.poolm ha hd 162 (A1 A6 hc) none] (λR H=>R=C0 [RG ha r.1 0,Av r.2]∧H=[.blk hb [rv (.map (some ha))] 156,.map ha (AY (mP ha) v.fSecrets),.poolm ha hd 162 (A1 A6 hc) none]):=by
 refine enter (n:=29) Tryz.func110 Aa Tryz.ntmps110 Aa (λw Z=>?_);unfold K9 at h;refine Ae (wa Aa (wa Aa (Aj (Ak (AG [(0,rP hb 0),(1,rS name),(16,rB false)] [.blk hb [rv (.map (some ha))] 156,.map ha (AY (mP ha) v.fSecrets),.poolm ha hd 162 (A1 A6 hc) none] ?_ ?_)))))
 ·refine Al (wm Aa (wv (r:=rB false) (ER ⟨_,RJ⟩ Aa) (wm Aa (AU (b:=false) Aa Aa Aa (wm Aa (AU (b:=false) Aa Aa Aa (wv (AA Aa) (AU (b:=false) Aa Aa Aa (vF L3 Aa L5 (AU (b:=false) Aa Aa Aa (vL 0 L7 Aa (AU (b:=false) Aa Aa Aa (wv (r:=rB false) (QR (v:=some ha) L4 Aa) (wv (r:=rB false) (Ay (b:=false) Aa Aa Aa) (Ar ?_)))))))))))))));exact wt
 refine BG Aa Aa (A0 (AO (Ae (wm Aa (wv (AA Aa) (vF L3 Aa L5 (vL 0 L7 Aa (wm Aa (wv (r:=C0 [RG ha (Jk v.fSecrets name (-1)) 0,rB (GM v.fSecrets name)]) (OY (enc:=(mP ha)) (xs:=v.fSecrets) (z:=(-1)) (i:=1) L4 CN Tryz.zeroValue157 (UM ha) Aa Aa Aa) (wm Aa (wv (A4 Aa Aa) (wv (A4 Aa Aa) (wa Aa (wa Aa (Aj (Ak (Ae (wm Aa (wv (BT Aa) (Aj (cz h Aa (λc1 h2=>?_) (λc1 h3=>?_))))))))))))))))))))))
 ·refine Ae (wa Aa (wa Aa (Aj (Ao (Ab (WK.up (d:=4) (r:=RG ha (-1) 0) Aa (Up.le (DL.pnil _)) ?_))))));obtain rfl:=Aq h2;exact Ap (Gs Tryz.results110 (AF Aa) (AF Aa)) (sC (sC (sC sN))) ⟨Aa,Aa⟩
 refine A0 (AO (Ae (wm Aa (wa Aa (wa Aa (Aj (Ao ?_)))))));obtain rfl:=Aq h3;exact Ap (Gs Tryz.results110 (AF Aa) (AF Aa)) (sC (sC (sC sN))) ⟨Aa,Aa⟩
theorem Sd (F:Nat)(hd:Nat)(ha:Nat)(hb:Value)(v:Bv)(hc:(List Be))(name:Ai)(text:Ai)(r:Int×Bv×(List Be))(h:QC F v hc name text=some r):Fn Tryz.prog GE 49 [rP hd 0,rS name,rS text] [.blk hd [rv (.map (some ha))] 156,.map ha (AY (mP ha) v.fSecrets),.poolm ha hb 162 (A1 A6 hc) none] (λR H=>∃w0_p0:Value,R=Av r.1∧H=[.blk hd [rv (.map (some ha))] 156,.map ha (AY (mP ha) r.2.1.fSecrets),.poolm ha w0_p0 162 (A1 A6 r.2.2) none]):=by
 refine enter (n:=46) Tryz.func49 Aa Tryz.ntmps49 Aa (λw Z=>?_);unfold QC at h;refine Ae (wa Aa (Bc (wm Aa (wm Aa (ob h λr1 e3 h2=>EP [0,0,0] Tryz.call110 (K8 hd ha hb v hc name r1 e3) ?_)))));rintro _ _ ⟨rfl,rfl⟩;refine wm Aa (wv (A4 Aa Aa) (wv (A4 Aa Aa) (wa Aa (wa Aa (Aj (Ak (AE (Ae (wm Aa (wv (BD Aa Aa) (wa Aa (Aj (cz h2 Aa (λc4 h5=>?_) (λc4 h6=>?_))))))))))))))
 ·refine Ae (wm Aa (wa Aa (Aj (Ao (Ax (Ab ?_))))));obtain rfl:=Aq h5;exact Ap (B1 P5 (AF Aa)) (sC (sC (sC sN))) ⟨hb,Aa,Aa⟩
 refine Ae (wm Aa (BQ (rs:=[rS name]) (r:=rB (D0 name)) Qy Aa (KJ name) Aa Aa (wv (BT Aa) (wa Aa (Aj (cz h6 Aa (λc7 h8=>?_) (λc7 h9=>?_)))))))
 ·refine Ae (wa Aa (Aj (Ao (Ax (Ab ?_)))));obtain rfl:=Aq h8;exact Ap (B1 P5 (AF Aa)) (sC (sC (sC sN))) ⟨hb,Aa,Aa⟩
 refine Ae (wm Aa (ob h9 λhe hf hg=>BU Tryz.call111 (PG F text he hf) Aa (wv (BT Aa) (wa Aa (Aj (cz hg Aa (λhh hi=>?_) (λhh hj=>?_)))))))
 ·refine Ae (wa Aa (Aj (Ao (Ax (Ab ?_)))));obtain rfl:=Aq hi;exact Ap (B1 P5 (AF Aa)) (sC (sC (sC sN))) ⟨hb,Aa,Aa⟩
 refine Ae (wm Aa (wv (BD Aa Aa) (wa Aa (Aj (cz hj Aa (λhk hl=>?_) (λhk hm=>?_))))))
 ·refine Ae (wa Aa (Aj (Ao (Ax (Ab ?_)))));obtain rfl:=Aq hl;exact Ap (B1 P5 (AF Aa)) (sC (sC (sC sN))) ⟨hb,Aa,Aa⟩
 refine Ae (wm Aa (wv (AA Aa) (vF L3 Aa L5 (vL 0 L7 Aa (wv (r:=Av (v.fSecrets.length:Int)) (QS (N:=v.fSecrets.length) (i:=1) L4 Aa Aa (Ha _ _)) (wv (DZ Aa Aa) (wa Aa (Aj (cz hm Aa (λhn ho=>?_) (λhn hp=>?_))))))))))
 ·refine Ae (wa Aa (Aj (Ao (Ax (Ab ?_)))));obtain rfl:=Aq ho;exact Ap (B1 P5 (AF Aa)) (sC (sC (sC sN))) ⟨hb,Aa,Aa⟩
 refine A0 (AH (AO (Ae (wm Aa (wv (AA Aa) (vF L3 Aa L5 (vL 0 L7 Aa (wm Aa (wm Aa (Jc Aa (λhq=>?_)))))))))));refine wv (r:=Bm [rS text,rS ([]:Ai),Av 1,Av 0,Av 0,rv (.map (some hq))]) (Jg Aa Aa Aa Aa Aa Aa) (BC Aa Aa (λhr=>?_));refine WL.adoptM (encw:=A6) (xs:=hc) (y:=(Be.mk text ([]:Ai) 1 0 0 ([]:List (Ai×Bool)))) (Hr:=[.blk hd [rv (.map (some ha))] 156,.map ha (AY (mP ha) v.fSecrets)]) ((AI (i:=0) Aa).trans (Vj _ ((AI (i:=0) Aa).trans (Vj _ ((AI (i:=2) Aa).trans (Vj _ (Vi _))))))) [45] ⟨Aa,trivial⟩ Aa Aa (λv24=>?_);refine JV (enc:=(mP ha)) (xs:=v.fSecrets) (v:=(hc.length:Int)) (i:=2) L4 CN Aa Aa Aa Aa (H':=[.poolm ha v24 162 (A1 A6 (hc++[(Be.mk text ([]:Ai) 1 0 0 ([]:List (Ai×Bool)))])) none,.blk hd [rv (.map (some ha))] 156,.map ha (AY (mP ha) (Ge v.fSecrets name (hc.length:Int)))]) Aa (Bc (wa Aa (Aj (Ao (J5 [1,1] ?_)))));obtain rfl:=Aq hp;exact Ap (B1 P5 (AF Aa)) (sC (sC (sC sN))) ⟨v24,Aa,Aa⟩
theorem QE (hc:Nat)(hb:Nat)(hd:Value)(v:Bv)(ha:(List Be))(name:Ai)(function:Ai)(r:Int×Bv×(List Be))(h:Og v ha name function=some r):Fn Tryz.prog GE 50 [rP hc 0,rS name,rS function] [.blk hc [rv (.map (some hb))] 156,.map hb (AY (mP hb) v.fSecrets),.poolm hb hd 162 (A1 A6 ha) none] (λR H=>∃w0_p0:Value,R=Av r.1∧H=[.blk hc [rv (.map (some hb))] 156,.map hb (AY (mP hb) r.2.1.fSecrets),.poolm hb w0_p0 162 (A1 A6 r.2.2) none]):=by
 refine enter (n:=42) Tryz.func50 Aa Tryz.ntmps50 Aa (λw Z=>?_);unfold Og at h;refine Ae (wa Aa (Bc (wm Aa (wm Aa (ob h λr1 e3 h2=>EP [0,0,0] Tryz.call110 (K8 hc hb hd v ha name r1 e3) ?_)))));rintro _ _ ⟨rfl,rfl⟩;refine wm Aa (wv (A4 Aa Aa) (wv (A4 Aa Aa) (wa Aa (wa Aa (Aj (Ak (AE (Ae (wm Aa (wv (Cs Aa Aa) (wa Aa (Aj (cz h2 Aa (λc4 h5=>?_) (λc4 h6=>?_))))))))))))))
 ·refine Ae (wm Aa (wa Aa (Aj (Ao (Ax (Ab ?_))))));obtain rfl:=Aq h5;exact Ap (B1 Qx (AF Aa)) (sC (sC (sC sN))) ⟨hd,Aa,Aa⟩
 refine Ae (wm Aa (BQ (rs:=[rS function]) (r:=rB (D0 function)) Qy Aa (KJ function) Aa Aa (wv (BT Aa) (wa Aa (Aj (cz h6 Aa (λc7 h8=>?_) (λc7 h9=>?_)))))))
 ·refine Ae (wa Aa (Aj (Ao (Ax (Ab ?_)))));obtain rfl:=Aq h8;exact Ap (B1 Qx (AF Aa)) (sC (sC (sC sN))) ⟨hd,Aa,Aa⟩
 refine Ae (wm Aa (ck h9 λhf hh=>WL.mtakeout (encw:=A6) (xs:=ha) (i:=r1.1) (Hr:=[.blk hc [rv (.map (some hb))] 156,.map hb (AY (mP hb) v.fSecrets)]) ((AI (i:=2) Aa).trans (Vj _ (Vi _))) hf [7,13,24] ⟨Aa,Aa,Aa,trivial⟩ (λhg he=>?_)));refine NX (H':=[.blk hg [rS ((Au ha r1.1).fText),rS ((Au ha r1.1).fBefore),Av ((Au ha r1.1).fVersion),Av ((Au ha r1.1).fUntil),Av ((Au ha r1.1).fNow),rv (.map (some he))] 162,.map he (AY Gy ((Au ha r1.1).fBound)),.poolm hb hd 162 (A1 A6 ha) (some (BK r1.1,(hg,he))),.blk hc [rv (.map (some hb))] 156,.map hb (AY (mP hb) v.fSecrets)]) Aa (wv (AA Aa) (vF J1 Aa OG (vL 0 Tryz.isAgg160 Aa (wm Aa (wv (r:=rB (Jk ((Au ha r1.1).fBound) function false)) (QT (enc:=Gy) (xs:=(Au ha r1.1).fBound) (z:=false) (i:=1) OF CN U5 Nw Aa Aa Aa) (wa Aa (Aj (cz hh Aa (λhi hj=>?_) (λhi hk=>?_)))))))))
 ·refine Ae (wa Aa (Aj (Ao (Ax (Ab (WK.mputsame (encw:=A6) (xs:=ha) (i:=r1.1) (Hr:=[.blk hc [rv (.map (some hb))] 156,.map hb (AY (mP hb) v.fSecrets)]) (Vi _) hf [7,13,24,25] ⟨Aa,Aa,Aa,Aa,trivial⟩ Aa Aa (J5 [1,1] ?_)))))));obtain rfl:=Aq hj;exact Ap (B1 Qx (AF Aa)) (sC (sC (sC sN))) ⟨hd,Aa,Aa⟩
 refine Ae (wm Aa (wv (AA Aa) (vF J1 Aa OG (vL 0 Tryz.isAgg160 Aa (wv (r:=Av (((Au ha r1.1).fBound).length:Int)) (QS (N:=((Au ha r1.1).fBound).length) (i:=1) OF Aa Aa (Ha _ _)) (wv (DZ Aa Aa) (wa Aa (Aj (cz hk Aa (λhl hm=>?_) (λhl hn=>?_))))))))))
 ·refine Ae (wa Aa (Aj (Ao (Ax (Ab (WK.mputsame (encw:=A6) (xs:=ha) (i:=r1.1) (Hr:=[.blk hc [rv (.map (some hb))] 156,.map hb (AY (mP hb) v.fSecrets)]) (Vi _) hf [7,13,24,25,31,32] ⟨Aa,Aa,Aa,Aa,Aa,Aa,trivial⟩ Aa Aa (J5 [1,1] ?_)))))));obtain rfl:=Aq hm;exact Ap (B1 Qx (AF Aa)) (sC (sC (sC sN))) ⟨hd,Aa,Aa⟩
 refine A0 (AH (AO (Ae (wm Aa (wv (AA Aa) (vF J1 Aa OG (vL 0 Tryz.isAgg160 Aa (wm Aa (JV (enc:=Gy) (xs:=(Au ha r1.1).fBound) (v:=true) (i:=1) OF CN Aa Aa Aa Aa (H':=[.blk hg [rS ((Au ha r1.1).fText),rS ((Au ha r1.1).fBefore),Av ((Au ha r1.1).fVersion),Av ((Au ha r1.1).fUntil),Av ((Au ha r1.1).fNow),rv (.map (some he))] 162,.map he (AY Gy (Ge ((Au ha r1.1).fBound) function true)),.poolm hb hd 162 (A1 A6 ha) (some (BK r1.1,(hg,he))),.blk hc [rv (.map (some hb))] 156,.map hb (AY (mP hb) v.fSecrets)]) Aa (Bc (wa Aa (Aj (Ao (WK.mputback (y:=(Be.mk ((Au ha r1.1).fText) ((Au ha r1.1).fBefore) ((Au ha r1.1).fVersion) ((Au ha r1.1).fUntil) ((Au ha r1.1).fNow) (Ge ((Au ha r1.1).fBound) function true))) (encw:=A6) (xs:=ha) (i:=r1.1) (Hr:=[.blk hc [rv (.map (some hb))] 156,.map hb (AY (mP hb) v.fSecrets)]) (Vi _) hf [7,13,24,25,31,32,37,38] ⟨Aa,Aa,Aa,Aa,Aa,Aa,Aa,Aa,trivial⟩ Aa Aa (λv20=>?_)))))))))))))));refine J5 [1,1] ?_;obtain rfl:=Aq hn;exact Ap (B1 Qx (AF Aa)) (sC (sC (sC sN))) ⟨v20,Aa,Aa⟩
theorem QB (hc:Nat)(ha:Nat)(hd:Value)(v:Bv)(hb:(List Be))(name:Ai)(function:Ai)(r:Ai×Int×Int)(h:Of v hb name function=some r):Fn Tryz.prog GE 264 [rP hc 0,rS name,rS function] [.blk hc [rv (.map (some ha))] 156,.map ha (AY (mP ha) v.fSecrets),.poolm ha hd 162 (A1 A6 hb) none] (λR H=>R=C0 [rS r.1,Av r.2.1,Av r.2.2]∧H=[.blk hc [rv (.map (some ha))] 156,.map ha (AY (mP ha) v.fSecrets),.poolm ha hd 162 (A1 A6 hb) none]):=by
 refine enter (n:=37) Tryz.func264 Aa Tryz.ntmps264 Aa (λw Z=>?_);unfold Of at h;refine Ae (wv (r:=rS ([]:Ai)) (A3 Aa) (wa Aa (wa Aa (Bc (wm Aa (wm Aa (ob h λr1 e3 h2=>EP [0,0,0] Tryz.call110 (K8 hc ha hd v hb name r1 e3) ?_)))))));rintro _ _ ⟨rfl,rfl⟩;refine wm Aa (wv (A4 Aa Aa) (wv (A4 Aa Aa) (wa Aa (wa Aa (Aj (Ak (AE (Ae (wm Aa (wv (Cs Aa Aa) (wa Aa (Aj (cz h2 Aa (λc4 h5=>?_) (λc4 h6=>?_))))))))))))))
 ·refine Ae (wm Aa (wv (r:=rS ([]:Ai)) (A3 Aa) (wa Aa (wa Aa (Aj (Ao (Ax (Ab ?_))))))));obtain rfl:=Aq h5;exact Ap (PH Tryz.results264 (AF Aa) (AF Aa) (AF Aa)) (sC (sC (sC sN))) ⟨Aa,Aa⟩
 refine Ae (wm Aa (ck h6 λg7 h8=>WL.mtakeout (encw:=A6) (xs:=hb) (i:=r1.1) (Hr:=[.blk hc [rv (.map (some ha))] 156,.map ha (AY (mP ha) v.fSecrets)]) ((AI (i:=2) Aa).trans (Vj _ (Vi _))) g7 [9,15,22] ⟨Aa,Aa,Aa,trivial⟩ (λb9 he=>?_)));refine NX (H':=[.blk b9 [rS ((Au hb r1.1).fText),rS ((Au hb r1.1).fBefore),Av ((Au hb r1.1).fVersion),Av ((Au hb r1.1).fUntil),Av ((Au hb r1.1).fNow),rv (.map (some he))] 162,.map he (AY Gy ((Au hb r1.1).fBound)),.poolm ha hd 162 (A1 A6 hb) (some (BK r1.1,(b9,he))),.blk hc [rv (.map (some ha))] 156,.map ha (AY (mP ha) v.fSecrets)]) Aa (wv (AA Aa) (vF J1 Aa OG (vL 0 Tryz.isAgg160 Aa (wm Aa (wv (r:=rB (Jk ((Au hb r1.1).fBound) function false)) (QT (enc:=Gy) (xs:=(Au hb r1.1).fBound) (z:=false) (i:=1) OF CN U5 Nw Aa Aa Aa) (wv (BT Aa) (wa Aa (Aj (cz h8 Aa (λhf hg=>?_) (λhf hh=>?_))))))))))
 ·refine Ae (wv (r:=rS ([]:Ai)) (A3 Aa) (wa Aa (wa Aa (Aj (Ao (Ax (Ab (WK.mputsame (encw:=A6) (xs:=hb) (i:=r1.1) (Hr:=[.blk hc [rv (.map (some ha))] 156,.map ha (AY (mP ha) v.fSecrets)]) (Vi _) g7 [9,15,22,23] ⟨Aa,Aa,Aa,Aa,trivial⟩ Aa Aa (J5 [1,1] ?_)))))))));obtain rfl:=Aq hg;exact Ap (PH Tryz.results264 (AF Aa) (AF Aa) (AF Aa)) (sC (sC (sC sN))) ⟨Aa,Aa⟩
 refine A0 (AH (AO (Ak (CR [9] ?_))));refine rq (Am Aa) (rq (AA Aa) (rq (As J1 Aa CC Aa Aa) (rq (AP (i:=0) DO Aa Aa Aa) (rq (Am Aa) (rq (AA Aa) (rq (As J1 Aa CM Aa Aa) (rq (AP (i:=0) D8 Aa Aa Aa) (rq (A3 Aa) (rq (A3 Aa) (rq (r:=Av 0) (A3 Aa) (re [6,7,8] ?_)))))))))));refine AO (Ao (WK.mputsame (encw:=A6) (xs:=hb) (i:=r1.1) (Hr:=[.blk hc [rv (.map (some ha))] 156,.map ha (AY (mP ha) v.fSecrets)]) (Vi _) g7 [] trivial Aa Aa (J5 [1,1] ?_)));obtain rfl:=Aq hh;exact Ap (PH Tryz.results264 (AF Aa) (AF Aa) (AF Aa)) (sC (sC (sC sN))) ⟨Aa,Aa⟩
theorem K6 (F:Nat)(hd:Nat)(ha:Nat)(hg:Value)(v:Bv)(hb:(List Be))(s:Ai)(r:Ai)(h:K7 F v hb s=some r):Fn Tryz.prog GE 265 [rP hd 0,rS s] [.blk hd [rv (.map (some ha))] 156,.map ha (AY (mP ha) v.fSecrets),.poolm ha hg 162 (A1 A6 hb) none] (λR H=>R=rS r∧H=[.blk hd [rv (.map (some ha))] 156,.map ha (AY (mP ha) v.fSecrets),.poolm ha hg 162 (A1 A6 hb) none]):=by
 refine enter (n:=66) Tryz.func265 Aa Tryz.ntmps265 Aa (λw Z=>?_);unfold K7 at h;refine Ae (wv (r:=rS ([]:Ai)) (A3 Aa) (Aj (Ak (AG [(0,rP hd 0),(1,rS s),(19,rB false)] [.blk hd [rv (.map (some ha))] 156,.map ha (AY (mP ha) v.fSecrets),.poolm ha hg 162 (A1 A6 hb) none] ?_ ?_))))
 ·refine Al (wm Aa (wv (r:=rB false) (ER ⟨_,RJ⟩ Aa) (wm Aa (AU (b:=false) Aa Aa Aa (wm Aa (AU (b:=false) Aa Aa Aa (wv (AA Aa) (AU (b:=false) Aa Aa Aa (vF L3 Aa L5 (AU (b:=false) Aa Aa Aa (vL 0 L7 Aa (AU (b:=false) Aa Aa Aa (wv (r:=rB false) (QR (v:=some ha) L4 Aa) (wv (r:=rB false) (Ay (b:=false) Aa Aa Aa) (Ar ?_)))))))))))))));exact wt
 refine BG Aa Aa (A0 (AO (Ae (Bz (cs:=[rv (.pointer none),rv (.slice none 0 0)]) Tryz.zeroValue177 Aa Aa (λb1=>?_)))));refine Aj (Ak (AE (WK.tobld (te:=5) (i:=0) Aa (ob h λhA hB hC=>Bx (S:=Nat×(Ai×Ai)×(Value)) (V:=(Ai)×(Value)) 0 (λσ=>CW (λσ=>EF F v hb σ.1 σ.2) σ.1 σ.2.1=some hA) (λσ=>[(0,rP hd 0),(1,rS σ.2.1.1),(5,rP b1 0)]) (λσ=>[.bld 177 5 b1 σ.2.2 σ.2.1.2,.blk hd [rv (.map (some ha))] 156,.map ha (AY (mP ha) v.fSecrets),.poolm ha hg 162 (A1 A6 hb) none]) (λσ=>σ.1) (F,(s,([]:Ai)),(.slice none 0 0)) hB (AL.c Aa (AL.c Aa (AL.c Aa AL.nil))) (sC (sC (sC (sC sN)))) (λσ=>EC σ.1=some r) (λσ=>[(5,rP b1 0)]) (λσ=>[.bld 177 5 b1 σ.2 σ.1,.blk hd [rv (.map (some ha))] 156,.map ha (AY (mP ha) v.fSecrets),.poolm ha hg 162 (A1 A6 hb) none]) ?_ ?_))))
 ·rintro⟨gB,⟨he,hf⟩,hh⟩ hD;refine GL ?_;obtain⟨h1,rfl,hn,ho,hv⟩:=Ck hD;replace ho:EF F v hb he hf=some hn:=ho;unfold EF at ho;refine Ak (Ae (wm Aa (wv (J8 Aa Aa) (Aj (cz ho Aa (λhE hF=>?_) (λhE hG=>?_))))))
  ·refine A0 (AO (AE (Ae (wa Aa (Aj (Ak (Ae (wm Aa (wv (AA Aa) (vF L3 Aa L5 (vL 1 L7 Aa (RS (i:=2) L4 Aa Aa Aa (λhi=>?_)))))))))))));refine Aj (AE ?_);have hH:=Tx hF;refine Bx (S:=(List (Ai×Int))×(Int)×(Unit)) (V:=(Int)×(Unit)) 2 (λσ=>∀qo:List (Ai×Int),qo.Perm σ.1→Bq (Rb (λpe τ=>EE F hb he pe.1 pe.2 τ) qo σ.2.1) (Cv λν=>Dz he hf ν)=some hn) (λσ=>[(0,rP hd 0),(1,rS he),(5,rP b1 0),(6,Av σ.2.1),(27,rP hi 0)]) (λσ=>[.bld 177 5 b1 hh hf,.blk hd [rv (.map (some ha))] 156,.mit ha hi (AY (mP ha) v.fSecrets) (AY (mP ha) σ.1) none,.poolm ha hg 162 (A1 A6 hb) none]) (λσ=>σ.1.length) (v.fSecrets,0,()) hH (AL.c5 Aa Aa Aa Aa Aa AL.nil) (sC (sC (sC (sC sN)))) (λσ=>Dz he hf σ.1=some hn) (λσ=>[(0,rP hd 0),(1,rS he),(5,rP b1 0),(6,Av σ.1),(27,rP hi 0)]) (λσ=>[.bld 177 5 b1 hh hf,.blk hd [rv (.map (some ha))] 156,.map ha (AY (mP ha) v.fSecrets),.poolm ha hg 162 (A1 A6 hb) none]) ?_ ?_
   ·rintro⟨hI,hp,⟨⟩⟩ h2;refine GL ?_;refine Ae (Th (enc:=(mP ha)) (ys:=hI) (i:=2) Aa Aa Aa (λhy=>?_) (λp hk h3=>?_))
    ·have hJ:Dz he hf hp=some hn:=S0 h2 hy;exact wv (A4 Aa Aa) (Aj (Ak (BG Aa Aa (Bt (Aw (WK.unmit (i:=2) Aa (Aw (Bf (AN (hp,()) hJ (AL.c5 Aa Aa Aa Aa Aa AL.nil) (sC (sC (sC (sC sN)))))))))))))
    obtain⟨hl,hc⟩:=p;obtain⟨hw,hq,hK⟩:=Ui h2 h3;replace hq:EE F hb he hl hc hp=some hw:=hq;unfold EE at hq;refine NX (H':=[.bld 177 5 b1 hh hf,.blk hd [rv (.map (some ha))] 156,.mit ha hi (AY (mP ha) v.fSecrets) (AY (mP ha) hk) (some (hl,(mP ha) hc)),.poolm ha hg 162 (A1 A6 hb) none]) Aa (wv (A4 Aa Aa) (Aj (Ak (BZ Aa Aa (A0 (AO (AE (Ae (wv (r:=C0 [rS hl,RG ha hc 0]) (Sr (i:=2) Aa Aa) (wv (A4 Aa Aa) (wa Aa (Aj (Ak (ck hq λh4 hL=>WC.mtakeout (encw:=A6) (xs:=hb) (i:=hc) (Hr:=[.bld 177 5 b1 hh hf,.blk hd [rv (.map (some ha))] 156,.mit ha hi (AY (mP ha) v.fSecrets) (AY (mP ha) hk) (some (hl,(mP ha) hc))]) ((AI (i:=3) Aa).trans (Vj _ (Vi _))) h4 [8,31] ⟨Aa,Aa,trivial⟩ (λh5 hx=>?_)))))))))))))));refine ST (l':=_) (H':=[.blk h5 [rS ((Au hb hc).fText),rS ((Au hb hc).fBefore),Av ((Au hb hc).fVersion),Av ((Au hb hc).fUntil),Av ((Au hb hc).fNow),rv (.map (some hx))] 162,.map hx (AY Gy ((Au hb hc).fBound)),.poolm ha hg 162 (A1 A6 hb) (some (BK hc,(h5,hx))),.bld 177 5 b1 hh hf,.blk hd [rv (.map (some ha))] 156,.mit ha hi (AY (mP ha) v.fSecrets) (AY (mP ha) hk) (some (hl,(mP ha) hc))]) Aa Aa (CR [0,1,5,6,8,27] ?_);refine rq (Am Aa) (rq (AA Aa) (rq (As J1 Aa CC Aa Aa) (rq (AP (i:=0) DO Aa Aa Aa) (rq (Am Aa) (rq (AA Aa) (rq (As J1 Aa CC Aa Aa) (rq (AP (i:=0) DO Aa Aa Aa) (HD (Dk (ys:=([(Au hb hc).fText,(Au hb hc).fBefore]:List Ai)) (enc:=eS) (css:=[[rS ((Au hb hc).fText)],[rS ((Au hb hc).fBefore)]]) (xs:=[.tmp 35,.tmp 39]) Cp CC RE Aa Aa Aa ⟨Dw.one Aa (Up.refl _),Dw.one Aa (Up.refl _),trivial⟩ Aa DI Aa Aa) (rq (Bi (ys:=([(Au hb hc).fText,(Au hb hc).fBefore]:List Ai)) (enc:=eS) Cp Aa) (rq (r:=Av 0) (Am Aa) (re [40,41,42,0,1,5,6,27] ?_)))))))))));refine AO (AE (WC.mputsame (encw:=A6) (xs:=hb) (i:=hc) (Hr:=[.bld 177 5 b1 hh hf,.blk hd [rv (.map (some ha))] 156,.mit ha hi (AY (mP ha) v.fSecrets) (AY (mP ha) hk) (some (hl,(mP ha) hc))]) (Vi _) h4 [] trivial Aa Aa (WC.uncur (i:=3) Aa (ob hL λhM hN hO=>Bx (S:=Nat×(Int×Int)×(Unit)) (V:=(Int×Int×Bool)×(Unit)) 4 (λσ=>CW (λσ=>ED hb he hc σ.1 σ.2) σ.1 σ.2.1=some hM) (λσ=>[(0,rP hd 0),(1,rS he),(5,rP b1 0),(6,Av σ.2.1.1),(27,rP hi 0),(40,AC 1 (A1 eS ([(Au hb hc).fText,(Au hb hc).fBefore]:List Ai))),(41,Av (([(Au hb hc).fText,(Au hb hc).fBefore]:List Ai).length:Int)),(42,Av σ.2.1.2)]) (λσ=>[.poolm ha hg 162 (A1 A6 hb) none,.bld 177 5 b1 hh hf,.blk hd [rv (.map (some ha))] 156,.mit ha hi (AY (mP ha) v.fSecrets) (AY (mP ha) hk) none]) (λσ=>σ.1) (F,(hp,0),()) hN (AL.c Aa (AL.c Aa (AL.c Aa (AL.c5 Aa Aa Aa Aa Aa AL.nil)))) (sC (sC (sC (sC sN)))) (λσ=>EB σ.1.1 σ.1.2.1 σ.1.2.2=some hw) (λσ=>[(0,rP hd 0),(1,rS he),(5,rP b1 0),(6,Av σ.1.1),(27,rP hi 0),(40,AC 1 (A1 eS ([(Au hb hc).fText,(Au hb hc).fBefore]:List Ai))),(41,Av (([(Au hb hc).fText,(Au hb hc).fBefore]:List Ai).length:Int)),(42,Av σ.1.2.1),(43,rB σ.1.2.2)]) (λσ=>[.poolm ha hg 162 (A1 A6 hb) none,.bld 177 5 b1 hh hf,.blk hd [rv (.map (some ha))] 156,.mit ha hi (AY (mP ha) v.fSecrets) (AY (mP ha) hk) none]) ?_ ?_))))
    ·rintro⟨gC,⟨hm,hj⟩,⟨⟩⟩ hP;refine GL ?_;obtain⟨hQ,rfl,hR,hr,h6⟩:=Ck hP;replace hr:ED hb he hc hm hj=some hR:=hr;unfold ED at hr;refine Ae (wv (C9 Aa Aa) (Aj (Ak (cz hr Aa (λhS hT=>?_) (λhS hU=>?_)))))
     ·refine A0 (AO (ck hT λhV hW=>ck hW λhX hY=>AG [(0,rP hd 0),(1,rS he),(5,rP b1 0),(6,Av (bif (ov (Dd he (Au ([(Au hb hc).fText,(Au hb hc).fBefore]:List Ai) hj))) then max hm ((Au ([(Au hb hc).fText,(Au hb hc).fBefore]:List Ai) hj).length:Int) else hm)),(27,rP hi 0),(40,AC 1 (A1 eS ([(Au hb hc).fText,(Au hb hc).fBefore]:List Ai))),(41,Av (([(Au hb hc).fText,(Au hb hc).fBefore]:List Ai).length:Int)),(42,Av hj)] [.poolm ha hg 162 (A1 A6 hb) none,.bld 177 5 b1 hh hf,.blk hd [rv (.map (some ha))] 156,.mit ha hi (AY (mP ha) v.fSecrets) (AY (mP ha) hk) none] ?_ ?_))
      ·refine AE (Ae (wv (Bs (enc:=eS) (ys:=([(Au hb hc).fText,(Au hb hc).fBefore]:List Ai)) Cp CC Aa Aa hV) (wv (Bh DO Aa Aa) (wa Aa (Bc (wm Aa (wm Aa (BU Tryz.call176 (JD he (Au ([(Au hb hc).fText,(Au hb hc).fBefore]:List Ai) hj) (ov (Dd he (Au ([(Au hb hc).fText,(Au hb hc).fBefore]:List Ai) hj))) (D5 hX)) Aa (Aj (D9 (b:=(ov (Dd he (Au ([(Au hb hc).fText,(Au hb hc).fBefore]:List Ai) hj)))) Aa (λhz=>?_) (λhz=>?_)))))))))))
       ·refine Al (wm Aa (wm Aa (wv (B9 CN Aa) (wv (QU TR Aa Aa) (wa Aa (Ar (AH ?_)))))));exact Cl hz
       refine A0 (AH ?_);exact Cl hz
      refine Al (ck hY λhZ ga=>wv (B3 Aa Aa hZ) (wm Aa (Ar ?_)));have gb:=Bw ga h6;exact A2 (AN (hQ,((bif (ov (Dd he (Au ([(Au hb hc).fText,(Au hb hc).fBefore]:List Ai) hj))) then max hm ((Au ([(Au hb hc).fText,(Au hb hc).fBefore]:List Ai) hj).length:Int) else hm),hj+1),()) ⟨gb,Vk _⟩ (AL.c Aa (AL.c Aa (AL.c Aa (AL.c5 Aa Aa Aa Aa Aa AL.nil)))) (sC (sC (sC (sC sN)))))
     refine Bt (Aw ?_);have gc:=BJ hU h6 hO;exact Aw (Bf (AN ((hm,hj,decide (hj<(([(Au hb hc).fText,(Au hb hc).fBefore]:List Ai).length:Int))),()) gc (AL.c Aa (AL.c Aa (AL.c Aa (AL.c Aa (AL.c5 Aa Aa Aa Aa Aa AL.nil))))) (sC (sC (sC (sC sN))))))
    rintro⟨⟨h7,gd,ge⟩,⟨⟩⟩ hs;refine Hi ?_;replace hs:EB h7 gd ge=some hw:=hs;unfold EB at hs;refine Bb (AH (J5 [1,1,1] ?_));have gf:=PW hs hK;exact A2 (AN (hk,h7,()) ⟨gf,Sk h3⟩ (AL.c5 Aa Aa Aa Aa Aa AL.nil) (sC (sC (sC (sC sN)))))
   rintro⟨h8,⟨⟩⟩ ht;refine Hi ?_;replace ht:Dz he hf h8=some hn:=ht;unfold Dz at ht;refine Bb (AO (Ak (Ae (wm Aa (wv (BD Aa Aa) (Aj (cz ht Aa (λgg gh=>?_) (λgg gi=>?_))))))))
   ·refine Ae (wm Aa (ck gh λgj gl=>wv (BO CN Aa Aa gj) (ck gl λgm gp=>ck gp λgq gr=>BL (rs:=[rP b1 0,rI .u8 (C2 he 0)]) (Hin:=[.bld 177 5 b1 hh hf]) (Hr:=[.blk hd [rv (.map (some ha))] 156,.map ha (AY (mP ha) v.fSecrets),.poolm ha hg 162 (A1 A6 hb) none]) EY Aa (Vi _) (BS b1 hh hf (C2 he 0) gm gq) Aa ?_)));rintro _ _ ⟨gs,rfl,rfl⟩;refine bd gr λgt gu gv=>?_;rw[← gu];refine Bc (wm Aa (ck gv λgw gx=>wv (Ds CN Aa Aa gw) (wa Aa (Aj (Bt (Aw (Bb ?_)))))));have gy:=Bw gx hv;exact A2 (AN (h1,(List.drop (BK 1) he,gt),gs) ⟨gy,Vk _⟩ (AL.c Aa (AL.c Aa (AL.c Aa AL.nil))) (sC (sC (sC (sC sN)))))
   refine A0 (AO (Ae (ck gi λgz g0=>BL (rs:=[rP b1 0,rS ([42,42,42]:Ai)]) (Hin:=[.bld 177 5 b1 hh hf]) (Hr:=[.blk hd [rv (.map (some ha))] 156,.map ha (AY (mP ha) v.fSecrets),.poolm ha hg 162 (A1 A6 hb) none]) Tryz.call162 Aa (Vi _) (DP b1 hh hf ([42,42,42]:Ai) gz) Aa ?_)));rintro _ _ ⟨g1,rfl,rfl⟩;refine bd g0 λg2 g3 g4=>?_;rw[← g3];refine Aj (Al (wm Aa (wm Aa (ck g4 λg5 g6=>wv (Ds CN Aa Aa g5) (wa Aa (Ar (AH ?_)))))));have g7:=Bw g6 hv;exact A2 (AN (h1,(List.drop (BK h8) he,g2),g1) ⟨g7,Vk _⟩ (AL.c Aa (AL.c Aa (AL.c Aa AL.nil))) (sC (sC (sC (sC sN)))))
  refine Bt (Aw ?_);have g8:=BJ hG hv hC;exact Aw (Bf (AN (hf,hh) g8 (AL.c Aa AL.nil) (sC (sC (sC (sC sN))))))
 rintro⟨h0,h9⟩ hu;refine Hi ?_;replace hu:EC h0=some r:=hu;unfold EC at hu;refine Bb (AO (Ae (ck hu λg9 gA=>BL (rs:=[rP b1 0]) (Hin:=[.bld 177 5 b1 h9 h0]) (Hr:=[.blk hd [rv (.map (some ha))] 156,.map ha (AY (mP ha) v.fSecrets),.poolm ha hg 162 (A1 A6 hb) none]) Tryz.call120 Aa (Vi _) (LX b1 h9 h0  g9) Aa ?_)));rintro _ _ ⟨rfl,rfl⟩;refine wa Aa (Aj (Ao ?_));obtain rfl:=Aq gA;exact Ap (B1 Tryz.results265 (AF Aa)) (sC (sC (sC sN))) ⟨Aa,Aa⟩
end Go.Proofs.YtmjlemhondjfhaaGreatDoor.Q
namespace Go.Proofs.YtmjlemhondjfhaaGreatDoor
open Go
set_option linter.unusedVariables false
structure AK where
 fKind:Int
 fKey:Ai
 fValue:(List Ac)
 fDelay:Int
 deriving DecidableEq,Inhabited
structure Ce where
 fErr:Int
 fValue:(List Ac)
 deriving DecidableEq,Inhabited
def Jo (v:(List Ac)):Option (Ai×Bool):=
 Bg (Ca 0 (v.length:Int))<|some ((Au v 0).fStr,decide (((Au v 0).fKind)=4))
def T9 (v:(List Ac)):Option (Bool):=
 Bq (Jo v) λr1=>some (r1.2&&(Lm r1.1))
def Rt (v:(List Ac)):Option (Bool):=
 Bq (Jo v) λr1=>some (r1.2&&(D0 r1.1))
def E2 (n:Int):Option (Bool):=
 some ((decide (0≤n))&&(decide (n≤1073741824)))
def O3 (v:(List Ac)):Option (Bool):=
 Bg (Ca 0 (v.length:Int))<|Bg (imp (decide (((Au v 0).fKind)=3)) ((E2 ((Au v 0).fInt)).isSome))<|some ((decide (((Au v 0).fKind)=3))&&(ov (E2 ((Au v 0).fInt))))
def Ib (v:(List Ac)):Option (Bool):=
 Bg (imp (decide (1<(v.length:Int))) (Ca 0 (v.length:Int)))<|Bg (imp (decide (1<(v.length:Int))) (imp (decide (((Au v 0).fKind)=5)) (Ca 1 (v.length:Int))))<|some ((decide (1<(v.length:Int)))&&((decide (((Au v 0).fKind)=5))&&(decide (((Au v 1).fKind)=4))))
def Gf (F:Nat)(v:(List Ac)):Option (Int×Int×Bool):=
 Bq (Jo v) λr1=>Bq (Ts r1.1) λr4=>Bq (Jj F r4.1) λr7=>Bg (DV 1 r4.2.1.length)<|some (r7.1,Ci r4.2.1,(r1.2&&(r4.2.2&&((decide (r7.2=0))&&((decide ((Dr r4.2.1)=0))&&((decide (1≤(Ci r4.2.1)))&&(decide ((Ci r4.2.1)≤65535))))))))
def Ia (F:Nat)(v:(List Ac)):Option (Bool):=
 Bq (Gf F v) λr1=>some r1.2.2
def Qb (F:Nat)(k:Nat)(a0:(List Ac)):Option (Bool):=
 B4 (decide (k=88)) (T9 a0) (B4 (decide (k=89)) (Rt a0) (B4 (decide (k=90)) (O3 a0) (B4 (decide (k=91)) (Ib a0) (B4 (decide (k=92)) (Ia F a0) (none)))))
def Ea (s:(List Nat)):Option (Int):=
 some (s.length:Int)
def H3 (F:Nat)(s:(List Nat))(l:(List (List Ac)))(ha:Int):Option (Stp (Int) (Out (Bool) (Unit))):=
 B4 (decide (ha<(s.length:Int))) (Bg (Ca ha (s.length:Int))<|Bg (imp (!decide ((Au s ha)=0)) (Ca ha (l.length:Int)))<|Bg (imp (!decide ((Au s ha)=0)) ((Qb F (Au s ha) (Au l ha)).isSome))<|B4 (((!decide ((Au s ha)=0))&&(!(ov (Qb F (Au s ha) (Au l ha)))))) (some (.out (.ret false))) (Bg (Cf .i64 (ha+1))<|some (.next (ha+1)))) (some (.out (.go ())))
def H0 :Option (Bool):=
 some true
def Jp (F:Nat)(s:(List Nat))(l:(List (List Ac))):Option (Bool):=
 Bq (CW (λσ=>H3 F s l σ) F 0) (Cv λν=>H0 )
def IE (op:Ai):Option ((Option (List Nat))×Bool):=
 B4 (decide (op=([103,101,116]:Ai))) (some (some ([88]:List Nat),true)) (B4 (decide (op=([100,101,108,101,116,101]:Ai))) (some (some ([88]:List Nat),true)) (B4 (decide (op=([112,117,116]:Ai))) (some (some ([88,0]:List Nat),true)) (B4 (decide (op=([115,101,110,100]:Ai))) (some (some ([89,0]:List Nat),true)) (B4 (decide (op=([116,105,109,101,114]:Ai))) (some (some ([89,90,0]:List Nat),true)) (B4 (decide (op=([115,105,103,110,97,108]:Ai))) (some (some ([88,91]:List Nat),true)) (B4 (decide (op=([115,101,99,114,101,116]:Ai))) (some (some ([89]:List Nat),true)) (B4 (decide (op=([102,101,116,99,104]:Ai))) (some (some ([92,0]:List Nat),true)) (B4 (decide (op=([110,111,119]:Ai))) (some (some ([]:List Nat),false)) (B4 (decide (op=([108,111,103]:Ai))) (some (some ([0]:List Nat),false)) (some (none,false)))))))))))
def G5 (a:Br)(ha:Int):Option (Stp (Int) (Out (Int) (Unit))):=
 B4 (decide (ha<(a.fNet.length:Int))) (Bg (Ca ha (a.fNet.length:Int))<|Bq (CA (Au a.fNet ha)) λhb=>B4 (!decide (hb=0)) (some (.out (.ret hb))) (Bg (Cf .i64 (ha+1))<|some (.next (ha+1)))) (some (.out (.go ())))
def G1 (a:Br):Option (Int):=
 Bq (E2 a.fNow) λha=>B4 (!ha) (some 2) (some 0)
def G6 (F:Nat)(a:Br)(ha:Int):Option (Stp (Int) (Out (Int) (Unit))):=
 B4 (decide (ha<(a.fPolicy.length:Int))) (Bg (Ca ha (a.fPolicy.length:Int))<|Bq (DS F (Au a.fPolicy ha)) λhb=>B4 (!decide (hb=0)) (some (.out (.ret hb))) (Bg (Cf .i64 (ha+1))<|some (.next (ha+1)))) (some (.out (.go ())))
def G2 (F:Nat)(a:Br):Option (Int):=
 Bq (CW (λσ=>G5 a σ) F 0) (Cv λν=>G1 a )
def G7 (a:Br)(ha:Int):Option (Stp (Int) (Out (Int) (Unit))):=
 B4 (decide (ha<(a.fOps.length:Int))) (Bg (imp (decide (0<ha)) (Ca ha (a.fOps.length:Int)))<|Bg (imp (decide (0<ha)) (Cf .i64 (ha-1)))<|Bg (imp (decide (0<ha)) (Ca (ha-1) (a.fOps.length:Int)))<|B4 (((decide (0<ha))&&(GT (Au a.fOps ha) (Au a.fOps (ha-1))||decide ((Au a.fOps ha)=(Au a.fOps (ha-1)))))) (some (.out (.ret 11))) (Bg (Cf .i64 (ha+1))<|some (.next (ha+1)))) (some (.out (.go ())))
def G3 (F:Nat)(a:Br):Option (Int):=
 B4 (((decide (32<(a.fPolicy.length:Int)))||(decide (32<(a.fNet.length:Int))))) (some 3) (Bq (CW (λσ=>G6 F a σ) F 0) (Cv λν=>G2 F a ))
def G8 (a:Br)(ha:Int):Option (Stp (Int) (Out (Int) (Unit))):=
 B4 (decide (ha<(a.fOps.length:Int))) (Bg (Ca ha (a.fOps.length:Int))<|Bq (IE (Au a.fOps ha)) λhb=>B4 (Option.isNone hb.1) (some (.out (.ret 4))) (Bg (Cf .i64 (ha+1))<|some (.next (ha+1)))) (some (.out (.go ())))
def G4 (F:Nat)(a:Br):Option (Int):=
 Bq (CW (λσ=>G7 a σ) F 0) (Cv λν=>G3 F a )
def IQ (F:Nat)(a:Br):Option (Int):=
 B4 (((!(D0 a.fTenant))||(!(D0 a.fFunction)))) (some 4) (Bq (CW (λσ=>G8 a σ) F 0) (Cv λν=>G4 F a ))
def H4 (tenant:Ai)(op:Ai)(name:Ai):Option (Ai):=
 Bg (Cf .i64 ((tenant.length:Int)+(([47]:Ai).length:Int)))<|Bg (Cf .i64 (((tenant++([47]:Ai)).length:Int)+(op.length:Int)))<|Bg (Cf .i64 ((((tenant++([47]:Ai))++op).length:Int)+(([47]:Ai).length:Int)))<|Bg (Cf .i64 (((((tenant++([47]:Ai))++op)++([47]:Ai)).length:Int)+(name.length:Int)))<|some ((((tenant++([47]:Ai))++op)++([47]:Ai))++name)
def Jq (F:Nat)(v:(List Ac)):Option (Bool):=
 Bq (Jd F v) λr1=>some (!decide (r1=0))
def IC (F:Nat)(ys:(List (List Ac)))(ha:Int):Option (Stp (Int) (Out (Int) (Unit))):=
 B4 (decide (ha<(ys.length:Int))) (Bg (Ca ha (ys.length:Int))<|Bq (Jq F (Au ys ha)) λhb=>B4 (hb) (some (.out (.ret ha))) (Bg (Cf .i64 (ha+1))<|some (.next (ha+1)))) (some (.out (.go ())))
def IB :Option (Int):=
 some (-1)
def Rl (F:Nat)(ys:(List (List Ac))):Option (Int):=
 Bq (CW (λσ=>IC F ys σ) F 0) (Cv λν=>IB )
def ES (F:Nat)(ys:(List (List Ac))):Option (Bool):=
 Bq (Rl F ys) λr1=>some (decide (0≤r1))
def E9 (ys:(List Ai))(x:Ai)(ha:Int):Option (Stp (Int) (Out (Int) (Unit))):=
 B4 (decide (ha<(ys.length:Int))) (Bg (Ca ha (ys.length:Int))<|B4 (decide (x=(Au ys ha))) (some (.out (.ret ha))) (Bg (Cf .i64 (ha+1))<|some (.next (ha+1)))) (some (.out (.go ())))
def E8 :Option (Int):=
 some (-1)
def K4 (F:Nat)(ys:(List Ai))(x:Ai):Option (Int):=
 Bq (CW (λσ=>E9 ys x σ) F 0) (Cv λν=>E8 )
def Mh (F:Nat)(ys:(List Ai))(x:Ai):Option (Bool):=
 Bq (K4 F ys x) λr1=>some (decide (0≤r1))
def IP (F:Nat)(a:Br)(q:AV):Option (Int):=
 Bq (IQ F a) λr3=>B4 (!decide (r3=0)) (some r3) (Bq (IE q.fOp) λr9=>B4 (Option.isNone r9.1) (some 4) (Bq (Mh F a.fOps q.fOp) λhc=>B4 (!hc) (some 12) (Bg (Option.isSome r9.1)<|Bg ((Ea (Option.getD r9.1 ([]:(List Nat)))).isSome)<|Bg (imp (!(!decide ((q.fArgs.length:Int)=(ov (Ea (Option.getD r9.1 ([]:(List Nat)))))))) ((ES F q.fArgs).isSome))<|Bg (imp (!(!decide ((q.fArgs.length:Int)=(ov (Ea (Option.getD r9.1 ([]:(List Nat)))))))) (imp (!(ov (ES F q.fArgs))) ((Jp F (Option.getD r9.1 ([]:(List Nat))) q.fArgs).isSome)))<|B4 (((!decide ((q.fArgs.length:Int)=(ov (Ea (Option.getD r9.1 ([]:(List Nat)))))))||((ov (ES F q.fArgs))||(!(ov (Jp F (Option.getD r9.1 ([]:(List Nat))) q.fArgs)))))) (some 7) (B4 (r9.2) (Bg (Ca 0 (q.fArgs.length:Int))<|Bq (Jo (Au q.fArgs 0)) λhd=>Bq (H4 a.fTenant q.fOp hd.1) λhe=>Bq (KB F a.fPolicy q.fOp he) λhf=>B4 (!hf.fAllowed) (some 12) (B4 (decide (q.fOp=([102,101,116,99,104]:Ai))) (Bq (Gf F (Au q.fArgs 0)) λha=>Bq (I3 F a.fNet ha.1 ha.2.1) λhg=>B4 (!hg.fAllowed) (some 12) (some 0)) (some 0))) (B4 (decide (q.fOp=([102,101,116,99,104]:Ai))) (Bg (Ca 0 (q.fArgs.length:Int))<|Bq (Gf F (Au q.fArgs 0)) λhb=>Bq (I3 F a.fNet hb.1 hb.2.1) λhh=>B4 (!hh.fAllowed) (some 12) (some 0)) (some 0))))))
def My (q:AV):Option (AK×Bool):=
 B4 (decide (q.fOp=([112,117,116]:Ai))) (Bg (Ca 1 (q.fArgs.length:Int))<|Bg (Ca 0 (q.fArgs.length:Int))<|Bq (Jo (Au q.fArgs 0)) λha=>Bq (DJ (Au q.fArgs 1)) λhb=>some ((AK.mk 1 ha.1 hb 0),true)) (B4 (decide (q.fOp=([100,101,108,101,116,101]:Ai))) (Bg (Ca 0 (q.fArgs.length:Int))<|Bq (Jo (Au q.fArgs 0)) λhc=>Bq (DJ ([]:List Ac)) λhd=>some ((AK.mk 2 hc.1 hd 0),true)) (B4 (decide (q.fOp=([115,101,110,100]:Ai))) (Bg (Ca 1 (q.fArgs.length:Int))<|Bg (Ca 0 (q.fArgs.length:Int))<|Bq (Jo (Au q.fArgs 0)) λhe=>Bq (DJ (Au q.fArgs 1)) λhf=>some ((AK.mk 3 he.1 hf 0),true)) (B4 (decide (q.fOp=([116,105,109,101,114]:Ai))) (Bg (Ca 2 (q.fArgs.length:Int))<|Bg (Ca 1 (q.fArgs.length:Int))<|Bg (Ca 0 ((Au q.fArgs 1).length:Int))<|Bg (Ca 0 (q.fArgs.length:Int))<|Bq (Jo (Au q.fArgs 0)) λhg=>Bq (DJ (Au q.fArgs 2)) λhh=>some ((AK.mk 4 hg.1 hh ((Au (Au q.fArgs 1) 0).fInt)),true)) (B4 (decide (q.fOp=([115,105,103,110,97,108]:Ai))) (Bg (Ca 1 (q.fArgs.length:Int))<|Bg (Ca 0 (q.fArgs.length:Int))<|Bq (Jo (Au q.fArgs 0)) λhi=>Bq (DJ (Au q.fArgs 1)) λhj=>some ((AK.mk 5 hi.1 hj 0),true)) (some ((AK.mk 0 ([]:Ai) ([]:List Ac) 0),false))))))
def CJ (v:(List Ac))(e:Int):Option (Ce):=
 B4 (!decide (e=0)) (some (Ce.mk e ([]:List Ac))) (some (Ce.mk 0 v))
def H7 (F:Nat)(l:(List B6))(ha:Int):Option (Stp (Int) (Out (Int) (Unit))):=
 B4 (decide (ha<(l.length:Int))) (Bg (Ca ha (l.length:Int))<|B4 (!(Lm ((Au l ha).fKey))) (some (.out (.ret 4))) (Bq (Jd F ((Au l ha).fValue)) λhb=>B4 (!decide (hb=0)) (some (.out (.ret hb))) (B4 (decide (((Au l ha).fVersion)<1)) (some (.out (.ret 2))) (Bg (imp (decide (0<ha)) (Cf .i64 (ha-1)))<|Bg (imp (decide (0<ha)) (Ca (ha-1) (l.length:Int)))<|B4 (((decide (0<ha))&&(GT ((Au l ha).fKey) ((Au l (ha-1)).fKey)||decide (((Au l ha).fKey)=((Au l (ha-1)).fKey))))) (some (.out (.ret 11))) (Bg (Cf .i64 (ha+1))<|some (.next (ha+1))))))) (some (.out (.go ())))
def H6 :Option (Int):=
 some 0
def Mx (F:Nat)(l:(List B6)):Option (Int):=
 B4 (decide (256<(l.length:Int))) (some 3) (Bq (CW (λσ=>H7 F l σ) F 0) (Cv λν=>H6 ))
end Go.Proofs.YtmjlemhondjfhaaGreatDoor
