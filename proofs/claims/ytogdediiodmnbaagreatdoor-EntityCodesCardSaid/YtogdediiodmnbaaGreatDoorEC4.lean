/-
  Texts of the proof, put together: QL, PI, QF, Q6, Q9, WNa, PNb, WNb, QK, PNc, Qw, Iter, QKs.
-/
import Derived.Test.YtogdediiodmnbaaGreatDoorEC3
import Derived.Sort.KeysCollected
import Derived.Shelf.SlIter.Nil
import Derived.Shelf.SortM.Plain
import Derived.Shelf.SortM.SortNone
import Derived.Test.YtogdediiodmnbaaGreatDoorProg
namespace Go.Proofs.YtogdediiodmnbaaGreatDoor.Q
open Go Go.RowKit
set_option linter.unusedVariables false
set_option linter.unusedSimpArgs false
abbrev Ux:=Nat→Nat→Value×Nat
def Ag (k:Nat)(u u':Ux):Prop:=∀j,j<k→u j=u' j
structure Sy where
 deps:List Nat
 r:Ux→Rp
 lv:Nat:=0
 fx:Bool:=false
 old:List Nat:=[]
def Vx (sp:List Sy)(i:Nat):Sy:=sp.getD i { deps:=[],r:=λ_=>rv undef }
def syu (sp:List Sy)(u:Ux):List Sp:=sp.map λs=>⟨s.deps,s.r u,0⟩
def TV:List Sy→Prop
 | []=>True
 | s::r=>(∀u u',Ag s.lv u u'→s.r u=s.r u')∧TV r
theorem TV.at:∀{sp:List Sy},TV sp→∀{i:Nat} {s:Sy},sp[i]? =some s→∀u u',Ag s.lv u u'→s.r u=s.r u'
 | [],_,i,s,h=>by simp at h
 | x::sp,⟨h1,h2⟩,0,s,h=>by simp at h;subst h;exact h1
 | x::sp,⟨h1,h2⟩,i+1,s,h=>TV.at h2 (by simpa using h)
def cnt (S:Nat→Bool)(is:List Nat):Nat:=(is.filter S).length
section
variable (P : Program) (n : Nat) (c : Cx) (opsA : Array Oper) (Q : Exit → Act → World → Prop)
def OpY (l:Fr)(H:List Ent)(o:Oper)(k:Nat)(u:Ux)(r:Ux→Rp)(H1:Ux→List Ent):Prop:=
 ∀a w Z (K:Act→World→Prop),Da n l a Z→St c H Z w→(∀u' v w' Z',Ag k u u'→Fz.le Z Z'→(r u').p Z' v→St c (H1 u') Z' w'→K (a.put o.dst v) w')→
  Region.wanted o (yielded opsA a.tmps)=true∧o.wp P a w K Q
def ObY (ops:List Oper)(sp:List Sy)(l0 lw:Fr)(is:List Nat)(hs:List (Ux→List Ent))(i:Nat)(o:Oper):Prop:=
 match is.findIdx? (λx=>Nat.beq x i) with
 | some k=>∀u,OpY P n c opsA Q (HK lw (Vx sp i).old (Cm ops (syu sp u) (Vx sp i).deps l0)) (hs.getD k (λ_=>[]) u) o k u (Vx sp i).r (hs.getD (k+1) (λ_=>[]))
 | none=>if (Vx sp i).fx=true then ∀u,EV P n c opsA Q (HK lw (Vx sp i).old (Cm ops (syu sp u) (Vx sp i).deps l0)) (hs.getD (Vx sp i).lv (λ_=>[]) u) o ((Vx sp i).r u) (hs.getD (Vx sp i).lv (λ_=>[]) u)
  else ∀u k,k≤is.length→EV P n c opsA Q (HK lw (Vx sp i).old (Cm ops (syu sp u) (Vx sp i).deps l0)) (hs.getD k (λ_=>[]) u) o ((Vx sp i).r u) (hs.getD k (λ_=>[]) u)
def YV (ops:List Oper)(sp:List Sy)(l0 lw:Fr)(is:List Nat)(hs:List (Ux→List Ent)):Nat→List Oper→Prop
 | i,o::rest=>ObY P n c opsA Q ops sp l0 lw is hs i o∧YV ops sp l0 lw is hs (i+1) rest
 | _,[]=>True
end
section
variable {P : Program} {n : Nat} {c : Cx} {opsA : Array Oper} {Q : Exit → Act → World → Prop} {l l0 lw : Fr} {H : List Ent} {hs : List (Ux → List Ent)} {sp : List Sy} {is : List Nat}
theorem YV.at {ops:List Oper}:∀{k:Nat} {rest:List Oper},YV P n c opsA Q ops sp l0 lw is hs k rest→∀(t:Nat) o,rest[t]? =some o→ObY P n c opsA Q ops sp l0 lw is hs (k+t) o
 | k,o::rest,⟨h1,h2⟩,t,o',ht=>by
  cases t with
  | zero=>simp at ht;subst ht;exact h1
  | succ t=>
   have:=YV.at h2 t o' (by simpa using ht);rw[show k+(t+1)=k+1+t from by omega];exact this
 | _,[],_,t,o,h=>by simp at h
def YY (p:List Ent→Prop)(u:Ux):List (Ux→List Ent)→Prop
 | []=>True
 | f::r=>p (f u)∧YY p u r
theorem YY.at {p:List Ent→Prop}{u:Ux}:∀{hs:List (Ux→List Ent)},YY p u hs→∀k,k<hs.length→p (hs.getD k (λ_=>[]) u)
 | [],_,k,h=>absurd h (Nat.not_lt_zero _)
 | f::r,⟨h1,h2⟩,0,_=>h1
 | f::r,⟨h1,h2⟩,k+1,h=>YY.at h2 k (by simpa using h)
end
section
variable {P : Program} {n : Nat} {c : Cx} {opsA : Array Oper} {Q : Exit → Act → World → Prop} {l : Fr} {H : List Ent} {d : Nat} {x y : Operand} {ty t e : TypeId} {pos : String} {af : Array Edge} {v : Value} {sz : Nat}
end
end Go.Proofs.YtogdediiodmnbaaGreatDoor.Q
namespace Go.Proofs.YtogdediiodmnbaaGreatDoor
open Go
end Go.Proofs.YtogdediiodmnbaaGreatDoor
namespace Go.Proofs.YtogdediiodmnbaaGreatDoor.Q
open Go Go.RowKit
set_option linter.unusedVariables false
section
variable {P : Program} {n : Nat} {c : Cx} {ops : Array Oper} {Q : Exit → Act → World → Prop} {rest : List Oper} {l : Fr} {H : List Ent} {d : Nat} {d' : Option Nat} {t kt et ty : TypeId} {pos : String} {af : Array Edge} {g : Option (Nat × Bool)} {x y u : Operand} {b i : Nat} {T : Type} {enc : T → Rp} {xs : List (Int × T)} {z : T} {zv : Value}
theorem Qp.push {Z:Fz}{k:Int}{r:Rp}{v:Value}(hv:r.p Z v)(ck:Nat):∀{m:List (Int×Rp)} {es:List MapEntry},Qp Z m es→Qp Z (m++[(k,r)]) (es++[⟨.int .i64 k,v,ck⟩])
 | [],[],_=>⟨⟨rfl,hv⟩,trivial⟩
 | p::m,e::es,⟨h1,h2⟩=>⟨h1,h2.push hv ck⟩
theorem Ex {k:Ae}{xs:List (Ae×T)}{v:T}(ht:P.underlying t=some (.map kt et))(hk:P.underlying kt=some .string)(hx:ev l x=some (rv (.map (some b))))(hi:H[i]? =some (.map b (Ba enc xs)))(hy:ev l y=some (rS k))(hu:ev l u=some (enc v)){H':List Ent}(hH:H.set i (.map b (Ba enc (By xs k v)))=H')(h:WL P n c ops Q rest l H') :
  WL P n c ops Q ({ dst:=none,op:=.insert t x y u,type:=ty,pos:=pos,after:=af,guard:=none }::rest) l H:=by
 have:=Nl (n:=n) (c:=c) (ops:=ops) (Q:=Q) (rest:=rest) (ty:=ty) (pos:=pos) (af:=af) ht hk hx hi hy hu hH h;exact this
end
set_option linter.unusedSimpArgs false
def P1 (k:Nat)(i:Int)(off:Nat)(Z:Fz)(v:Value):Prop:=if i<0 then v = .pointer none else ∃b,Z.nm k i.toNat=some b∧v = .pointer (some ⟨b,off,none⟩)
def HZ (k:Nat)(i:Int)(off:Nat):Rp:=⟨P1 k i off,fun {Z Z' v} h hp=>by
 unfold P1 at *
 split
 ·rename_i h0;rwa [AbB h0] at hp
 ·rename_i h0;rw[Ab6 h0] at hp;obtain⟨b,h1,h2⟩:=hp;exact⟨b,h.nm k _ b h1,h2⟩,true,λ_ Z v hp=>by
 change P1 k i off Z v at hp
 unfold P1 at hp
 split at hp
 ·rw[hp];rfl
 ·obtain⟨b,_,h2⟩:=hp;rw[h2];rfl⟩
@[reducible] def eP (k:Nat) (i:Int):List Rp:=[HZ k i 0]
theorem Qe (k:Nat)(i:Int):(eP k i).length=1:=rfl
theorem Xr (k:Nat)(i:Int):(eP k i).all (·.one)=true:=rfl
@[reducible] def mP (k:Nat) (i:Int):Rp:=HZ k i 0
theorem WE (k:Nat)(Z:Fz):(mP k (-1)).p Z (.pointer none):=rfl
section
variable {P : Program} {n : Nat} {c : Cx} {ops : Array Oper} {Q : Exit → Act → World → Prop} {rest : List Oper} {l : Fr} {H H' : List Ent} {d : Nat} {d' : Option Nat} {x y : Operand} {ty t t' e : TypeId} {pos : String} {af : Array Edge} {g : Option (Nat × Bool)} {v u : Value} {r : Rp} {sz k : Nat} {pv : Value} {α : Type} [Inhabited α] {xs : List α} {enc : α → List Rp}
theorem PN {Z:Fz}{w:World}{j off:Nat}{i:Int}(hw:St c H Z w)(hi:H[j]? =some (.pool k pv e (xs.map enc)))(hg:Cp i (xs.length:Int)=true)(hp:(HZ k i off).p Z v) :
  ∃b us,v = .pointer (some ⟨b,off,none⟩)∧(HU pv)[i.toNat]? =some b∧w.heap[b]? =some (.cells us.toArray e (0,0))∧Bt Z (enc (Am xs i)) us:=by
 obtain⟨h0,hl,h⟩:=hw.ent hi;have hi0:=(C9 hg).1;have hi1:i.toNat<xs.length:=by have:=(C9 hg).2;omega
 have hb:i.toNat<(HU pv).length:=by rw[hl,Ab3];exact hi1
 obtain⟨h1,us,h2,h3⟩:=h i.toNat (HU pv)[i.toNat] (enc xs[i.toNat]) (Abn hb) (by simp[hi1])
 change P1 k i off Z v at hp
 unfold P1 at hp;rw[Ab6 (by omega)] at hp;obtain⟨b,h4,h5⟩:=hp;rw[h1] at h4;obtain rfl:=Option.some.inj h4;exact⟨_,us,h5,Abn hb,h2,by rw[show Am xs i=xs[i.toNat] from by simp[Am,hi1]];exact h3⟩
theorem Ki {j off:Nat}{i:Int}{rs:List Rp}(hag:∀w,(isAgg t).run P w = .ok true w)(hsz:∀w,(sizeOf t).run P w = .ok sz w)(hx:ev l x=some (HZ k i off))(hi:H[j]? =some (.pool k pv e (xs.map enc)))(hg:Cp i (xs.length:Int)=true)
  (hr:((enc (Am xs i)).drop off).take sz=rs) (hl:rs.length=sz):B1 P n c l H { dst:=d',op:=.load t x,type:=ty,pos:=pos,after:=af,guard:=g } (Bq rs):=λa w Z ha hw=>by
 obtain⟨b,us,e1,_,h1,h2⟩:=PN hw hi hg (ha.ev hx);have h3:=(h2.drop off).take sz;rw[hr] at h3;have hlen:=h3.length;have h4:=run_loadCells_list (P:=P) w ⟨b,off,none⟩ ((us.drop off).take sz) (λj u hj=>by
  rw[Jq,cell_of_row w b _ _ e (0,0) h1];rw[AbQ] at hj
  split at hj
  ·simpa using hj
  ·cases hj)
 rw[hlen,hl] at h4;exact⟨.agg ((us.drop off).take sz).toArray,⟨_,rfl,h3⟩,by simp[execOp,e1,Instr.loadAt,Instr.sureAddr,loadVar,hag,hsz,h4]⟩
theorem EG {off:Nat}{i:Int}(hx:ev l x=some (HZ k i off))(hg:decide (0≤i)=true):B1 P n c l H { dst:=d',op:=.nilCheck x,type:=ty,pos:=pos,after:=af,guard:=g } (HZ k i off):=λa w Z ha hw=>by
 have h:=ha.ev hx;have h':=h
 change P1 k i off Z _ at h
 unfold P1 at h;rw[Ab6 (by have:=AbE hg;omega)] at h;obtain⟨b,_,e1⟩:=h;exact⟨a.eval x,h',by simp[execOp,e1]⟩
theorem PQ {off off' i:Nat}{q:Int}{fs:Array Field}{f:Field}(hu:P.underlying t=some (.struct fs))(hf:fs[i]? =some f)(hsz:∀w,(sizeOf f.type).run P w = .ok (sz+1) w)
  (hx:ev l x=some (HZ k q off)) (hg:decide (0≤q)=true) (ho:off+f.offset=off'):B1 P n c l H { dst:=d',op:=.fieldAddr t x i,type:=ty,pos:=pos,after:=af,guard:=g } (HZ k q off'):=λa w Z ha hw=>by
 have h:=ha.ev hx
 change P1 k q off Z _ at h
 unfold P1 at h;have h0:=AbE hg;rw[Ab6 (by omega)] at h;obtain⟨b,h1,e1⟩:=h;subst ho;refine⟨.pointer (some ⟨b,off+f.offset,none⟩),?_,by simp[execOp,e1,Instr.fieldAt,run_underlying hu,hf,Instr.sureAddr,fieldPlace,hsz,Jq]⟩;show P1 k q (off+f.offset) Z _;unfold P1;rw[Ab6 (by omega)];exact⟨b,h1,rfl⟩
theorem St.poolset {β:Type}{xs:List β}{enc:β→List Rp}{Z:Fz}{w:World}{j b:Nat}{i:Int}{us us':List Value}{y':β}(hw:St c H Z w)(hi:H[j]? =some (.pool k pv e (xs.map enc)))(hb:(HU pv)[i.toNat]? =some b)(h1:w.heap[b]? =some (.cells us.toArray e (0,0)))(h2:Bt Z (enc y') us') :
  St c (H.set j (.pool k pv e ((xs.set i.toNat y').map enc))) Z (w.setRow b us'.toArray):=by
 obtain⟨h0,hl,h⟩:=hw.ent hi;have hbl:=(List.getElem?_eq_some_iff.1 hb).1;refine hw.setp hi rfl rfl rfl (by simp[World.setRow]) (λq _ hq=>?_) ⟨h0,by simpa using hl,λi' b' cs h3 h4=>?_⟩ (λq hq=>.inl hq) rfl rfl
 ·have:q≠b:=λe=>hq (by subst e;exact Abs hb);simp only[World.setRow,Array.getElem?_modify];rw[Ab6 (λe=>this e.symm)]
 ·rw[List.map_set,Acd] at h4
  split at h4
  ·rename_i hii
   subst hii
   split at h4
   ·rw[hb] at h3;obtain rfl:=Option.some.inj h3;obtain rfl:=Option.some.inj h4;obtain⟨g1,_⟩:=h i.toNat b _ hb (Abn (by omega));exact⟨g1,us',setRow_heap w b _ _ e (0,0) h1,h2⟩
   ·cases h4
  ·rename_i hii
   obtain⟨g1,vs,g2,g3⟩:=h i' b' cs h3 h4;have hne:b'≠b:=λe=>hii (by
    subst e;have e1:=(List.getElem?_eq_some_iff.1 h3)
    have e2:=(List.getElem?_eq_some_iff.1 hb)
    exact(List.getElem_inj h0).1 (e2.2.trans e1.2.symm))
   refine⟨g1,vs,?_,g3⟩;simp only[World.setRow,Array.getElem?_modify];rw[Ab6 (λe=>hne e.symm)];exact g2
theorem Uo {j off:Nat}{i:Int}{y':α}(hag:∀w,(sizeOf t).run P w = .ok 1 w)(hx:ev l x=some (HZ k i off))(hy:ev l y=some r)(hv:RR H r)(hi:H[j]? =some (.pool k pv e (xs.map enc)))(hg:Cp i (xs.length:Int)=true)
  (hy':(enc (Am xs i)).set off r=enc y') (hlt:Nat.blt off (enc (Am xs i)).length=true) (hH:H.set j (.pool k pv e ((xs.set i.toNat y').map enc))=H') (h:WL P n c ops Q rest l H') :
  WL P n c ops Q ({ dst:=none,op:=.store t x y,type:=ty,pos:=pos,after:=af,guard:=none }::rest) l H:=
 OB λa w Z ha hw=>by
  obtain⟨b,us,e1,hb,h1,h2⟩:=PN hw hi hg (ha.ev hx);have hr:=ha.ev hy;have hone:=hv c Z w _ hw hr;have hlen:=h2.length;have hlt':off<us.length:=by rw[hlen];simpa using hlt
  have h4:=run_storeCells_at P b off e [a.eval y] 0 us.toArray w h1 (by simp;omega) (by simpa using hone);have hcv:=BM hone;have h3:us.take off++[a.eval y]++us.drop (off+1)=us.set off (a.eval y):=by
   simp[List.set_eq_take_append_cons_drop,hlt']
  simp only[Nat.add_zero,Abf,AbP,AbR] at h4;rw[h3] at h4;refine⟨w.setRow b (us.set off (a.eval y)).toArray,H',?_,?_,h⟩
  ·simp[execOp,e1,Instr.storeAt,Instr.sureAddr,storeVar,hag,hcv,h4]
  ·subst hH;exact hw.poolset hi hb h1 (by rw[← hy'];exact h2.set off hr)
theorem Sl {j off:Nat}{i:Int}{y':α}{rs:List Rp}(hsz:∀w,(sizeOf t).run P w = .ok sz w)(hx:ev l x=some (HZ k i off))(hy:ev l y=some (Bq rs))(hl:rs.length=sz)(hv:Bx H rs)(hi:H[j]? =some (.pool k pv e (xs.map enc)))(hg:Cp i (xs.length:Int)=true)
  (hlt:Nat.ble (off+sz) (enc (Am xs i)).length=true) (hy':(enc (Am xs i)).take off++rs++(enc (Am xs i)).drop (off+sz)=enc y') (hH:H.set j (.pool k pv e ((xs.set i.toNat y').map enc))=H') (h:WL P n c ops Q rest l H') :
  WL P n c ops Q ({ dst:=none,op:=.store t x y,type:=ty,pos:=pos,after:=af,guard:=none }::rest) l H:=
 OB λa w Z ha hw=>by
  obtain⟨b,us,e1,hb,h1,h2⟩:=PN hw hi hg (ha.ev hx);obtain⟨vs,e2,h4⟩:=ha.ev hy;have hlen:=h2.length;have hvl:=h4.length;have hlt':off+sz≤us.length:=by rw[hlen];simpa using hlt
  have h5:=run_storeCells_at P b off e vs 0 us.toArray w h1 (by simp;omega) (λv hv'=>hv.at hw h4 v hv');simp only[Nat.add_zero] at h5;refine⟨w.setRow b (us.take off++vs++us.drop (off+sz)).toArray,H',?_,?_,h⟩
  ·have h6:vs.length=sz:=by omega
   rw[h6] at h5;simp only[Ab7] at h5 ⊢;simp[execOp,e1,e2,Instr.storeAt,Instr.sureAddr,storeVar,hsz,Value.cells,h6,h5]
  ·subst hH;exact hw.poolset hi hb h1 (by rw[← hy'];exact((h2.take off).append h4).append (h2.drop (off+sz)))
theorem St.adopt0 {Z:Fz}{w:World}{b:Nat}{cs:List Rp}{ys:List (List Rp)}{Hr:List Ent}{pv':Value}(h:St c (.blk b cs e::.pool k pv e ys::Hr) Z w)(hpv:HU pv'=HU pv++[b]):∃Z',Fz.le Z Z'∧Z'.nm k ys.length=some b∧St c (.pool k pv' e (ys++[cs])::Hr) Z' w:=by
 obtain⟨us,hb1,hb2⟩:=h.has (.blk b cs e) (by simp);obtain⟨h0,hl,hp⟩:=h.has (.pool k pv e ys) (by simp);have hd:=List.pairwise_cons.1 h.dis;have hd2:=List.pairwise_cons.1 hd.2;have gd:=List.pairwise_cons.1 h.gst.dis;have gd2:=List.pairwise_cons.1 gd.2;have hcap:=h.gst.cap (.pool k pv e ys) (by simp) k (by simp[Ent.gk]);have hksz:=h.gst.sz (.pool k pv e ys) (by simp) k (by simp[Ent.gk]);have hkown:=h.gst.own (.pool k pv e ys) (by simp) k (by simp[Ent.gk])
 let Z':Fz:=⟨Z.f,λq i=>if q=k∧i=ys.length then some b else Z.nm q i⟩
 have hnew:Z'.nm k ys.length=some b:=by simp[Z']
 have hle:Fz.le Z Z':=⟨λ_ _ h=>h,λq i b' hq=>by
  by_cases hqi:q=k∧i=ys.length
  ·obtain⟨rfl,rfl⟩:=hqi;rw[hcap _ (by simp[Ent.gn,hl])] at hq;cases hq
  ·simpa[Z',hqi] using hq⟩
 have hbn:b ∉ HU pv:=λhbs=>hd.1 (.pool k pv e ys) (by simp) b (by simp[Ent.foot]) hbs;refine⟨Z',hle,hnew,h.os,h.tape,h.output,h.size,h.old,λen he=>?_,λen he q hq=>?_,?_,⟨λb o hb=>h.frz.f b o hb,λq i b' hq=>?_⟩,h.le.trans hle,λb o hb=>h.new b o hb,λen he q hq=>?_,h.emono hle h.env,h.emono,⟨λen he q hq=>?_,λen he q hq=>?_,?_,λq i b' hq=>?_,λen he q hq i hi=>?_⟩⟩
 ·rcases List.mem_cons.1 he with rfl | he
  ·refine⟨by rw[hpv];exact List.nodup_append.2 ⟨h0,by simp,λx hx y hy e=>by simp at hy;subst hy;exact hbn (e▸hx)⟩,by rw[hpv];simp[hl],λi b' cs' h1 h2=>?_⟩
   ·rw[hpv] at h1
    by_cases hi:i<(HU pv).length
    ·rw[AbT hi] at h1;rw[AbT (by omega)] at h2;obtain⟨g1,vs,g2,g3⟩:=hp i b' cs' h1 h2;exact⟨hle.nm k i b' g1,vs,g2,g3.mono hle⟩
    ·have hi2:i=(HU pv).length:=by have:=(List.getElem?_eq_some_iff.1 h1).1;simp at this;omega
     subst hi2;simp at h1;subst h1;rw[hl] at h2;simp at h2;subst h2;exact⟨by rw[hl];exact hnew,us,hb1,hb2.mono hle⟩
  ·exact Ent.keep (h.has en (by simp[he])) hle λ_ _=>rfl
 ·rcases List.mem_cons.1 he with rfl | he
  ·rcases List.mem_append.1 (hpv▸(show q∈HU pv' from hq)) with hq | hq
   ·exact h.own (.pool k pv e ys) (by simp) q hq
   ·simp at hq;subst hq;exact h.own (.blk q cs e) (by simp) q (by simp[Ent.foot])
  ·exact h.own en (by simp[he]) q hq
 ·refine List.pairwise_cons.2 ⟨λen he q hq hq'=>?_,hd2.2⟩;rcases List.mem_append.1 (hpv▸(show q∈HU pv' from hq)) with hq | hq
  ·exact hd2.1 en he q hq hq'
  ·simp at hq;subst hq;exact hd.1 en (by simp[he]) q (by simp[Ent.foot]) hq'
 ·by_cases hqi:q=k∧i=ys.length
  ·rw[hqi.1];exact hksz
  ·exact h.frz.nm q i b' (by simpa[Z',hqi] using hq)
 ·rcases List.mem_cons.1 he with rfl | he
  ·rcases List.mem_append.1 (hpv▸(show q∈HU pv' from hq)) with hq | hq
   ·exact h.zdis (.pool k pv e ys) (by simp) q hq
   ·simp at hq;subst hq;exact h.zdis (.blk q cs e) (by simp) q (by simp[Ent.foot])
  ·exact h.zdis en (by simp[he]) q hq
 ·rcases List.mem_cons.1 he with rfl | he
  ·simp[Ent.gk] at hq;subst hq;exact hkown
  ·exact h.gst.own en (by simp[he]) q hq
 ·rcases List.mem_cons.1 he with rfl | he
  ·simp[Ent.gk] at hq;subst hq;exact hksz
  ·exact h.gst.sz en (by simp[he]) q hq
 ·exact List.pairwise_cons.2 ⟨λen he q hq hq'=>gd2.1 en he q hq hq',gd2.2⟩
 ·by_cases hqi:q=k∧i=ys.length
  ·rw[hqi.1];exact .inr hkown
  ·exact h.gst.new q i b' (by simpa[Z',hqi] using hq)
 ·rcases List.mem_cons.1 he with rfl | he
  ·simp[Ent.gk] at hq;subst hq;simp[Ent.gn,hpv] at hi;have : ¬ i=ys.length:=by omega
   simp only[Z',this,and_false,AbF];exact hcap i (by simp[Ent.gn];omega)
  ·have hqk:q≠k:=λe1=>gd2.1 en he k (by simp[Ent.gk]) (e1▸hq);simp only[Z',hqk,false_and,AbF];exact h.gst.cap en (by simp[he]) q hq i hi
theorem St.adopt {Z:Fz}{w:World}{b:Nat}{cs:List Rp}{ys:List (List Rp)}{Hr:List Ent}(h:St c (.blk b cs e::.pool k pv e ys::Hr) Z w):∃Z',Fz.le Z Z'∧Z'.nm k ys.length=some b∧St c (.pool k (Z7 (HU pv++[b])) e (ys++[cs])::Hr) Z' w:=St.adopt0 h (YQ _)
theorem Da.re {a:Act}{Z:Fz}{d:Nat}{q r:Rp}(h:Da n l a Z)(hl:look l d=some q)(hq:∀v,q.p Z v→r.p Z v):Da n ((d,r)::l) a Z:=⟨h.size,h.defers,λi u hi=>by
 rw[Cq] at hi
 split at hi
 ·rename_i e;subst e;simp at hi;subst hi
  obtain⟨v,h1,h2⟩:=h.tm d q hl;exact⟨v,h1,hq v h2⟩
 ·exact h.tm i u hi⟩
theorem P1.of {Z:Fz}{b N:Nat}(h:Z.nm k N=some b):∀v,(rv (.pointer (some ⟨b,0,none⟩))).p Z v→(HZ k (N:Int) 0).p Z v:=λv hv=>by
 show P1 k N 0 Z v;unfold P1;rw[Ab6 (by omega)];exact⟨b,by simpa using h,hv⟩
def LX (l:Fr)(b:Nat):List Nat→Prop
 | []=>True
 | d::ds=>look l d=some (rv (.pointer (some ⟨b,0,none⟩)))∧LX l b ds
def Zl (k N:Nat):List Nat→Fr→Fr
 | [],l=>l
 | d::ds,l=>(d,HZ k (N:Int) 0)::Zl k N ds l
theorem M7 {Z:Fz}{a:Act}{b N:Nat}{l:Fr}(ha:Da n l a Z)(hn:Z.nm k N=some b):∀{ds:List Nat},LX l b ds→Da n (Zl k N ds l) a Z
 | [],_=>ha
 | d::ds,⟨h1,h2⟩=>by
  have h3:=M7 ha hn h2;refine⟨h3.size,h3.defers,λi u hi=>?_⟩;rw[Zl,Cq] at hi
  split at hi
  ·rename_i e;subst e;simp at hi;subst hi
   obtain⟨v,h4,h5⟩:=ha.tm d _ h1;exact⟨v,h4,P1.of hn v h5⟩
  ·exact h3.tm i u hi
theorem St.adoptE {β:Type}{xs:List β}{enc:β→List Rp}{Z:Fz}{w:World}{b:Nat}{y:β}{Hr:List Ent}{cs:List Rp}(hw:St c H Z w)(hp:H.Perm (.blk b cs e::.pool k pv e (xs.map enc)::Hr))(hcs:cs=enc y) :
  ∃Z' pv',Fz.le Z Z'∧Z'.nm k xs.length=some b∧St c (.pool k pv' e ((xs++[y]).map enc)::Hr) Z' w:=by
 obtain⟨Z',h1,h2,h3⟩:=(hw.perm hp).adopt;subst hcs;rw[Ab3] at h2;exact⟨Z',_,h1,h2,by rw[Acc];exact h3⟩
theorem WL.adopt {β:Type}{xs:List β}{enc:β→List Rp}{b:Nat}{y:β}{Hr:List Ent}{cs:List Rp}(hp:H.Perm (.blk b cs e::.pool k pv e (xs.map enc)::Hr))(ds:List Nat)(hd:LX l b ds)(hcs:cs=enc y)
  (h:∀pv',WL P n c ops Q rest (Zl k xs.length ds l) (.pool k pv' e ((xs++[y]).map enc)::Hr)):WL P n c ops Q rest l H:=λa w Z ha hw=>by
 obtain⟨Z',pv',h1,h2,h3⟩:=St.adoptE hw hp hcs;exact h pv' a w Z' (M7 (ha.mono h1) h2 hd) h3
theorem WC.adopt {β:Type}{xs:List β}{enc:β→List Rp}{b:Nat}{y:β}{Hr:List Ent}{cs:List Rp}{xx:Code}(hp:H.Perm (.blk b cs e::.pool k pv e (xs.map enc)::Hr))(ds:List Nat)(hd:LX l b ds)(hcs:cs=enc y)
  (h:∀pv',WC P n c xx Q (Zl k xs.length ds l) (.pool k pv' e ((xs++[y]).map enc)::Hr)):WC P n c xx Q l H:=λa w Z ha hw=>by
 obtain⟨Z',pv',h1,h2,h3⟩:=St.adoptE hw hp hcs;exact h pv' a w Z' (M7 (ha.mono h1) h2 hd) h3
theorem WK.adopt {β:Type}{xs:List β}{enc:β→List Rp}{b:Nat}{y:β}{Hr:List Ent}{cs:List Rp}{K:Act→World→Prop}(hp:H.Perm (.blk b cs e::.pool k pv e (xs.map enc)::Hr))(ds:List Nat)(hd:LX l b ds)(hcs:cs=enc y)
  (h:∀pv',WK n c K (Zl k xs.length ds l) (.pool k pv' e ((xs++[y]).map enc)::Hr)):WK n c K l H:=λa w Z ha hw=>by
 obtain⟨Z',pv',h1,h2,h3⟩:=St.adoptE hw hp hcs;exact h pv' a w Z' (M7 (ha.mono h1) h2 hd) h3
theorem JO:HU (.tuple #[])=[]:=rfl
theorem N6 (hn:Nat.blt d n=true)(h:∀b,WL P n c ops Q rest ((d,rv (.map (some b)))::l) (.pool b (.tuple #[]) e []::.map b []::H)) :
  WL P n c ops Q ({ dst:=some d,op:=.makeMap t none,type:=ty,pos:=pos,after:=af,guard:=none }::rest) l H:=
 K5 (λa w Z ha hw=>by
  have h1:=hw.alloc (.map #[] 0) (e:=.map w.heap.size []) ⟨#[],0,by simpa using heap_alloc_new w _,by simp,by simp,by simp,[],Abg _,trivial⟩ rfl;refine⟨_,w.alloc (.map #[] 0),_,_,Z,by simp[execOp,run_makeMap],Fz.le.refl _,rfl,?_,h w.heap.size⟩;have hz:∀i,Z.nm w.heap.size i=none:=λi=>by
   cases hq:Z.nm w.heap.size i with
   | none=>rfl
   | some b=>have:=hw.frz.nm _ _ _ hq;omega
  have hold:∀en∈(Ent.map w.heap.size []::H),∀q∈en.gk,q<w.heap.size:=λen he q hq=>by
   rcases List.mem_cons.1 he with rfl | he
   ·simp[Ent.gk] at hq
   ·exact hw.gst.sz en he q hq
  refine { h1 with has:=λen he=>?_,own:=λen he q hq=>?_,dis:=List.pairwise_cons.2 ⟨λen he q hq=>by simp[Ent.foot,JO] at hq,h1.dis⟩,zdis:=λen he q hq=>?_,gst:=⟨λen he q hq=>?_,λen he q hq=>?_,List.pairwise_cons.2 ⟨λen he q hq hq'=>?_,h1.gst.dis⟩,h1.gst.new,λen he q hq i hi=>?_⟩ }
  ·rcases List.mem_cons.1 he with rfl | he
   ·exact⟨by simp[JO],by simp[JO],by simp⟩
   ·exact h1.has en he
  ·rcases List.mem_cons.1 he with rfl | he
   ·simp[Ent.foot,JO] at hq
   ·exact h1.own en he q hq
  ·rcases List.mem_cons.1 he with rfl | he
   ·simp[Ent.foot,JO] at hq
   ·exact h1.zdis en he q hq
  ·rcases List.mem_cons.1 he with rfl | he
   ·simp[Ent.gk] at hq;subst hq;exact .inl hw.size
   ·exact h1.gst.own en he q hq
  ·rcases List.mem_cons.1 he with rfl | he
   ·simp[Ent.gk] at hq;subst hq;simp
   ·exact h1.gst.sz en he q hq
  ·simp[Ent.gk] at hq;subst hq;have:=hold en he _ hq';omega
  ·rcases List.mem_cons.1 he with rfl | he
   ·simp[Ent.gk] at hq;subst hq;exact hz i
   ·exact h1.gst.cap en he q hq i hi) hn
end
def MpZ (m:List (List UInt8×Rp))(Z:Fz)(v:Value):Prop:=∃b es ck,v = .map (some b)∧Z b=some (.map es ck)∧GW Z m es.toList ck
def U1 (m:List (List UInt8×Rp)):Rp:=⟨MpZ m,λh ⟨b,es,ck,h1,h2,h3⟩=>⟨b,es,ck,h1,h.f b _ h2,h3.mono h⟩,true,λ_ Z v ⟨b,es,ck,h1,_⟩=>by rw[h1];rfl⟩
@[reducible] def mF (f:Nat):Rp:=rv (.func (.func f) #[] #[])
section
variable {P : Program} {n : Nat} {c : Cx} {ops opsA : Array Oper} {Q : Exit → Act → World → Prop} {rest : List Oper} {l : Fr} {H : List Ent} {d : Nat} {d' : Option Nat} {ty t kt et rty : TypeId} {pos : String} {af : Array Edge} {g : Option (Nat × Bool)} {x y u : Operand} {K : Act → World → Prop} {cx : Code} {r : Rp}
variable {T : Type} {enc : T → Rp} {xs : List (Ae × T)} {z : T} {k : Ae} {zv : Value} {i b : Nat}
theorem St.freezeM {Z:Fz}{w:World}(h:St c H Z w){m:List (List UInt8×Rp)}(hi:H[i]? =some (.map b m)):∃Z',Fz.le Z Z'∧St c (.fact (.map (some b)) (U1 m)::H.eraseIdx i) Z' w:=by
 obtain⟨es,ck,hg,hm⟩:=h.ent hi;have hmem:=Abs hi;have hgz:Z b=none:=h.zdis _ hmem b (by simp[Ent.foot])
 let Z':Fz:=⟨λq=>if q=b then some (.map es ck) else Z q,Z.nm⟩
 have hle:Fz.le Z Z':=⟨λq o hb=>by
  have:q≠b:=λe=>by subst e;rw[hgz] at hb;cases hb
  simpa[Z',this] using hb,λ_ _ _ h=>h⟩
 have hfr:=h.front hi;have hd:=List.pairwise_cons.1 hfr.dis;have hs:=hfr.sub (List.sublist_cons_self _ _);have hs':St c (H.eraseIdx i) Z' w:=by
  refine { hs with has:=λen he=>Ent.keep (hs.has en he) hle λ_ _=>rfl,frz:=⟨λq o hb=>?_,h.frz.nm⟩,gst:=hs.gst.names rfl,le:=hs.le.trans hle,new:=λq o hb=>?_,zdis:=λen he k hk=>?_,env:=hs.emono hle hs.env }
  ·by_cases hbg:q=b
   ·subst hbg;simp[Z'] at hb;rw[← hb];exact hg
   ·simp[Z',hbg] at hb;exact h.frz q o hb
  ·by_cases hbg:q=b
   ·subst hbg;exact .inr (h.own _ hmem q (by simp[Ent.foot]))
   ·simp[Z',hbg] at hb;exact h.new q o hb
  ·have hkg:k≠b:=λe=>hd.1 en he b (by simp[Ent.foot]) (e▸hk);simp only[Z',hkg,AbF];exact hs.zdis en he k hk
 exact⟨Z',hle,hs'.add rfl rfl rfl (AbA _) (λ_ _=>rfl) (e':=.fact (.map (some b)) (U1 m)) ⟨b,es,ck,rfl,by simp[Z'],hm.mono hle⟩ (by simp[Ent.foot])⟩
theorem WK.freezeM {m:List (List UInt8×Rp)}(hi:H[i]? =some (.map b m))(h:WK n c K l (.fact (.map (some b)) (U1 m)::H.eraseIdx i)):WK n c K l H:=λa w Z ha hw=>by
 obtain⟨Z',hz,hs⟩:=St.freezeM hw hi;exact h a w Z' (ha.mono hz) hs
theorem WC.freezeM {m:List (List UInt8×Rp)}(hi:H[i]? =some (.map b m))(h:WC P n c cx Q l (.fact (.map (some b)) (U1 m)::H.eraseIdx i)):WC P n c cx Q l H:=λa w Z ha hw=>by
 obtain⟨Z',hz,hs⟩:=St.freezeM hw hi;exact h a w Z' (ha.mono hz) hs
theorem WL.freezeM {m:List (List UInt8×Rp)}(hi:H[i]? =some (.map b m))(h:WL P n c ops Q rest l (.fact (.map (some b)) (U1 m)::H.eraseIdx i)):WL P n c ops Q rest l H:=λa w Z ha hw=>by
 obtain⟨Z',hz,hs⟩:=St.freezeM hw hi;exact h a w Z' (ha.mono hz) hs
theorem MpZ.heap {Z:Fz}{w:World}(hf:TY Z w){m:List (List UInt8×Rp)}{v:Value}(h:(U1 m).p Z v):∃b,v = .map (some b)∧(Ent.map b m).holds Z w:=by
 obtain⟨b,es,ck,h1,h2,h3⟩:=h;exact⟨b,h1,es,ck,hf b _ h2,h3⟩
theorem Jk {q:T}(ht:P.underlying t=some (.map kt et))(hk:P.underlying kt=some .string)(hx:ev l x=some (U1 (Ba enc xs)))(hy:ev l y=some (rS k))(hq:G1 xs k=some q) :
  B1 P n c l H { dst:=d',op:=.lookup t x y false,type:=ty,pos:=pos,after:=af,guard:=g } (enc q):=λa w Z ha hw=>by
 obtain⟨b,e1,es,ck,h1,h2⟩:=MpZ.heap hw.frz (ha.ev hx);have hq':G1 (Ba enc xs) k=some (enc q):=by rw[JK,hq];rfl
 rcases Qc h2 k with⟨q1,q2,_⟩ | ⟨j,e,r,q1,_,_,q2,q3⟩
 ·rw[hq'] at q2;cases q2
 ·rw[hq'] at q2;obtain rfl:=Option.some.inj q2;exact⟨e.val,q3,by simp[execOp,e1,ha.eval hy,Instr.lookup,run_underlying ht,MapKept.run_getObj_map h1,MapKept.run_checkKey hk (GF _),MapKept.run_findKey hk q1]⟩
theorem PP {f:FuncId}{args:List Operand}{ats:Array TypeId}{rs:List Rp}(hcall:∀(as1:Array Value) (w:World),(callFunc f as1).run P w = .ok (.enter f as1) w)(hc:MA P c.E f rs r)(hx:ev l x=some (mF f))(hv:O7 l args=some rs) :
  EV P n c opsA Q l H { dst:=some d,op:=.call { callee:=.value x,args:=args.toArray,argTypes:=ats },type:=ty,pos:=pos,after:=af,guard:=none } r H:=λa w Z K ha hw hK=>
 ⟨λ_=>by
  unfold Oper.wp;rw[ML (caps:=[]) rfl (ha.eval hx) hcall w];refine(hc w Z _ (by have:=(Im ha hv);simpa using this) (St.enter (Hin:=[]) (Hr:=H) hw)).mono ?_;rintro e w' ⟨r2,v,Ho,Z',rfl,⟨rfl,rfl⟩,hr2,hs⟩;exact hK v w' Z' hs.le hr2 (by simpa using hw.call0 hs),λh=>by simp[Region.wanted] at h⟩
end
set_option maxRecDepth 100000
set_option maxHeartbeats 4000000
@[reducible] def KG (x:Int):Rp:=Ak x
theorem Yz (Z:Fz):(KG 0).p Z (.int .i64 0):=rfl
@[reducible] def An (x:(List Ab)):List Rp:=[AX 4 (A1 Ac x)]
theorem CJ (x:(List Ab)):(An x).length=1:=rfl
theorem GZ (x:(List Ab)):(An x).all (·.one)=true:=rfl
@[reducible] def Ay (x:A0):List Rp:=[rS x.fEntity,rS x.fID,rS x.fOp,AX 1 (A1 An x.fArgs)]
@[reducible] def AZ (x:Bk):List Rp:=[Ak x.fErr,AX 4 (A1 Ac x.fValue)]
@[reducible] def A5 (x:AV):List Rp:=[rS x.fOp.fEntity,rS x.fOp.fID,rS x.fOp.fOp,AX 1 (A1 An x.fOp.fArgs),Ak x.fAnswer.fErr,AX 4 (A1 Ac x.fAnswer.fValue),Ak x.fFrom,Ak x.fTo]
theorem KH (x:AV):(A5 x).length=8:=rfl
theorem OM (x:AV):(A5 x).all (·.one)=true:=rfl
theorem SS:∃inf,Tryz.prog.info? 22=some inf∧inf.zero=some (.slice none 0 0)∧inf.size=1∧inf.bytes=24:=by
  have key:(Tryz.prog.info? 22).map (λi=>(i.zero,i.size,i.bytes))=some (some (.slice none 0 0),1,24):=by kernel_rfl
  obtain⟨inf,h1,h2⟩:=Option.map_eq_some_iff.1 key;simp only[Prod.mk.injEq] at h2;exact⟨inf,h1,h2.1,h2.2.1,h2.2.2⟩
theorem Qj (parts:List (Nat×Value)):Tryz.prog.built 25 parts=Instr.fill (λi=>(#[(0,1),(1,1),(2,1),(3,1)]:Array (Nat×Nat))[i]?) #[(.string ⟨#[]⟩),(.string ⟨#[]⟩),(.string ⟨#[]⟩),((.slice none 0 0))] parts:=by kernel_rfl
theorem CZ {n:Nat}{c:Cx}{l:Fr}{H:List Ent}{d:Option Nat}{ty:TypeId}{pos:String}{af:Array Edge}{g:Option (Nat×Bool)}:B1 Tryz.prog n c l H { dst:=d,op:=.build 25 #[],type:=ty,pos:=pos,after:=af,guard:=g } (Bq [rS ([]:Ae),rS ([]:Ae),rS ([]:Ae),rv (.slice none 0 0)]):=λa w Z ha _=>by
  have hb:Tryz.prog.built 25 []=some #[(.string ⟨#[]⟩),(.string ⟨#[]⟩),(.string ⟨#[]⟩),((.slice none 0 0))]:=by
    rw[Qj];simp[Instr.fill,Value.cells]
  refine⟨.agg #[(.string ⟨#[]⟩),(.string ⟨#[]⟩),(.string ⟨#[]⟩),((.slice none 0 0))],⟨[(.string ⟨#[]⟩),(.string ⟨#[]⟩),(.string ⟨#[]⟩),((.slice none 0 0))],rfl,rfl,rfl,rfl,rfl,trivial⟩,?_⟩;have:=run_build w 25 #[] _ (by simpa using hb);simp[execOp,this]
theorem Jy {n:Nat}{c:Cx}{l:Fr}{H:List Ent}{d:Option Nat}{ty:TypeId}{pos:String}{af:Array Edge}{g:Option (Nat×Bool)}{x0:Operand}{r0:Rp}(h0:ev l x0=some r0)(u0:r0.one=true){x1:Operand}{r1:Rp}(h1:ev l x1=some r1)(u1:r1.one=true){x2:Operand}{r2:Rp}(h2:ev l x2=some r2)(u2:r2.one=true):B1 Tryz.prog n c l H { dst:=d,op:=.build 25 #[(0,x0),(1,x1),(2,x2)],type:=ty,pos:=pos,after:=af,guard:=g } (Bq [r0,r1,r2,rv (.slice none 0 0)]):=λa w Z ha _=>by
  have p0:=ha.ev h0;have c0:=BM (r0.hone u0 Z _ p0);have p1:=ha.ev h1;have c1:=BM (r1.hone u1 Z _ p1);have p2:=ha.ev h2;have c2:=BM (r2.hone u2 Z _ p2);have hb:Tryz.prog.built 25 [(0,a.eval x0),(1,a.eval x1),(2,a.eval x2)]=some #[a.eval x0,a.eval x1,a.eval x2,((.slice none 0 0))]:=by
    rw[Qj];generalize a.eval x0=v0 at *;generalize a.eval x1=v1 at *;generalize a.eval x2=v2 at *;simp[Instr.fill,c0,c1,c2]
  refine⟨.agg #[a.eval x0,a.eval x1,a.eval x2,((.slice none 0 0))],⟨[a.eval x0,a.eval x1,a.eval x2,((.slice none 0 0))],rfl,p0,p1,p2,rfl,trivial⟩,?_⟩;have:=run_build w 25 #[(0,a.eval x0),(1,a.eval x1),(2,a.eval x2)] _ (by simpa using hb);simp[execOp,this]
theorem Qi (parts:List (Nat×Value)):Tryz.prog.built 31 parts=Instr.fill (λi=>(#[(0,1),(1,1)]:Array (Nat×Nat))[i]?) #[(.int .i64 0),((.slice none 0 0))] parts:=by kernel_rfl
theorem NV {n:Nat}{c:Cx}{l:Fr}{H:List Ent}{d:Option Nat}{ty:TypeId}{pos:String}{af:Array Edge}{g:Option (Nat×Bool)}:B1 Tryz.prog n c l H { dst:=d,op:=.build 31 #[],type:=ty,pos:=pos,after:=af,guard:=g } (Bq [Ak 0,rv (.slice none 0 0)]):=λa w Z ha _=>by
  have hb:Tryz.prog.built 31 []=some #[(.int .i64 0),((.slice none 0 0))]:=by
    rw[Qi];simp[Instr.fill,Value.cells]
  refine⟨.agg #[(.int .i64 0),((.slice none 0 0))],⟨[(.int .i64 0),((.slice none 0 0))],rfl,rfl,rfl,trivial⟩,?_⟩;have:=run_build w 31 #[] _ (by simpa using hb);simp[execOp,this]
theorem GS {n:Nat}{c:Cx}{l:Fr}{H:List Ent}{d:Option Nat}{ty:TypeId}{pos:String}{af:Array Edge}{g:Option (Nat×Bool)}{x0:Operand}{r0:Rp}(h0:ev l x0=some r0)(u0:r0.one=true):B1 Tryz.prog n c l H { dst:=d,op:=.build 31 #[(0,x0)],type:=ty,pos:=pos,after:=af,guard:=g } (Bq [r0,rv (.slice none 0 0)]):=λa w Z ha _=>by
  have p0:=ha.ev h0;have c0:=BM (r0.hone u0 Z _ p0);have hb:Tryz.prog.built 31 [(0,a.eval x0)]=some #[a.eval x0,((.slice none 0 0))]:=by
    rw[Qi];generalize a.eval x0=v0 at *;simp[Instr.fill,c0]
  refine⟨.agg #[a.eval x0,((.slice none 0 0))],⟨[a.eval x0,((.slice none 0 0))],rfl,p0,rfl,trivial⟩,?_⟩;have:=run_build w 31 #[(0,a.eval x0)] _ (by simpa using hb);simp[execOp,this]
theorem Gn {n:Nat}{c:Cx}{l:Fr}{H:List Ent}{d:Option Nat}{ty:TypeId}{pos:String}{af:Array Edge}{g:Option (Nat×Bool)}{x1:Operand}{r1:Rp}(h1:ev l x1=some r1)(u1:r1.one=true):B1 Tryz.prog n c l H { dst:=d,op:=.build 31 #[(1,x1)],type:=ty,pos:=pos,after:=af,guard:=g } (Bq [Ak 0,r1]):=λa w Z ha _=>by
  have p1:=ha.ev h1;have c1:=BM (r1.hone u1 Z _ p1);have hb:Tryz.prog.built 31 [(1,a.eval x1)]=some #[(.int .i64 0),a.eval x1]:=by
    rw[Qi];generalize a.eval x1=v1 at *;simp[Instr.fill,c1]
  refine⟨.agg #[(.int .i64 0),a.eval x1],⟨[(.int .i64 0),a.eval x1],rfl,rfl,p1,trivial⟩,?_⟩;have:=run_build w 31 #[(1,a.eval x1)] _ (by simpa using hb);simp[execOp,this]
theorem Ec (ys:(List Ab))(r:(List Ab))(h:Gy ys=some r):Fn Tryz.prog GE 46 [AX 4 (A1 Ac ys)] [] (λR H=>R=AX 4 (A1 Ac r)∧H=[]):=by
 refine enter (n:=8) Tryz.func46 Aa Tryz.ntmps46 Aa (λw Z=>?_);unfold Gy at h;refine Af (wa Aa (Ao (Ai (Af (wm Aa (wv (UG BK Aa) (Ao (VE Aa (λc1=>?_) (λc1=>?_)))))))))
 ·have e2:ys=[]:=List.map_eq_nil_iff.1 (c1 rfl);have h3:some ([]:List Ab)=some r:=by rw[e2] at h;exact(Xz h).2
  refine Af (wa Aa (Ao (As (Ad (WK.up (d:=2) (r:=AX 4 (A1 Ac ([]:List Ab))) Aa (Up.le (DZ.nil _)) ?_)))));obtain rfl:=At h3;exact Ar (BY Tryz.results46 (AB Aa)) sN ⟨Aa,Aa⟩
 ·refine Ap (AJ (Af (AQ (ys:=([]:List Ab)) (enc:=Ac) (css:=[]) (xs:=[]) BK BU Eb Aa Aa Aa trivial Aa AR Aa Aa Aa (λb4=>?_))));refine wm Aa (ck h λg6 h7=>Exists.elim E9 λinf hinf=>BL (xs:=([]:List Ab)) (ys:=ys) (enc:=Ac) (i:=0) BK hinf.1 hinf.2.1 hinf.2.2.1 hinf.2.2.2 Aa Aa Aa Aa Aa (I5.z Aa Aa) AR BP g6 Aa (λv5=>?_));refine wa Aa (Ao (As (WK.freeze (i:=0) Aa (WK.up (d:=2) (r:=AX 4 (A1 Ac (([]:List Ab)++ys))) Aa (Up.fact (i:=0) Aa) ?_))));obtain rfl:=At h7;exact Ar (BY Tryz.results46 (AB Aa)) (sS sN) ⟨Aa,Aa⟩
theorem Ve (c:Int)(r:Bool)(h:PY c=some r):Fn Tryz.prog GE 137 [rI .u8 c] [] (λR H=>R=rB r∧H=[]):=by
 refine enter (n:=9) Tryz.func137 Aa Tryz.ntmps137 Aa (λw Z=>?_);unfold PY at h;refine Af (wa Aa (Ao (AG [(2,rB ((decide (97≤c))&&(decide (c≤122))))] [] ?_ ?_)))
 ·refine Ah (wm Aa (wv (GR Aa Aa) (wm Aa (AO (decide (97≤c)) (λc1=>?_) (λc1=>?_)))))
  ·refine wo c1 (wm Aa (wo c1 (wv (K6 Aa Aa) (En Aa c1 Aa (wa Aa (Aj ?_))))));exact Cc c1
  ·refine wf c1 (wf c1 (wv (r:=rB false) (A7 Aa c1 Aa) (wa Aa (Aj ?_))));exact Cc c1
 refine As ?_;obtain rfl:=At h;exact Ar (BY Tryz.results137 (AB Aa)) sN ⟨Aa,Aa⟩
theorem Pq (c:Int)(r:Bool)(h:N0 c=some r):Fn Tryz.prog GE 138 [rI .u8 c] [] (λR H=>R=rB r∧H=[]):=by
 refine enter (n:=9) Tryz.func138 Aa Tryz.ntmps138 Aa (λw Z=>?_);unfold N0 at h;refine Af (wa Aa (Ao (AG [(2,rB ((decide (48≤c))&&(decide (c≤57))))] [] ?_ ?_)))
 ·refine Ah (wm Aa (wv (GR Aa Aa) (wm Aa (AO (decide (48≤c)) (λc1=>?_) (λc1=>?_)))))
  ·refine wo c1 (wm Aa (wo c1 (wv (K6 Aa Aa) (En Aa c1 Aa (wa Aa (Aj ?_))))));exact Cc c1
  ·refine wf c1 (wf c1 (wv (r:=rB false) (A7 Aa c1 Aa) (wa Aa (Aj ?_))));exact Cc c1
 refine As ?_;obtain rfl:=At h;exact Ar (BY Tryz.results138 (AB Aa)) sN ⟨Aa,Aa⟩
theorem WW (c:Int)(r:Bool)(h:PZ c=some r):Fn Tryz.prog GE 110 [rI .u8 c] [] (λR H=>R=rB r∧H=[]):=by
 refine enter (n:=37) Tryz.func110 Aa Tryz.ntmps110 Aa (λw Z=>?_);unfold PZ at h;refine Af (wa Aa (Ao (D8 (S:=(Bool)×(Unit)) (λσ=>C8 σ.1=some r) (λσ=>[(2,rB σ.1)]) (λσ=>[]) ?_ ?_)))
 ·refine Ah (wm Aa (ob h λhp hq hr=>Cn Tryz.call137 (Ve c hp hq) Aa (wm Aa (bz hr (λc53 hs=>?_) (λc53 ht=>?_)))))
  ·refine wf c53 (wf c53 (wf c53 (wu (wu (wf c53 (wv (r:=rB true) (Ax Aa c53 Aa) (wm Aa (wz Aa Aa (wz Aa Aa (wv (r:=rB true) (Ax (b:=true) Aa Aa Aa) (wm Aa (wz Aa Aa (wz Aa Aa (wv (r:=rB true) (Ax (b:=true) Aa Aa Aa) (wm Aa (wz Aa Aa (wz Aa Aa (wv (r:=rB true) (Ax (b:=true) Aa Aa Aa) (wm Aa (wz Aa Aa (wz Aa Aa (wv (r:=rB true) (Ax (b:=true) Aa Aa Aa) (wm Aa ?_)))))))))))))))))))))));exact wz Aa Aa (wz Aa Aa (wv (r:=rB true) (Ax (b:=true) Aa Aa Aa) (wm Aa (wz Aa Aa (wz Aa Aa (wv (r:=rB true) (Ax (b:=true) Aa Aa Aa) (wa Aa (Aj (Au (AD (true,()) hs (AM.c Aa AM.nil) sN))))))))))
  ·refine wo c53 (wm Aa (wo c53 (wv (GR Aa Aa) (wo c53 (wm Aa (bz ht (λha hu=>?_) (λha hw=>?_)))))))
   ·refine wo ha (wm Aa (wo ha (wv (K6 Aa Aa) (wo c53 (En Aa ha Aa (Ea Aa c53 Aa (wm Aa (bz hu (λhb hx=>?_) (λhb hy=>?_)))))))))
    ·refine wf hb (wf hb (wv (r:=rB true) (Ax Aa hb Aa) (wm Aa (wz Aa Aa (wz Aa Aa (wv (r:=rB true) (Ax (b:=true) Aa Aa Aa) (wm Aa (wz Aa Aa (wz Aa Aa (wv (r:=rB true) (Ax (b:=true) Aa Aa Aa) (wm Aa (wz Aa Aa (wz Aa Aa (wv (r:=rB true) (Ax (b:=true) Aa Aa Aa) (wm Aa (wz Aa Aa (wz Aa Aa (wv (r:=rB true) (Ax (b:=true) Aa Aa Aa) (wm Aa (wz Aa Aa (wz Aa Aa (wv (r:=rB true) (Ax (b:=true) Aa Aa Aa) (wa Aa ?_)))))))))))))))))))))));exact Aj (Au (AD (true,()) hx (AM.c Aa AM.nil) sN))
    ·refine wo hb (wm Aa (wo hb (ob hy λhz h0 h1=>Cn Tryz.call138 (Pq c hz h0) Aa (Ea Aa hb Aa (wm Aa (bz h1 (λhd h2=>?_) (λhd h3=>?_)))))))
     ·exact wf hd (wf hd (wv (r:=rB true) (Ax Aa hd Aa) (wm Aa (wz Aa Aa (wz Aa Aa (wv (r:=rB true) (Ax (b:=true) Aa Aa Aa) (wm Aa (wz Aa Aa (wz Aa Aa (wv (r:=rB true) (Ax (b:=true) Aa Aa Aa) (wm Aa (wz Aa Aa (wz Aa Aa (wv (r:=rB true) (Ax (b:=true) Aa Aa Aa) (wm Aa (wz Aa Aa (wz Aa Aa (wv (r:=rB true) (Ax (b:=true) Aa Aa Aa) (wa Aa (Aj (Au (AD (true,()) h2 (AM.c Aa AM.nil) sN))))))))))))))))))))))
     ·refine wo hd (wm Aa (wo hd (wv (BE Aa Aa) (Ea Aa hd Aa (wm Aa (bz h3 (λhe h4=>?_) (λhe h5=>?_)))))))
      ·exact wf he (wf he (wv (r:=rB true) (Ax Aa he Aa) (wm Aa (wz Aa Aa (wz Aa Aa (wv (r:=rB true) (Ax (b:=true) Aa Aa Aa) (wm Aa (wz Aa Aa (wz Aa Aa (wv (r:=rB true) (Ax (b:=true) Aa Aa Aa) (wm Aa (wz Aa Aa (wz Aa Aa (wv (r:=rB true) (Ax (b:=true) Aa Aa Aa) (wa Aa (Aj (Au (AD (true,()) h4 (AM.c Aa AM.nil) sN))))))))))))))))))
      ·refine wo he (wm Aa (wo he (wv (BE Aa Aa) (Ea Aa he Aa (wm Aa (bz h5 (λhf h6=>?_) (λhf h7=>?_)))))))
       ·exact wf hf (wf hf (wv (r:=rB true) (Ax Aa hf Aa) (wm Aa (wz Aa Aa (wz Aa Aa (wv (r:=rB true) (Ax (b:=true) Aa Aa Aa) (wm Aa (wz Aa Aa (wz Aa Aa (wv (r:=rB true) (Ax (b:=true) Aa Aa Aa) (wa Aa (Aj (Au (AD (true,()) h6 (AM.c Aa AM.nil) sN))))))))))))))
       ·refine wo hf (wm Aa (wo hf (wv (BE Aa Aa) (Ea Aa hf Aa (wm Aa (bz h7 (λhg h8=>?_) (λhg h9=>?_)))))))
        ·exact wf hg (wf hg (wv (r:=rB true) (Ax Aa hg Aa) (wm Aa (wz Aa Aa (wz Aa Aa (wv (r:=rB true) (Ax (b:=true) Aa Aa Aa) (wa Aa (Aj (Au (AD (true,()) h8 (AM.c Aa AM.nil) sN))))))))))
        ·refine wo hg (wm Aa (wo hg (wv (BE Aa Aa) (Ea Aa hg Aa (wm Aa (bz h9 (λc76 hA=>?_) (λc76 hB=>?_)))))))
         ·exact wf c76 (wf c76 (wv (r:=rB true) (Ax Aa c76 Aa) (wa Aa (Aj (Au (AD (true,()) hA (AM.c Aa AM.nil) sN))))))
         ·exact wo c76 (wm Aa (wo c76 (wv (BE Aa Aa) (Ea Aa c76 Aa (wa Aa (Aj (Au (AD (decide (c=47),()) hB (AM.c Aa AM.nil) sN))))))))
   ·refine wf ha (wf ha (wo c53 (wv (r:=rB false) (A7 Aa ha Aa) (Ea Aa c53 Aa (wm Aa (Bp (b:=false) Aa Aa Aa (wm Aa (Bp (b:=false) Aa Aa Aa (ob hw λhn hC hD=>Cn Tryz.call138 (Pq c hn hC) Aa (wv (r:=rB hn) (A7 (b:=false) Aa Aa Aa) (wm Aa (bz hD (λhh hE=>?_) (λhh hG=>?_)))))))))))))
    ·exact wf hh (wf hh (wv (r:=rB true) (Ax Aa hh Aa) (wm Aa (wz Aa Aa (wz Aa Aa (wv (r:=rB true) (Ax (b:=true) Aa Aa Aa) (wm Aa (wz Aa Aa (wz Aa Aa (wv (r:=rB true) (Ax (b:=true) Aa Aa Aa) (wm Aa (wz Aa Aa (wz Aa Aa (wv (r:=rB true) (Ax (b:=true) Aa Aa Aa) (wm Aa (wz Aa Aa (wz Aa Aa (wv (r:=rB true) (Ax (b:=true) Aa Aa Aa) (wa Aa (Aj (Au (AD (true,()) hE (AM.c Aa AM.nil) sN))))))))))))))))))))))
    ·refine wo hh (wm Aa (wo hh (wv (BE Aa Aa) (Ea Aa hh Aa (wm Aa (bz hG (λhi hH=>?_) (λhi hI=>?_)))))))
     ·exact wf hi (wf hi (wv (r:=rB true) (Ax Aa hi Aa) (wm Aa (wz Aa Aa (wz Aa Aa (wv (r:=rB true) (Ax (b:=true) Aa Aa Aa) (wm Aa (wz Aa Aa (wz Aa Aa (wv (r:=rB true) (Ax (b:=true) Aa Aa Aa) (wm Aa (wz Aa Aa (wz Aa Aa (wv (r:=rB true) (Ax (b:=true) Aa Aa Aa) (wa Aa (Aj (Au (AD (true,()) hH (AM.c Aa AM.nil) sN))))))))))))))))))
     ·refine wo hi (wm Aa (wo hi (wv (BE Aa Aa) (Ea Aa hi Aa (wm Aa (bz hI (λhj hJ=>?_) (λhj hK=>?_)))))))
      ·exact wf hj (wf hj (wv (r:=rB true) (Ax Aa hj Aa) (wm Aa (wz Aa Aa (wz Aa Aa (wv (r:=rB true) (Ax (b:=true) Aa Aa Aa) (wm Aa (wz Aa Aa (wz Aa Aa (wv (r:=rB true) (Ax (b:=true) Aa Aa Aa) (wa Aa (Aj (Au (AD (true,()) hJ (AM.c Aa AM.nil) sN))))))))))))))
      ·refine wo hj (wm Aa (wo hj (wv (BE Aa Aa) (Ea Aa hj Aa (wm Aa (bz hK (λhk hL=>?_) (λhk hN=>?_)))))))
       ·exact wf hk (wf hk (wv (r:=rB true) (Ax Aa hk Aa) (wm Aa (wz Aa Aa (wz Aa Aa (wv (r:=rB true) (Ax (b:=true) Aa Aa Aa) (wa Aa (Aj (Au (AD (true,()) hL (AM.c Aa AM.nil) sN))))))))))
       ·refine wo hk (wm Aa (wo hk (wv (BE Aa Aa) (Ea Aa hk Aa (wm Aa (bz hN (λhl hO=>?_) (λhl hP=>?_)))))))
        ·exact wf hl (wf hl (wv (r:=rB true) (Ax Aa hl Aa) (wa Aa (Aj (Au (AD (true,()) hO (AM.c Aa AM.nil) sN))))))
        ·exact wo hl (wm Aa (wo hl (wv (BE Aa Aa) (Ea Aa hl Aa (wa Aa (Aj (Au (AD (decide (c=47),()) hP (AM.c Aa AM.nil) sN))))))))
 ·rintro⟨ho,⟨⟩⟩ hm;refine Cd (l':=[(2,rB ho)]) (H':=[]) Aa Aa ?_;replace hm:C8 ho=some r:=hm;unfold C8 at hm;refine As ?_;obtain rfl:=At hm;exact Ar (BY Tryz.results110 (AB Aa)) sN ⟨Aa,Aa⟩
theorem WX (F:Nat)(s:Ae)(r:Bool)(h:La F s=some r):Fn Tryz.prog GE 82 [rS s] [] (λR H=>R=rB r∧H=[]):=by
 refine enter (n:=23) Tryz.func82 Aa Tryz.ntmps82 Aa (λw Z=>?_);unfold La at h;refine Af (wa Aa (Ao (Ai (AG [(0,rS s),(11,rB ((decide ((s.length:Int)<1))||(decide (64<(s.length:Int)))))] [] ?_ ?_))))
 ·refine Ah (wm Aa (wv (Bm BZ Aa) (wv (Ch Aa Aa) (wm Aa (AO (decide ((s.length:Int)<1)) (λc1=>?_) (λc1=>?_))))))
  ·refine wf c1 (wf c1 (wf c1 (wv (r:=rB true) (Ax Aa c1 Aa) (Aj ?_))));exact Cc c1
  ·refine wo c1 (wm Aa (wo c1 (wv (Bm BZ Aa) (wo c1 (wv (Cv Aa Aa) (Ea Aa c1 Aa (Aj ?_)))))));exact Cc c1
 refine cz h Aa (λc2 h3=>?_) (λc2 h4=>?_)
 ·refine Af (wa Aa (Ao (As (Ad ?_))));obtain rfl:=At h3;exact Ar (BY Tryz.results82 (AB Aa)) sN ⟨Aa,Aa⟩
 ·refine Ap (AJ (Ai (Af (wa Aa (Ao (AL (ob h4 λhg hh hf=>B4 (S:=Nat×(Int)×(Unit)) (V:=(Unit)×(Unit)) 0 (λσ=>Ca (λσ=>Kw s σ) σ.1 σ.2.1=some hg) (λσ=>[(0,rS s),(3,Ak σ.2.1)]) (λσ=>[]) (λσ=>σ.1) (F,0,()) hh (AM.c Aa (AM.c Aa AM.nil)) sN (λσ=>Nz =some r) (λσ=>[]) (λσ=>[]) ?_ ?_)))))))
  ·rintro⟨h1,ha,⟨⟩⟩ hi;refine Cd (l':=[(0,rS s),(3,Ak ha)]) (H':=[]) Aa Aa ?_;obtain⟨hj,rfl,hk,hb,he⟩:=Cz hi;replace hb:Kw s ha=some hk:=hb;unfold Kw at hb;refine Ai (Af (wm Aa (wm Aa (wv (Bm BZ Aa) (wv (Ch Aa Aa) (Ao (cz hb Aa (λc53 hl=>?_) (λc53 hm=>?_))))))))
   ·refine Ap (AJ (Ai (AL (Af (wm Aa (wm Aa (ck hl λhn ho=>wv (Bb BZ Aa Aa hn) (ob ho λhp hq hr=>Cn Tryz.call110 (WW (Be s ha) hp hq) Aa (wv (BW Aa) (Ao (cz hr Aa (λhs ht=>?_) (λhs hu=>?_))))))))))))
    ·refine Af (wa Aa (Ao (As (A3 (Ad (Ad (Bc ?_)))))));have hw:=Bz ht he hf;refine A3 (Ad ?_);obtain rfl:=At hw;exact Ar (BY Tryz.results82 (AB Aa)) sN ⟨Aa,Aa⟩
    ·refine Ap (AF (AJ (Ah (wm Aa (ck hu λhx hy=>wv (Bh Aa Aa hx) (wa Aa (Aj ?_)))))));have hz:=Bg hy he;exact Au (AD (hj,ha+1,()) ⟨hz,Abo _⟩ (AM.c Aa (AM.c Aa AM.nil)) sN)
   ·refine BB (A2 ?_);have h0:=Cb hm he hf;exact A2 (Bn (AD ((),()) h0 AM.nil sN))
  ·rintro⟨⟨⟩,⟨⟩⟩ hd;refine C4 (l':=[]) (H':=[]) Aa Aa ?_;replace hd:Nz =some r:=hd;unfold Nz at hd;refine Bi (AJ (Af (wa Aa (Ao (As ?_)))));obtain rfl:=At hd;exact Ar (BY Tryz.results82 (AB Aa)) sN ⟨Aa,Aa⟩
theorem W8 (op:Ae)(r:Int×Bool)(h:Oc op=some r):Fn Tryz.prog GE 72 [rS op] [] (λR H=>R=Cs [Ak r.1,rB r.2]∧H=[]):=by
 refine enter (n:=15) Tryz.func72 Aa Tryz.ntmps72 Aa (λw Z=>?_);unfold Oc at h;refine Af (wa Aa (wa Aa (Bs (OQ Aa (λb1=>?_)))));refine Ex (enc:=KG) (xs:=([]:List (Ae×Int))) (v:=0) (i:=0) Q0 BZ Aa Aa Aa Aa (H':=[.map b1 (Ba KG (By ([]:List (Ae×Int)) ([114,101,97,100]:Ae) 0))]) Aa (Ex (enc:=KG) (xs:=By ([]:List (Ae×Int)) ([114,101,97,100]:Ae) 0) (v:=1) (i:=0) Q0 BZ Aa Aa Aa Aa (H':=[.map b1 (Ba KG (By (By ([]:List (Ae×Int)) ([114,101,97,100]:Ae) 0) ([119,114,105,116,101]:Ae) 1))]) Aa (Ex (enc:=KG) (xs:=By (By ([]:List (Ae×Int)) ([114,101,97,100]:Ae) 0) ([119,114,105,116,101]:Ae) 1) (v:=1) (i:=0) Q0 BZ Aa Aa Aa Aa (H':=[.map b1 (Ba KG (By (By (By ([]:List (Ae×Int)) ([114,101,97,100]:Ae) 0) ([119,114,105,116,101]:Ae) 1) ([97,100,100]:Ae) 1))]) Aa (Ex (enc:=KG) (xs:=By (By (By ([]:List (Ae×Int)) ([114,101,97,100]:Ae) 0) ([119,114,105,116,101]:Ae) 1) ([97,100,100]:Ae) 1) (v:=2) (i:=0) Q0 BZ Aa Aa Aa Aa (H':=[.map b1 (Ba KG (By (By (By (By ([]:List (Ae×Int)) ([114,101,97,100]:Ae) 0) ([119,114,105,116,101]:Ae) 1) ([97,100,100]:Ae) 1) ([99,97,115]:Ae) 2))]) Aa (wm Aa (wm Aa (wv (r:=Cs [Ak (AN (By (By (By (By ([]:List (Ae×Int)) ([114,101,97,100]:Ae) 0) ([119,114,105,116,101]:Ae) 1) ([97,100,100]:Ae) 1) ([99,97,115]:Ae) 2) op 0),rB (C2 (By (By (By (By ([]:List (Ae×Int)) ([114,101,97,100]:Ae) 0) ([119,114,105,116,101]:Ae) 1) ([97,100,100]:Ae) 1) ([99,97,115]:Ae) 2) op)]) (Kh (enc:=KG) (xs:=By (By (By (By ([]:List (Ae×Int)) ([114,101,97,100]:Ae) 0) ([119,114,105,116,101]:Ae) 1) ([97,100,100]:Ae) 1) ([99,97,115]:Ae) 2) (z:=0) (i:=0) Q0 BZ Tryz.zeroValue3 Yz Aa Aa Aa) (wm Aa (wv (AA Aa Aa) (wv (AA Aa Aa) (wa Aa (wa Aa (Bs (wm Aa (wm Aa (wa Aa (wa Aa (Ao (As ?_))))))))))))))))));obtain rfl:=At h;exact Ar (CS Tryz.results72 (AB Aa) (AB Aa)) (sS sN) ⟨Aa,Aa⟩
theorem LG (F:Nat)(op:A0)(r:Int)(h:Jn F op=some r):Fn Tryz.prog GE 43 [Bq (Ay op)] [] (λR H=>R=Ak r∧H=[]):=by
 refine enter (n:=46) Tryz.func43 Aa Tryz.ntmps43 Aa (λw Z=>?_);unfold Jn at h;refine Af (Ci Aa Aa (λb1=>?_));refine wa Aa (Bs (vF Cw Aa CG (vL 0 CV Aa (ob h λr2 e4 h3=>Cn Tryz.call72 (W8 op.fOp r2 e4) Aa (wm Aa (wv (AA Aa Aa) (wv (AA Aa Aa) (wa Aa (wa Aa (Ao (Ai (AG [(1,rP b1 0),(3,Ak r2.1),(27,rB ((!(J4 op.fEntity))||((!(J4 op.fID))||(!r2.2))))] [.blk b1 (Ay op) 25] ?_ ?_))))))))))))
 ·refine Ah (vF Cw Aa CG (vL 0 CV Aa (Hh (rs:=[rS op.fEntity]) (r:=rB (J4 op.fEntity)) Tryz.call73 Aa (Aat op.fEntity) Aa Aa (wv (BW Aa) (wm Aa (AO (!(J4 op.fEntity)) (λc5=>?_) (λc5=>?_)))))))
  ·refine wf c5 (wf c5 (wf c5 (wf c5 (wv (r:=rB true) (Ax Aa c5 Aa) (wm Aa (wz Aa Aa (wz Aa Aa (wv (r:=rB true) (Ax (b:=true) Aa Aa Aa) (Aj ?_)))))))));exact Cc c5
  ·refine wo c5 (vF Cw Aa CG (wo c5 (vL 0 CV Aa (wo c5 (Hh (rs:=[rS op.fID]) (r:=rB (J4 op.fID)) Tryz.call73 Aa (Aat op.fID) Aa Aa (wo c5 (wv (BW Aa) (Ea Aa c5 Aa (wm Aa (AO (!(J4 op.fID)) (λc6=>?_) (λc6=>?_)))))))))))
   ·refine wf c6 (wf c6 (wv (r:=rB true) (Ax Aa c6 Aa) (Aj ?_)));exact Cc (And.intro c5 c6)
   ·refine wo c6 (wm Aa (wo c6 (wv (BW Aa) (Ea Aa c6 Aa (Aj ?_)))));exact Cc (And.intro c5 c6)
 refine cz h3 Aa (λc7 h8=>?_) (λc7 h9=>?_)
 ·refine Af (wa Aa (Ao (As (Ad ?_))));obtain rfl:=At h8;exact Ar (BY XQ (AB Aa)) (sS sN) ⟨Aa,Aa⟩
 ·refine Ap (AJ (Ai (Af (vF Cw Aa EA (vL 0 GN Aa (wv (Bv (ys:=op.fArgs) (enc:=An) DP Aa) (wm Aa (wv (CR Aa Aa) (Ao (cz h9 Aa (λhg hh=>?_) (λhg hi=>?_)))))))))))
  ·refine Af (wa Aa (Ao (As (Ad ?_))));obtain rfl:=At hh;exact Ar (BY XQ (AB Aa)) (sS sN) ⟨Aa,Aa⟩
  ·refine Ap (AJ (Ai (Af (vF Cw Aa EA (vL 0 GN Aa (wv (Bv (ys:=op.fArgs) (enc:=An) DP Aa) (wv (r:=Ak 0) (Aq Aa) (Ao (AL (ob hi λhj hk hf=>B4 (S:=Nat×(Int)×(Unit)) (V:=(Unit)×(Unit)) 0 (λσ=>Ca (λσ=>H3 F op σ) σ.1 σ.2.1=some hj) (λσ=>[(34,AX 1 (A1 An op.fArgs)),(35,Ak (op.fArgs.length:Int)),(36,Ak σ.2.1)]) (λσ=>[]) (λσ=>σ.1) (F,0,()) hk (AM.c Aa (AM.c Aa (AM.c Aa AM.nil))) (sS sN) (λσ=>Kn =some r) (λσ=>[]) (λσ=>[]) ?_ ?_))))))))))
   ·rintro⟨h6,ha,⟨⟩⟩ hl;refine Cd (l':=[(34,AX 1 (A1 An op.fArgs)),(35,Ak (op.fArgs.length:Int)),(36,Ak ha)]) (H':=[]) Aa Aa ?_;obtain⟨hm,rfl,hn,hb,he⟩:=Cz hl;replace hb:H3 F op ha=some hn:=hb;unfold H3 at hb;refine Af (wv (Ch Aa Aa) (Ao (Ai (cz hb Aa (λho hp=>?_) (λho hq=>?_)))))
    ·refine Ap (AJ (Ai (AL (Af (ck hp λhr hs=>wv (B3 (enc:=An) (ys:=op.fArgs) DP CA Aa Aa hr) (wv (Bo Ep Aa Aa) (wa Aa (Bs (wm Aa (ob hs λht hu hw=>Cn Tryz.call44 (Lr F (Am op.fArgs ha) ht hu) Aa (wa Aa (Bs (wm Aa (wv (CR Aa Aa) (Ao (cz hw Aa (λhx hy=>?_) (λhx hz=>?_)))))))))))))))))
     ·refine Af (wm Aa (wa Aa (Ao (As (A3 (Ad (Ad (Bc ?_))))))));have h0:=Bz hy he hf;refine A3 (Ad ?_);obtain rfl:=At h0;exact Ar (BY XQ (AB Aa)) sN ⟨Aa,Aa⟩
     ·refine Ap (AF (AJ (Ah (ck hz λh1 h2=>wv (Bh Aa Aa h1) (wm Aa (Aj ?_))))));have h4:=Bg h2 he;exact Au (AD (hm,ha+1,()) ⟨h4,Abo _⟩ (AM.c Aa (AM.c Aa (AM.c Aa AM.nil))) sN)
    ·refine BB (A2 ?_);have h5:=Cb hq he hf;exact A2 (Bn (AD ((),()) h5 AM.nil sN))
   ·rintro⟨⟨⟩,⟨⟩⟩ hd;refine C4 (l':=[]) (H':=[]) Aa Aa ?_;replace hd:Kn =some r:=hd;unfold Kn at hd;refine Bi (AJ (Af (wa Aa (Ao (As ?_)))));obtain rfl:=At hd;exact Ar (BY XQ (AB Aa)) sN ⟨Aa,Aa⟩
theorem Rw (state:(List Ab))(args:(List (List Ab)))(r:(List Ab)×Bk)(h:Mr state args=some r):Fn Tryz.prog GE 75 [AX 4 (A1 Ac state),AX 1 (A1 An args)] [] (λR H=>R=Cs [AX 4 (A1 Ac r.1),Bq (AZ r.2)]∧H=[]):=by
 refine enter (n:=10) Tryz.func75 Aa Tryz.ntmps75 Aa (λw Z=>?_);unfold Mr at h;refine Af (wa Aa (Ce (cs:=[Ak 0,rv (.slice none 0 0)]) O8 Aa Aa (λb1=>?_)));refine Bs (wm Aa (wm Aa (ob h λr2 e4 h3=>Cn MZ (Ec state r2 e4) Aa (wv (r:=Bq [Ak 0,AX 4 (A1 Ac r2)]) (Gn Aa Aa) (wa Aa (AP (i:=0) Dc Aa Aa Aa (Bx.c Aa) Aa Aa (cs':=[Ak 0,AX 4 (A1 Ac r2)]) Aa (H':=[.blk b1 [Ak 0,AX 4 (A1 Ac r2)] 31]) Aa (Ao (As ?_))))))));obtain rfl:=At h3;exact Ar (CS Tryz.results75 (AB Aa) (Cy (i:=0) HY Dc Aa Aa Aa)) (sS sN) ⟨Aa,Aa⟩
theorem PV (state:(List Ab))(args:(List (List Ab)))(r:(List Ab)×Bk)(h:KW state args=some r):Fn Tryz.prog GE 76 [AX 4 (A1 Ac state),AX 1 (A1 An args)] [] (λR H=>R=Cs [AX 4 (A1 Ac r.1),Bq (AZ r.2)]∧H=[]):=by
 refine enter (n:=12) Tryz.func76 Aa Tryz.ntmps76 Aa (λw Z=>?_);unfold KW at h;refine Af (wa Aa (Ce (cs:=[Ak 0,rv (.slice none 0 0)]) O8 Aa Aa (λb1=>?_)));refine Bs (wm Aa (ck h λg2 h3=>wv (B3 (enc:=An) (ys:=args) DP CA Aa Aa g2) (wv (Bo Ep Aa Aa) (ob h3 λr4 e6 h5=>Cn MZ (Ec (Am args 0) r4 e6) Aa (ob h5 λr7 e9 h8=>Cn Tryz.call54 (P7 r7 e9) Aa (wv (r:=Bq [Ak 0,AX 4 (A1 Ac r7)]) (Gn Aa Aa) (wa Aa (AP (i:=0) Dc Aa Aa Aa (Bx.c Aa) Aa Aa (cs':=[Ak 0,AX 4 (A1 Ac r7)]) Aa (H':=[.blk b1 [Ak 0,AX 4 (A1 Ac r7)] 31]) Aa (Ao (As ?_))))))))));obtain rfl:=At h8;exact Ar (CS Tryz.results76 (AB Aa) (Cy (i:=0) HY Dc Aa Aa Aa)) (sS sN) ⟨Aa,Aa⟩
theorem SF (F:Nat)(state:(List Ab))(args:(List (List Ab)))(r:(List Ab)×Bk)(h:NZ F state args=some r):Fn Tryz.prog GE 78 [AX 4 (A1 Ac state),AX 1 (A1 An args)] [] (λR H=>R=Cs [AX 4 (A1 Ac r.1),Bq (AZ r.2)]∧H=[]):=by
 refine enter (n:=21) Tryz.func78 Aa Tryz.ntmps78 Aa (λw Z=>?_);unfold NZ at h;refine Af (wa Aa (Ce (cs:=[Ak 0,rv (.slice none 0 0)]) O8 Aa Aa (λb1=>?_)));refine Ao (Ai (Af (wm Aa (wm Aa (ck h λg2 h3=>wv (B3 (enc:=An) (ys:=args) DP CA Aa Aa g2) (wv (Bo Ep Aa Aa) (ob h3 λr4 e6 h5=>Cn Tryz.call79 (XZ F state (Am args 0) r4 e6) Aa (wv (BW Aa) (Ao (cz h5 Aa (λc7 h8=>?_) (λc7 hb=>?_)))))))))))
 ·refine Af (wm Aa (ob h8 λr9 hd he=>Cn Tryz.call80 (Ti false r9 hd) Aa (wv (r:=Bq [Ak 0,AX 4 (A1 Ac r9)]) (Gn Aa Aa) (wa Aa (AP (i:=0) Dc Aa Aa Aa (Bx.c Aa) Aa Aa (cs':=[Ak 0,AX 4 (A1 Ac r9)]) Aa (H':=[.blk b1 [Ak 0,AX 4 (A1 Ac r9)] 31]) Aa (Ao (As (Ad ?_))))))));obtain rfl:=At he;exact Ar (CS Tryz.results78 (AB Aa) (Cy (i:=0) HY Dc Aa Aa Aa)) (sS sN) ⟨Aa,Aa⟩
 ·refine Ap (AJ (Af (wm Aa (ck hb λhf hg=>wv (B3 (enc:=An) (ys:=args) DP CA Aa Aa hf) (wv (Bo Ep Aa Aa) (ob hg λhh hi hj=>Cn MZ (Ec (Am args 1) hh hi) Aa (ob hj λha hk hl=>Cn Tryz.call80 (Ti true ha hk) Aa (wv (r:=Bq [Ak 0,AX 4 (A1 Ac ha)]) (Gn Aa Aa) (wa Aa (AP (i:=0) Dc Aa Aa Aa (Bx.c Aa) Aa Aa (cs':=[Ak 0,AX 4 (A1 Ac ha)]) Aa (H':=[.blk b1 [Ak 0,AX 4 (A1 Ac ha)] 31]) Aa (Ao (As ?_))))))))))));obtain rfl:=At hl;exact Ar (CS Tryz.results78 (AB Aa) (Cy (i:=0) HY Dc Aa Aa Aa)) (sS sN) ⟨Aa,Aa⟩
theorem SD (F:Nat)(n:(List Int))(r:Bool)(h:NW F n=some r):Fn Tryz.prog GE 135 [AX 1 (A1 I0 n)] [] (λR H=>R=rB r∧H=[]):=by
 refine enter (n:=15) Tryz.func135 Aa Tryz.ntmps135 Aa (λw Z=>?_);unfold NW at h;refine Af (wa Aa (Ao (Ai (Af (wm Aa (wv (Bv (ys:=n) (enc:=I0) V3 Aa) (wv (r:=Ak 0) (Aq Aa) (Ao (AL (ob h λhg hh hf=>B4 (S:=Nat×(Int)×(Unit)) (V:=(Unit)×(Unit)) 0 (λσ=>Ca (λσ=>Ih n σ) σ.1 σ.2.1=some hg) (λσ=>[(5,AX 1 (A1 I0 n)),(6,Ak (n.length:Int)),(7,Ak σ.2.1)]) (λσ=>[]) (λσ=>σ.1) (F,0,()) hh (AM.c Aa (AM.c Aa (AM.c Aa AM.nil))) sN (λσ=>Ig =some r) (λσ=>[]) (λσ=>[]) ?_ ?_))))))))))
 ·rintro⟨h2,ha,⟨⟩⟩ hi;refine Cd (l':=[(5,AX 1 (A1 I0 n)),(6,Ak (n.length:Int)),(7,Ak ha)]) (H':=[]) Aa Aa ?_;obtain⟨hj,rfl,hk,hb,he⟩:=Cz hi;replace hb:Ih n ha=some hk:=hb;unfold Ih at hb;refine Af (wv (Ch Aa Aa) (Ao (Ai (cz hb Aa (λhl hm=>?_) (λhl hn=>?_)))))
  ·refine Ap (AJ (Ai (AL (Af (ck hm λho hp=>wv (B3 (enc:=I0) (ys:=n) V3 Ct Aa Aa ho) (wv (Bo Dm Aa Aa) (wa Aa (Bs (wm Aa (ob hp λhq hr hs=>Cn Tryz.call98 (NY (Am n ha) hq hr) Aa (wv (BW Aa) (Ao (cz hs Aa (λht hu=>?_) (λht hw=>?_))))))))))))))
   ·refine Af (wa Aa (Ao (As (A3 (Ad (Ad (Bc ?_)))))));have hx:=Bz hu he hf;refine A3 (Ad ?_);obtain rfl:=At hx;exact Ar (BY Tryz.results135 (AB Aa)) sN ⟨Aa,Aa⟩
   ·refine Ap (AF (AJ (Ah (ck hw λhy hz=>wv (Bh Aa Aa hy) (wm Aa (Aj ?_))))));have h0:=Bg hz he;exact Au (AD (hj,ha+1,()) ⟨h0,Abo _⟩ (AM.c Aa (AM.c Aa (AM.c Aa AM.nil))) sN)
  ·refine BB (A2 ?_);have h1:=Cb hn he hf;exact A2 (Bn (AD ((),()) h1 AM.nil sN))
 ·rintro⟨⟨⟩,⟨⟩⟩ hd;refine C4 (l':=[]) (H':=[]) Aa Aa ?_;replace hd:Ig =some r:=hd;unfold Ig at hd;refine Bi (AJ (Af (wa Aa (Ao (As ?_)))));obtain rfl:=At hd;exact Ar (BY Tryz.results135 (AB Aa)) sN ⟨Aa,Aa⟩
theorem Ru (n:Int)(r:Int×Int)(h:Mp n=some r):Fn Tryz.prog GE 136 [Ak n] [] (λR H=>R=Cs [Ak r.1,Ak r.2]∧H=[]):=by
 refine enter (n:=8) Tryz.func136 Aa Tryz.ntmps136 Aa (λw Z=>?_);unfold Mp at h;refine Af (wa Aa (wa Aa (Ao (Ai (Af (wm Aa (ob h λr1 e3 h2=>Cn Tryz.call98 (NY n r1 e3) Aa (wv (BW Aa) (Ao (cz h2 Aa (λc4 h5=>?_) (λc4 h6=>?_)))))))))))
 ·refine Af (wa Aa (wa Aa (Ao (As (Ad ?_)))));obtain rfl:=At h5;exact Ar (CS Tryz.results136 (AB Aa) (AB Aa)) sN ⟨Aa,Aa⟩
 ·refine Ap (AJ (Af (wm Aa (wa Aa (wa Aa (Ao (As ?_)))))));obtain rfl:=At h6;exact Ar (CS Tryz.results136 (AB Aa) (AB Aa)) sN ⟨Aa,Aa⟩
theorem Rv (F:Nat)(a:Int)(b:Int)(r:Int×Int)(h:PU F a b=some r):Fn Tryz.prog GE 109 [Ak a,Ak b] [] (λR H=>R=Cs [Ak r.1,Ak r.2]∧H=[]):=by
 refine enter (n:=17) Tryz.func109 Aa Tryz.ntmps109 Aa (λw Z=>?_);unfold PU at h;refine Af (wa Aa (wa Aa (Ao (Ai (Af (wm Aa (wm Aa (AQ (ys:=([a,b]:List Int)) (enc:=I0) (css:=[[Ak a],[Ak b]]) (xs:=[.tmp 6,.tmp 7]) V3 Ct Tryz.zeroValue3 Aa Aa Aa ⟨Eo.one Aa (Up.refl _),Eo.one Aa (Up.refl _),trivial⟩ Aa SW Aa Aa Aa (λb1=>?_)))))))));refine WL.freeze (i:=0) Aa (WL.up (d:=8) (r:=AX 1 (A1 I0 ([a,b]:List Int))) Aa (Up.fact (i:=0) Aa) (ob h λr2 e4 h3=>Cn Tryz.call135 (SD F ([a,b]:List Int) r2 e4) Aa (wv (BW Aa) (Ao (cz h3 Aa (λc5 h6=>?_) (λc5 h7=>?_))))))
 ·refine Af (wa Aa (wa Aa (Ao (As (Ad ?_)))));obtain rfl:=At h6;exact Ar (CS Tryz.results109 (AB Aa) (AB Aa)) (sS sN) ⟨Aa,Aa⟩
 ·refine Ap (AJ (Af (wm Aa (wm Aa (ck h7 λg8 h9=>wv (Bh Aa Aa g8) (ob h9 λha hb hd=>Cn Tryz.call136 (Ru (a+b) ha hb) Aa (wv (AA Aa Aa) (wv (AA Aa Aa) (wa Aa (wa Aa (Ao (As ?_))))))))))));obtain rfl:=At hd;exact Ar (CS Tryz.results109 (AB Aa) (AB Aa)) (sS sN) ⟨Aa,Aa⟩
theorem W9 (F:Nat)(state:(List Ab))(args:(List (List Ab)))(r:(List Ab)×Bk)(h:SM F state args=some r):Fn Tryz.prog GE 77 [AX 4 (A1 Ac state),AX 1 (A1 An args)] [] (λR H=>R=Cs [AX 4 (A1 Ac r.1),Bq (AZ r.2)]∧H=[]):=by
 refine enter (n:=56) Tryz.func77 Aa Tryz.ntmps77 Aa (λw Z=>?_);unfold SM at h;refine Af (wa Aa (Ce (cs:=[Ak 0,rv (.slice none 0 0)]) O8 Aa Aa (λb1=>?_)));refine Bs (wa Aa (Ao (Ai (Af (wm Aa (ck h λg2 h3=>wv (B3 (enc:=Ac) (ys:=state) BK BU Aa Aa g2) (wv (BG BA Aa DQ Aa Aa) (wv (Bo Eh Aa Aa) (Ao (AL (Af (wv (BE Aa Aa) (wa Aa (Ao (cz h3 Aa (λc4 h5=>?_) (λc4 hh=>?_))))))))))))))))
 ·refine Ah (wm Aa (wv (B3 (enc:=Ac) (ys:=state) BK BU Aa Aa g2) (wv (BG BA Aa Ct Aa Aa) (wv (Bo Dm Aa Aa) (wa Aa (Aj (AF (AJ (Ai (Af (wm Aa (ck h5 λg6 h7=>wv (B3 (enc:=An) (ys:=args) DP CA Aa Aa g6) (wv (Bo Ep Aa Aa) (ck h7 λg8 h9=>wv (B3 (enc:=Ac) (ys:=Am args 0) BK BU Aa Aa g8) (wv (BG BA Aa DQ Aa Aa) (wv (Bo Eh Aa Aa) (wv (CR Aa Aa) (Ao (cz h9 Aa (λhi hj=>?_) (λhi hk=>?_))))))))))))))))))))
  ·refine Af (wm Aa (wv (r:=Bq [Ak 7,rv (.slice none 0 0)]) (GS Aa Aa) (wa Aa (AP (i:=0) Dc Aa Aa Aa (Bx.c Aa) Aa Aa (cs':=[Ak 7,rv (.slice none 0 0)]) Aa (H':=[.blk b1 [Ak 7,rv (.slice none 0 0)] 31]) Aa (Ao (As (Ad (WK.upBlk (i:=0) (cs':=[Ak 7,AX 4 (A1 Ac ([]:List Ab))]) Aa ⟨Up.refl _,Up.le (DZ.nil _),trivial⟩ ?_))))))));obtain rfl:=At hj;exact Ar (CS RZ (AB Aa) (Cy (i:=0) HY Dc Aa Aa Aa)) (sS sN) ⟨Aa,Aa⟩
  ·refine Ap (AJ (Af (wm Aa (wm Aa (wv (B3 (enc:=An) (ys:=args) DP CA Aa Aa g6) (wv (Bo Ep Aa Aa) (wv (B3 (enc:=Ac) (ys:=Am args 0) BK BU Aa Aa g8) (wv (BG BA Aa Ct Aa Aa) (wv (Bo Dm Aa Aa) (ob hk λha hl hm=>Cn Tryz.call109 (Rv F ((Am state 0).fInt) ((Am (Am args 0) 0).fInt) ha hl) Aa (wm Aa (wv (AA Aa Aa) (wv (AA Aa Aa) (wa Aa (wa Aa (Ao (Ai (Af (wm Aa (wv (CR Aa Aa) (Ao (cz hm Aa (λhn ho=>?_) (λhn hp=>?_)))))))))))))))))))))))
   ·refine Af (wm Aa (wm Aa (wv (r:=Bq [Ak ha.2,rv (.slice none 0 0)]) (GS Aa Aa) (wa Aa (AP (i:=0) Dc Aa Aa Aa (Bx.c Aa) Aa Aa (cs':=[Ak ha.2,rv (.slice none 0 0)]) Aa (H':=[.blk b1 [Ak ha.2,rv (.slice none 0 0)] 31]) Aa (Ao (As (Ad (WK.upBlk (i:=0) (cs':=[Ak ha.2,AX 4 (A1 Ac ([]:List Ab))]) Aa ⟨Up.refl _,Up.le (DZ.nil _),trivial⟩ ?_)))))))));obtain rfl:=At ho;exact Ar (CS RZ (AB Aa) (Cy (i:=0) HY Dc Aa Aa Aa)) (sS sN) ⟨Aa,Aa⟩
   ·refine Ap (AJ (Af (wm Aa (wv (r:=Bq [Ak 3,Ak ha.1,rS ([]:Ae),Ak 0]) (Cf Aa Aa Aa Aa) (AQ (ys:=([(Ab.mk 3 ha.1 ([]:Ae) 0)]:List Ab)) (enc:=Ac) (css:=[[Ak 3,Ak ha.1,rS ([]:Ae),Ak 0]]) (xs:=[.tmp 50]) BK BU Eb Aa Aa Aa ⟨Eo.agg ⟨Up.refl _,Up.refl _,Up.refl _,Up.refl _,trivial⟩,trivial⟩ Aa AR Aa Aa Aa (λhq=>?_))))));refine wa Aa (Bs (wm Aa (wm Aa (WL.freeze (i:=0) Aa (WL.up (d:=53) (r:=AX 4 (A1 Ac ([(Ab.mk 3 ha.1 ([]:Ae) 0)]:List Ab))) Aa (Up.fact (i:=0) Aa) (ob hp λhd hr hs=>Cn MZ (Ec ([(Ab.mk 3 ha.1 ([]:Ae) 0)]:List Ab) hd hr) Aa (wv (r:=Bq [Ak 0,AX 4 (A1 Ac hd)]) (Gn Aa Aa) (wa Aa (AP (i:=1) Dc Aa Aa Aa (Bx.c Aa) Aa Aa (cs':=[Ak 0,AX 4 (A1 Ac hd)]) Aa (H':=[.fact (.slice (some ⟨hq,0,none⟩) 1 1) (AX 4 (A1 Ac ([(Ab.mk 3 ha.1 ([]:Ae) 0)]:List Ab))),.blk b1 [Ak 0,AX 4 (A1 Ac hd)] 31]) Aa (Ao (As (WK.up (d:=4) (r:=AX 4 (A1 Ac ([(Ab.mk 3 ha.1 ([]:Ae) 0)]:List Ab))) Aa (Up.fact (i:=0) Aa) ?_))))))))))));obtain rfl:=At hs;exact Ar (CS RZ (AB Aa) (Cy (i:=1) HY Dc Aa Aa Aa)) (sS (sS sN)) ⟨Aa,Aa⟩
 ·refine Af (wv (BE Aa Aa) (wa Aa (Ao (cz hh Aa (λht hu=>?_) (λht hw=>?_)))))
  ·refine Ap (AF (AJ (Ai (Af (wm Aa (ck hu λhf hx=>wv (B3 (enc:=An) (ys:=args) DP CA Aa Aa hf) (wv (Bo Ep Aa Aa) (ck hx λhg hy=>wv (B3 (enc:=Ac) (ys:=Am args 0) BK BU Aa Aa hg) (wv (BG BA Aa DQ Aa Aa) (wv (Bo Eh Aa Aa) (wv (CR Aa Aa) (Ao (cz hy Aa (λhz h0=>?_) (λhz h1=>?_))))))))))))))
   ·refine Af (wm Aa (wv (r:=Bq [Ak 7,rv (.slice none 0 0)]) (GS Aa Aa) (wa Aa (AP (i:=0) Dc Aa Aa Aa (Bx.c Aa) Aa Aa (cs':=[Ak 7,rv (.slice none 0 0)]) Aa (H':=[.blk b1 [Ak 7,rv (.slice none 0 0)] 31]) Aa (Ao (As (Ad (WK.upBlk (i:=0) (cs':=[Ak 7,AX 4 (A1 Ac ([]:List Ab))]) Aa ⟨Up.refl _,Up.le (DZ.nil _),trivial⟩ ?_))))))));obtain rfl:=At h0;exact Ar (CS RZ (AB Aa) (Cy (i:=0) HY Dc Aa Aa Aa)) (sS sN) ⟨Aa,Aa⟩
   ·refine Ap (AJ (Af (wm Aa (wm Aa (wv (B3 (enc:=An) (ys:=args) DP CA Aa Aa hf) (wv (Bo Ep Aa Aa) (wv (B3 (enc:=Ac) (ys:=Am args 0) BK BU Aa Aa hg) (wv (BG BA Aa Ct Aa Aa) (wv (Bo Dm Aa Aa) (ob h1 λhb h2 h4=>Cn Tryz.call109 (Rv F 0 ((Am (Am args 0) 0).fInt) hb h2) Aa (wm Aa (wv (AA Aa Aa) (wv (AA Aa Aa) (wa Aa (wa Aa (Ao (Ai (Af (wm Aa (wv (CR Aa Aa) (Ao (cz h4 Aa (λh6 h8=>?_) (λh6 hA=>?_)))))))))))))))))))))))
    ·refine Af (wm Aa (wm Aa (wv (r:=Bq [Ak hb.2,rv (.slice none 0 0)]) (GS Aa Aa) (wa Aa (AP (i:=0) Dc Aa Aa Aa (Bx.c Aa) Aa Aa (cs':=[Ak hb.2,rv (.slice none 0 0)]) Aa (H':=[.blk b1 [Ak hb.2,rv (.slice none 0 0)] 31]) Aa (Ao (As (Ad (WK.upBlk (i:=0) (cs':=[Ak hb.2,AX 4 (A1 Ac ([]:List Ab))]) Aa ⟨Up.refl _,Up.le (DZ.nil _),trivial⟩ ?_)))))))));obtain rfl:=At h8;exact Ar (CS RZ (AB Aa) (Cy (i:=0) HY Dc Aa Aa Aa)) (sS sN) ⟨Aa,Aa⟩
    ·refine Ap (AJ (Af (wm Aa (wv (r:=Bq [Ak 3,Ak hb.1,rS ([]:Ae),Ak 0]) (Cf Aa Aa Aa Aa) (AQ (ys:=([(Ab.mk 3 hb.1 ([]:Ae) 0)]:List Ab)) (enc:=Ac) (css:=[[Ak 3,Ak hb.1,rS ([]:Ae),Ak 0]]) (xs:=[.tmp 50]) BK BU Eb Aa Aa Aa ⟨Eo.agg ⟨Up.refl _,Up.refl _,Up.refl _,Up.refl _,trivial⟩,trivial⟩ Aa AR Aa Aa Aa (λhB=>?_))))));refine wa Aa (Bs (wm Aa (wm Aa (WL.freeze (i:=0) Aa (WL.up (d:=53) (r:=AX 4 (A1 Ac ([(Ab.mk 3 hb.1 ([]:Ae) 0)]:List Ab))) Aa (Up.fact (i:=0) Aa) (ob hA λhe hC hD=>Cn MZ (Ec ([(Ab.mk 3 hb.1 ([]:Ae) 0)]:List Ab) he hC) Aa (wv (r:=Bq [Ak 0,AX 4 (A1 Ac he)]) (Gn Aa Aa) (wa Aa (AP (i:=1) Dc Aa Aa Aa (Bx.c Aa) Aa Aa (cs':=[Ak 0,AX 4 (A1 Ac he)]) Aa (H':=[.fact (.slice (some ⟨hB,0,none⟩) 1 1) (AX 4 (A1 Ac ([(Ab.mk 3 hb.1 ([]:Ae) 0)]:List Ab))),.blk b1 [Ak 0,AX 4 (A1 Ac he)] 31]) Aa (Ao (As (WK.up (d:=4) (r:=AX 4 (A1 Ac ([(Ab.mk 3 hb.1 ([]:Ae) 0)]:List Ab))) Aa (Up.fact (i:=0) Aa) ?_))))))))))));obtain rfl:=At hD;exact Ar (CS RZ (AB Aa) (Cy (i:=1) HY Dc Aa Aa Aa)) (sS (sS sN)) ⟨Aa,Aa⟩
  ·refine Af (wm Aa (wv (r:=Bq [Ak 7,rv (.slice none 0 0)]) (GS Aa Aa) (wa Aa (AP (i:=0) Dc Aa Aa Aa (Bx.c Aa) Aa Aa (cs':=[Ak 7,rv (.slice none 0 0)]) Aa (H':=[.blk b1 [Ak 7,rv (.slice none 0 0)] 31]) Aa (Ao (As (A3 (Ad (WK.upBlk (i:=0) (cs':=[Ak 7,AX 4 (A1 Ac ([]:List Ab))]) Aa ⟨Up.refl _,Up.le (DZ.nil _),trivial⟩ ?_)))))))));obtain rfl:=At hw;exact Ar (CS RZ (AB Aa) (Cy (i:=0) HY Dc Aa Aa Aa)) (sS sN) ⟨Aa,Aa⟩
theorem LC  (r:(List (Ae×Nat)))(h:W1=some r):Fn Tryz.prog GE 45 [] [] (λR H=>R=U1 (Ba mF r)∧H=[]):=by
 refine enter (n:=3) Tryz.func45 Aa Tryz.ntmps45 Aa (λw Z=>?_);unfold W1 at h;refine Af (wv (r:=rv (.map none)) (Av Aa) (Bs (OQ Aa (λb1=>?_))));refine Ex (enc:=mF) (xs:=([]:List (Ae×Nat))) (v:=75) (i:=0) Qz BZ Aa Aa Aa Aa (H':=[.map b1 (Ba mF (By ([]:List (Ae×Nat)) ([114,101,97,100]:Ae) 75))]) Aa (Ex (enc:=mF) (xs:=By ([]:List (Ae×Nat)) ([114,101,97,100]:Ae) 75) (v:=76) (i:=0) Qz BZ Aa Aa Aa Aa (H':=[.map b1 (Ba mF (By (By ([]:List (Ae×Nat)) ([114,101,97,100]:Ae) 75) ([119,114,105,116,101]:Ae) 76))]) Aa (Ex (enc:=mF) (xs:=By (By ([]:List (Ae×Nat)) ([114,101,97,100]:Ae) 75) ([119,114,105,116,101]:Ae) 76) (v:=77) (i:=0) Qz BZ Aa Aa Aa Aa (H':=[.map b1 (Ba mF (By (By (By ([]:List (Ae×Nat)) ([114,101,97,100]:Ae) 75) ([119,114,105,116,101]:Ae) 76) ([97,100,100]:Ae) 77))]) Aa (Ex (enc:=mF) (xs:=By (By (By ([]:List (Ae×Nat)) ([114,101,97,100]:Ae) 75) ([119,114,105,116,101]:Ae) 76) ([97,100,100]:Ae) 77) (v:=78) (i:=0) Qz BZ Aa Aa Aa Aa (H':=[.map b1 (Ba mF (By (By (By (By ([]:List (Ae×Nat)) ([114,101,97,100]:Ae) 75) ([119,114,105,116,101]:Ae) 76) ([97,100,100]:Ae) 77) ([99,97,115]:Ae) 78))]) Aa (wm Aa (wa Aa (Ao (As (WK.freezeM (i:=0) Aa (WK.up (d:=0) (r:=U1 (Ba mF (By (By (By (By ([]:List (Ae×Nat)) ([114,101,97,100]:Ae) 75) ([119,114,105,116,101]:Ae) 76) ([97,100,100]:Ae) 77) ([99,97,115]:Ae) 78))) Aa (Up.fact (i:=0) Aa) ?_)))))))));obtain rfl:=At h;exact Ar (BY Tryz.results45 (AB Aa)) (sS sN) ⟨Aa,Aa⟩
theorem Aam (F:Nat)(state:(List Ab))(op:A0)(r:(List Ab)×Bk×Int)(h:nDo F state op=some r):Fn Tryz.prog GE 13 [AX 4 (A1 Ac state),Bq (Ay op)] [] (λR H=>R=Cs [AX 4 (A1 Ac r.1),Bq (AZ r.2.1),Ak r.2.2]∧H=[]):=by
 refine enter (n:=37) Tryz.func13 Aa Tryz.ntmps13 Aa (λw Z=>?_);unfold nDo at h;refine Af (Ci Aa Aa (λb1=>?_));refine wa Aa (Ce (cs:=[Ak 0,rv (.slice none 0 0)]) O8 Aa Aa (λb2=>?_));refine wa Aa (Ao (Ai (Af (wv (Bw (i:=1) Em C6 Aa Aa Aa Aa) (ob h λr3 e5 h4=>Cn Tryz.call43 (LG F op r3 e5) Aa (wa Aa (Bs (wm Aa (wv (CR Aa Aa) (Ao (cz h4 Aa (λc6 h7=>?_) (λc6 h8=>?_))))))))))))
 ·refine Af (wv (r:=Bq [Ak 0,rv (.slice none 0 0)]) (NV ) (wm Aa (wa Aa (AP (i:=0) Dc Aa Aa Aa (Bx.c Aa) Aa Aa (cs':=[Ak 0,rv (.slice none 0 0)]) Aa (H':=[.blk b2 [Ak 0,rv (.slice none 0 0)] 31,.blk b1 (Ay op) 25]) Aa (wa Aa (Ao (As (Ad (WK.up (d:=4) (r:=AX 4 (A1 Ac ([]:List Ab))) Aa (Up.le (DZ.nil _)) (WK.upBlk (i:=0) (cs':=[Ak 0,AX 4 (A1 Ac ([]:List Ab))]) Aa ⟨Up.refl _,Up.le (DZ.nil _),trivial⟩ ?_))))))))));obtain rfl:=At h7;exact Ar (MM Ud (AB Aa) (Cy (i:=0) HY Dc Aa Aa Aa) (AB Aa)) (sS (sS sN)) ⟨Aa,Aa⟩
 ·refine Ap (AJ (Ai (Af (wm Aa (ob h8 λr9 hq hr=>Cn Tryz.call44 (Lr F state r9 hq) Aa (wa Aa (Bs (wm Aa (wv (CR Aa Aa) (Ao (cz hr Aa (λhs ht=>?_) (λhs hu=>?_))))))))))))
  ·refine Af (wv (r:=Bq [Ak 0,rv (.slice none 0 0)]) (NV ) (wm Aa (wa Aa (AP (i:=0) Dc Aa Aa Aa (Bx.c Aa) Aa Aa (cs':=[Ak 0,rv (.slice none 0 0)]) Aa (H':=[.blk b2 [Ak 0,rv (.slice none 0 0)] 31,.blk b1 (Ay op) 25]) Aa (wa Aa (Ao (As (Ad (WK.up (d:=4) (r:=AX 4 (A1 Ac ([]:List Ab))) Aa (Up.le (DZ.nil _)) (WK.upBlk (i:=0) (cs':=[Ak 0,AX 4 (A1 Ac ([]:List Ab))]) Aa ⟨Up.refl _,Up.le (DZ.nil _),trivial⟩ ?_))))))))));obtain rfl:=At ht;exact Ar (MM Ud (AB Aa) (Cy (i:=0) HY Dc Aa Aa Aa) (AB Aa)) (sS (sS sN)) ⟨Aa,Aa⟩
  ·refine Ap (AJ (Ai (bz hu (λhn hw=>?_) (λhn hx=>?_))))
   ·refine ob hw λhf hy hz=>ob hz λha h0 h1=>CK 14 [0,3,5] [⟨[],U1 (Ba mF (By (By (By (By ([]:List (Ae×Nat)) ([114,101,97,100]:Ae) 75) ([119,114,105,116,101]:Ae) 76) ([97,100,100]:Ae) 77) ([99,97,115]:Ae) 78)),none,none,none⟩,⟨[],rP b1 2,none,none,none⟩,⟨[1],rS op.fOp,none,none,none⟩,⟨[0,2],rv (.func (.func 75) #[] #[]),none,none,none⟩,⟨[],AX 4 (A1 Ac state),none,none,none⟩,⟨[4],AX 4 (A1 Ac hf),none,none,none⟩,⟨[],rP b1 3,none,none,none⟩,⟨[6],AX 1 (A1 An op.fArgs),none,none,none⟩,⟨[3,5,7],Cs [AX 4 (A1 Ac ha.1),Bq (AZ ha.2)],none,none,none⟩,⟨[8],Cs [AX 4 (A1 Ac ha.1),Bq (AZ ha.2)],none,none,none⟩,⟨[9],AX 4 (A1 Ac ha.1),none,none,none⟩,⟨[9],Bq (AZ ha.2),none,none,none⟩,⟨[],rv undef,some ([Ak 0,rv (.slice none 0 0)],31),none,none⟩,⟨[10],AX 4 (A1 Ac ha.1),none,none,none⟩] ?_ (λβ=>?_)
    ·refine Qt (If Tryz.call45 (LC (By (By (By (By ([]:List (Ae×Nat)) ([114,101,97,100]:Ae) 75) ([119,114,105,116,101]:Ae) 76) ([97,100,100]:Ae) 77) ([99,97,115]:Ae) 78) rfl) rfl) (Cu (AC Cw rfl CG rfl rfl) (KT (Bj (i:=1) CV rfl rfl rfl) (Cu (Jk (enc:=mF) (xs:=(By (By (By (By ([]:List (Ae×Nat)) ([114,101,97,100]:Ae) 75) ([119,114,105,116,101]:Ae) 76) ([97,100,100]:Ae) 77) ([99,97,115]:Ae) 78)) (q:=75) Qz BZ rfl rfl (by rw[AbE hn];rfl)) (Cu (Aq rfl) (Qt (If MZ (Ec state hf hy) rfl) (Cu (AC Cw rfl EA rfl rfl) (KT (Bj (i:=1) GN rfl rfl rfl) (Qt (PP Tryz.call75 (Rw hf op.fArgs ha h0) rfl rfl) (Cu (Aq rfl) (Cu (AA rfl rfl) (Cu (AA rfl rfl) (Z3 (O2 (cs:=[Ak 0,rv (.slice none 0 0)]) O8 rfl) (Cu (Av rfl) ?_)))))))))))));exact O6
    refine Dp (H1:=[.blk b2 [Ak 0,rv (.slice none 0 0)] 31,.blk b1 (Ay op) 25,.blk (β 12) [Ak 0,rv (.slice none 0 0)] 31]) [24,25,26,27,28,29,30,31,32,23,33,34,10,9,0,3,5] ?_;generalize β 12=hg;refine AP (i:=2) Dc Aa Aa Aa (Bx.c Aa) Aa Aa (cs':=[Ak ha.2.fErr,AX 4 (A1 Ac ha.2.fValue)]) Aa (H':=[.blk b2 [Ak 0,rv (.slice none 0 0)] 31,.blk b1 (Ay op) 25,.blk hg (AZ ha.2) 31]) Aa (Ao (Ai (CK 3 [5,9,10] [⟨[],AX 4 (A1 Ac ha.1),none,none,none⟩,⟨[],Bq (AZ ha.2),none,none,none⟩,⟨[0],AX 4 (A1 Ac ha.1),none,none,none⟩] ?_ (λβ=>?_))))
    ·refine Cu (Aq Aa) (KT (Bw (i:=2) HY Dc Aa Aa Aa Aa) (Cu (Av Aa) ?_));exact O6
    refine Dp (H1:=[.blk b2 [Ak 0,rv (.slice none 0 0)] 31,.blk b1 (Ay op) 25,.blk hg (AZ ha.2) 31]) [35,36,4,5,9,10] ?_;refine AP (i:=0) Dc Aa Aa Aa (Bx.c Aa) Aa Aa (cs':=[Ak ha.2.fErr,AX 4 (A1 Ac ha.2.fValue)]) Aa (H':=[.blk b2 (AZ ha.2) 31,.blk b1 (Ay op) 25,.blk hg (AZ ha.2) 31]) Aa (wa Aa (Ao (As ?_)));obtain rfl:=At h1;exact Ar (MM Ud (AB Aa) (Cy (i:=0) HY Dc Aa Aa Aa) (AB Aa)) (sS (sS (sS sN))) ⟨Aa,Aa⟩
   ·refine bz hx (λho h2=>?_) (λho h3=>?_)
    ·refine ob h2 λhh h5 h6=>ob h6 λhb h9 hA=>CK 14 [0,3,5] [⟨[],U1 (Ba mF (By (By (By (By ([]:List (Ae×Nat)) ([114,101,97,100]:Ae) 75) ([119,114,105,116,101]:Ae) 76) ([97,100,100]:Ae) 77) ([99,97,115]:Ae) 78)),none,none,none⟩,⟨[],rP b1 2,none,none,none⟩,⟨[1],rS op.fOp,none,none,none⟩,⟨[0,2],rv (.func (.func 76) #[] #[]),none,none,none⟩,⟨[],AX 4 (A1 Ac state),none,none,none⟩,⟨[4],AX 4 (A1 Ac hh),none,none,none⟩,⟨[],rP b1 3,none,none,none⟩,⟨[6],AX 1 (A1 An op.fArgs),none,none,none⟩,⟨[3,5,7],Cs [AX 4 (A1 Ac hb.1),Bq (AZ hb.2)],none,none,none⟩,⟨[8],Cs [AX 4 (A1 Ac hb.1),Bq (AZ hb.2)],none,none,none⟩,⟨[9],AX 4 (A1 Ac hb.1),none,none,none⟩,⟨[9],Bq (AZ hb.2),none,none,none⟩,⟨[],rv undef,some ([Ak 0,rv (.slice none 0 0)],31),none,none⟩,⟨[10],AX 4 (A1 Ac hb.1),none,none,none⟩] ?_ (λβ=>?_)
     ·refine Qt (If Tryz.call45 (LC (By (By (By (By ([]:List (Ae×Nat)) ([114,101,97,100]:Ae) 75) ([119,114,105,116,101]:Ae) 76) ([97,100,100]:Ae) 77) ([99,97,115]:Ae) 78) rfl) rfl) (Cu (AC Cw rfl CG rfl rfl) (KT (Bj (i:=1) CV rfl rfl rfl) (Cu (Jk (enc:=mF) (xs:=(By (By (By (By ([]:List (Ae×Nat)) ([114,101,97,100]:Ae) 75) ([119,114,105,116,101]:Ae) 76) ([97,100,100]:Ae) 77) ([99,97,115]:Ae) 78)) (q:=76) Qz BZ rfl rfl (by rw[AbE ho];rfl)) (Cu (Aq rfl) (Qt (If MZ (Ec state hh h5) rfl) (Cu (AC Cw rfl EA rfl rfl) (KT (Bj (i:=1) GN rfl rfl rfl) (Qt (PP Tryz.call76 (PV hh op.fArgs hb h9) rfl rfl) (Cu (Aq rfl) (Cu (AA rfl rfl) (Cu (AA rfl rfl) (Z3 (O2 (cs:=[Ak 0,rv (.slice none 0 0)]) O8 rfl) (Cu (Av rfl) ?_)))))))))))));exact O6
     refine Dp (H1:=[.blk b2 [Ak 0,rv (.slice none 0 0)] 31,.blk b1 (Ay op) 25,.blk (β 12) [Ak 0,rv (.slice none 0 0)] 31]) [24,25,26,27,28,29,30,31,32,23,33,34,10,9,0,3,5] ?_;generalize β 12=hi;refine AP (i:=2) Dc Aa Aa Aa (Bx.c Aa) Aa Aa (cs':=[Ak hb.2.fErr,AX 4 (A1 Ac hb.2.fValue)]) Aa (H':=[.blk b2 [Ak 0,rv (.slice none 0 0)] 31,.blk b1 (Ay op) 25,.blk hi (AZ hb.2) 31]) Aa (Ao (Ai (CK 3 [5,9,10] [⟨[],AX 4 (A1 Ac hb.1),none,none,none⟩,⟨[],Bq (AZ hb.2),none,none,none⟩,⟨[0],AX 4 (A1 Ac hb.1),none,none,none⟩] ?_ (λβ=>?_))))
     ·refine Cu (Aq Aa) (KT (Bw (i:=2) HY Dc Aa Aa Aa Aa) (Cu (Av Aa) ?_));exact O6
     refine Dp (H1:=[.blk b2 [Ak 0,rv (.slice none 0 0)] 31,.blk b1 (Ay op) 25,.blk hi (AZ hb.2) 31]) [35,36,4,5,9,10] ?_;refine AP (i:=0) Dc Aa Aa Aa (Bx.c Aa) Aa Aa (cs':=[Ak hb.2.fErr,AX 4 (A1 Ac hb.2.fValue)]) Aa (H':=[.blk b2 (AZ hb.2) 31,.blk b1 (Ay op) 25,.blk hi (AZ hb.2) 31]) Aa (wa Aa (Ao (As ?_)));obtain rfl:=At hA;exact Ar (MM Ud (AB Aa) (Cy (i:=0) HY Dc Aa Aa Aa) (AB Aa)) (sS (sS (sS sN))) ⟨Aa,Aa⟩
    ·refine bz h3 (λhp hB=>?_) (λhp hC=>?_)
     ·refine ob hB λhj hD hE=>ob hE λhd hG hH=>CK 14 [0,3,5] [⟨[],U1 (Ba mF (By (By (By (By ([]:List (Ae×Nat)) ([114,101,97,100]:Ae) 75) ([119,114,105,116,101]:Ae) 76) ([97,100,100]:Ae) 77) ([99,97,115]:Ae) 78)),none,none,none⟩,⟨[],rP b1 2,none,none,none⟩,⟨[1],rS op.fOp,none,none,none⟩,⟨[0,2],rv (.func (.func 77) #[] #[]),none,none,none⟩,⟨[],AX 4 (A1 Ac state),none,none,none⟩,⟨[4],AX 4 (A1 Ac hj),none,none,none⟩,⟨[],rP b1 3,none,none,none⟩,⟨[6],AX 1 (A1 An op.fArgs),none,none,none⟩,⟨[3,5,7],Cs [AX 4 (A1 Ac hd.1),Bq (AZ hd.2)],none,none,none⟩,⟨[8],Cs [AX 4 (A1 Ac hd.1),Bq (AZ hd.2)],none,none,none⟩,⟨[9],AX 4 (A1 Ac hd.1),none,none,none⟩,⟨[9],Bq (AZ hd.2),none,none,none⟩,⟨[],rv undef,some ([Ak 0,rv (.slice none 0 0)],31),none,none⟩,⟨[10],AX 4 (A1 Ac hd.1),none,none,none⟩] ?_ (λβ=>?_)
      ·refine Qt (If Tryz.call45 (LC (By (By (By (By ([]:List (Ae×Nat)) ([114,101,97,100]:Ae) 75) ([119,114,105,116,101]:Ae) 76) ([97,100,100]:Ae) 77) ([99,97,115]:Ae) 78) rfl) rfl) (Cu (AC Cw rfl CG rfl rfl) (KT (Bj (i:=1) CV rfl rfl rfl) (Cu (Jk (enc:=mF) (xs:=(By (By (By (By ([]:List (Ae×Nat)) ([114,101,97,100]:Ae) 75) ([119,114,105,116,101]:Ae) 76) ([97,100,100]:Ae) 77) ([99,97,115]:Ae) 78)) (q:=77) Qz BZ rfl rfl (by rw[AbE hp];rfl)) (Cu (Aq rfl) (Qt (If MZ (Ec state hj hD) rfl) (Cu (AC Cw rfl EA rfl rfl) (KT (Bj (i:=1) GN rfl rfl rfl) (Qt (PP Tryz.call77 (W9 F hj op.fArgs hd hG) rfl rfl) (Cu (Aq rfl) (Cu (AA rfl rfl) (Cu (AA rfl rfl) (Z3 (O2 (cs:=[Ak 0,rv (.slice none 0 0)]) O8 rfl) (Cu (Av rfl) ?_)))))))))))));exact O6
      refine Dp (H1:=[.blk b2 [Ak 0,rv (.slice none 0 0)] 31,.blk b1 (Ay op) 25,.blk (β 12) [Ak 0,rv (.slice none 0 0)] 31]) [24,25,26,27,28,29,30,31,32,23,33,34,10,9,0,3,5] ?_;generalize β 12=hk;refine AP (i:=2) Dc Aa Aa Aa (Bx.c Aa) Aa Aa (cs':=[Ak hd.2.fErr,AX 4 (A1 Ac hd.2.fValue)]) Aa (H':=[.blk b2 [Ak 0,rv (.slice none 0 0)] 31,.blk b1 (Ay op) 25,.blk hk (AZ hd.2) 31]) Aa (Ao (Ai (CK 3 [5,9,10] [⟨[],AX 4 (A1 Ac hd.1),none,none,none⟩,⟨[],Bq (AZ hd.2),none,none,none⟩,⟨[0],AX 4 (A1 Ac hd.1),none,none,none⟩] ?_ (λβ=>?_))))
      ·refine Cu (Aq Aa) (KT (Bw (i:=2) HY Dc Aa Aa Aa Aa) (Cu (Av Aa) ?_));exact O6
      refine Dp (H1:=[.blk b2 [Ak 0,rv (.slice none 0 0)] 31,.blk b1 (Ay op) 25,.blk hk (AZ hd.2) 31]) [35,36,4,5,9,10] ?_;refine AP (i:=0) Dc Aa Aa Aa (Bx.c Aa) Aa Aa (cs':=[Ak hd.2.fErr,AX 4 (A1 Ac hd.2.fValue)]) Aa (H':=[.blk b2 (AZ hd.2) 31,.blk b1 (Ay op) 25,.blk hk (AZ hd.2) 31]) Aa (wa Aa (Ao (As ?_)));obtain rfl:=At hH;exact Ar (MM Ud (AB Aa) (Cy (i:=0) HY Dc Aa Aa Aa) (AB Aa)) (sS (sS (sS sN))) ⟨Aa,Aa⟩
     ·refine ck hC λhI hJ=>ob hJ λhl hK hL=>ob hL λhe hN hO=>CK 14 [0,3,5] [⟨[],U1 (Ba mF (By (By (By (By ([]:List (Ae×Nat)) ([114,101,97,100]:Ae) 75) ([119,114,105,116,101]:Ae) 76) ([97,100,100]:Ae) 77) ([99,97,115]:Ae) 78)),none,none,none⟩,⟨[],rP b1 2,none,none,none⟩,⟨[1],rS op.fOp,none,none,none⟩,⟨[0,2],rv (.func (.func 78) #[] #[]),none,none,none⟩,⟨[],AX 4 (A1 Ac state),none,none,none⟩,⟨[4],AX 4 (A1 Ac hl),none,none,none⟩,⟨[],rP b1 3,none,none,none⟩,⟨[6],AX 1 (A1 An op.fArgs),none,none,none⟩,⟨[3,5,7],Cs [AX 4 (A1 Ac he.1),Bq (AZ he.2)],none,none,none⟩,⟨[8],Cs [AX 4 (A1 Ac he.1),Bq (AZ he.2)],none,none,none⟩,⟨[9],AX 4 (A1 Ac he.1),none,none,none⟩,⟨[9],Bq (AZ he.2),none,none,none⟩,⟨[],rv undef,some ([Ak 0,rv (.slice none 0 0)],31),none,none⟩,⟨[10],AX 4 (A1 Ac he.1),none,none,none⟩] ?_ (λβ=>?_)
      ·refine Qt (If Tryz.call45 (LC (By (By (By (By ([]:List (Ae×Nat)) ([114,101,97,100]:Ae) 75) ([119,114,105,116,101]:Ae) 76) ([97,100,100]:Ae) 77) ([99,97,115]:Ae) 78) rfl) rfl) (Cu (AC Cw rfl CG rfl rfl) (KT (Bj (i:=1) CV rfl rfl rfl) (Cu (Jk (enc:=mF) (xs:=(By (By (By (By ([]:List (Ae×Nat)) ([114,101,97,100]:Ae) 75) ([119,114,105,116,101]:Ae) 76) ([97,100,100]:Ae) 77) ([99,97,115]:Ae) 78)) (q:=78) Qz BZ rfl rfl (by rw[AbE hI];rfl)) (Cu (Aq rfl) (Qt (If MZ (Ec state hl hK) rfl) (Cu (AC Cw rfl EA rfl rfl) (KT (Bj (i:=1) GN rfl rfl rfl) (Qt (PP Tryz.call78 (SF F hl op.fArgs he hN) rfl rfl) (Cu (Aq rfl) (Cu (AA rfl rfl) (Cu (AA rfl rfl) (Z3 (O2 (cs:=[Ak 0,rv (.slice none 0 0)]) O8 rfl) (Cu (Av rfl) ?_)))))))))))));exact O6
      refine Dp (H1:=[.blk b2 [Ak 0,rv (.slice none 0 0)] 31,.blk b1 (Ay op) 25,.blk (β 12) [Ak 0,rv (.slice none 0 0)] 31]) [24,25,26,27,28,29,30,31,32,23,33,34,10,9,0,3,5] ?_;generalize β 12=hm;refine AP (i:=2) Dc Aa Aa Aa (Bx.c Aa) Aa Aa (cs':=[Ak he.2.fErr,AX 4 (A1 Ac he.2.fValue)]) Aa (H':=[.blk b2 [Ak 0,rv (.slice none 0 0)] 31,.blk b1 (Ay op) 25,.blk hm (AZ he.2) 31]) Aa (Ao (Ai (CK 3 [5,9,10] [⟨[],AX 4 (A1 Ac he.1),none,none,none⟩,⟨[],Bq (AZ he.2),none,none,none⟩,⟨[0],AX 4 (A1 Ac he.1),none,none,none⟩] ?_ (λβ=>?_))))
      ·refine Cu (Aq Aa) (KT (Bw (i:=2) HY Dc Aa Aa Aa Aa) (Cu (Av Aa) ?_));exact O6
      refine Dp (H1:=[.blk b2 [Ak 0,rv (.slice none 0 0)] 31,.blk b1 (Ay op) 25,.blk hm (AZ he.2) 31]) [35,36,4,5,9,10] ?_;refine AP (i:=0) Dc Aa Aa Aa (Bx.c Aa) Aa Aa (cs':=[Ak he.2.fErr,AX 4 (A1 Ac he.2.fValue)]) Aa (H':=[.blk b2 (AZ he.2) 31,.blk b1 (Ay op) 25,.blk hm (AZ he.2) 31]) Aa (wa Aa (Ao (As ?_)));obtain rfl:=At hO;exact Ar (MM Ud (AB Aa) (Cy (i:=0) HY Dc Aa Aa Aa) (AB Aa)) (sS (sS (sS sN))) ⟨Aa,Aa⟩
theorem Oa (F:Nat)(op:A0)(r:A0)(h:Ob F op=some r):Fn Tryz.prog GE 55 [Bq (Ay op)] [] (λR H=>R=Bq (Ay r)∧H=[]):=by
 refine enter (n:=24) Tryz.func55 Aa Tryz.ntmps55 Aa (λw Z=>?_);unfold Ob at h;refine Af (Ci Aa Aa (λb1=>?_));refine Ce (cs:=[rS ([]:Ae),rS ([]:Ae),rS ([]:Ae),rv (.slice none 0 0)]) Qw Aa Aa (λb2=>?_);refine Bs (vF Cw Aa EA (vL 1 GN Aa (wa Aa (Bs (vF Cw Aa EA (BC (i:=1) EA Aa Aa (Cl Aa) Aa Aa (cs':=[rS op.fEntity,rS op.fID,rS op.fOp,rv (.slice none 0 0)]) Aa (H':=[.blk b2 [rS ([]:Ae),rS ([]:Ae),rS ([]:Ae),rv (.slice none 0 0)] 25,.blk b1 [rS op.fEntity,rS op.fID,rS op.fOp,rv (.slice none 0 0)] 25]) Aa (Ao (Ai (Af (wm Aa (wv (Bv (ys:=op.fArgs) (enc:=An) DP Aa) (wv (r:=Ak 0) (Aq Aa) (Ao (AL (WC.nilrow (e:=22) (sz:=1) (GH (H2:=[.blk b2 [rS ([]:Ae),rS ([]:Ae),rS ([]:Ae),rv (.slice none 0 0)] 25,.blk b1 [rS op.fEntity,rS op.fID,rS op.fOp,rv (.slice none 0 0)] 25,.row (.slice none 0 0                      ) 22 1 (A1 An ([]:List (List Ab)))]) ((Al (i:=1) Aa).trans (Abe _ ((Al (i:=1) Aa).trans (Abe _ (Abg _))))) (ob h λhj hk hl=>B4 (S:=Nat×(Int×(List (List Ab)))×(Value)) (V:=((List (List Ab)))×(Value)) 0 (λσ=>Ca (λσ=>Km op σ.1 σ.2) σ.1 σ.2.1=some hj) (λσ=>[(1,rP b1 0),(2,rP b2 0),(9,AX 1 (A1 An op.fArgs)),(10,Ak (op.fArgs.length:Int)),(11,Ak σ.2.1.1)]) (λσ=>[.blk b2 [rS ([]:Ae),rS ([]:Ae),rS ([]:Ae),rv (.slice none 0 0)] 25,.blk b1 [rS op.fEntity,rS op.fID,rS op.fOp,rv σ.2.2] 25,.row σ.2.2 22 1 (A1 An σ.2.1.2)]) (λσ=>σ.1) (F,(0,([]:List (List Ab))),(.slice none 0 0                      )) hk (AM.c5 Aa Aa Aa Aa Aa AM.nil) (sC (sC (sC sN))) (λσ=>Kl op σ.1=some r) (λσ=>[(1,rP b1 0),(2,rP b2 0)]) (λσ=>[.blk b2 [rS ([]:Ae),rS ([]:Ae),rS ([]:Ae),rv (.slice none 0 0)] 25,.blk b1 [rS op.fEntity,rS op.fID,rS op.fOp,rv σ.2] 25,.row σ.2 22 1 (A1 An σ.1)]) ?_ ?_)))))))))))))))))
 ·rintro⟨h2,⟨he,hb⟩,v32⟩ hm;refine Cd (l':=[(1,rP b1 0),(2,rP b2 0),(9,AX 1 (A1 An op.fArgs)),(10,Ak (op.fArgs.length:Int)),(11,Ak he)]) (H':=[.blk b2 [rS ([]:Ae),rS ([]:Ae),rS ([]:Ae),rv (.slice none 0 0)] 25,.blk b1 [rS op.fEntity,rS op.fID,rS op.fOp,rv v32] 25,.row v32 22 1 (A1 An hb)]) Aa Aa ?_;obtain⟨hn,rfl,t51,hf,hi⟩:=Cz hm;replace hf:Km op he hb=some t51:=hf;unfold Km at hf;refine Af (wv (Ch Aa Aa) (Ao (Ai (cz hf Aa (λho hp=>?_) (λho hq=>?_)))))
  ·refine Ap (AJ (Ai (AL (Af (ck hp λhr hs=>wv (B3 (enc:=An) (ys:=op.fArgs) DP CA Aa Aa hr) (wv (Bo Ep Aa Aa) (wa Aa (Ao (ob hs λha ht hu=>CK 5 [1,2,5,9,10,11] [⟨[],rP b1 3,none,none,none⟩,⟨[0],rv v32,none,none,none⟩,⟨[],AX 4 (A1 Ac (Am op.fArgs he)),none,none,none⟩,⟨[2],AX 4 (A1 Ac ha),none,none,none⟩,⟨[3],AX 1 (A1 An ([ha]:List (List Ab))),none,none,none⟩] ?_ (λβ=>?_))))))))))
   ·refine Cu (AC Cw Aa EA Aa Aa) (KT (Bj (i:=1) GN Aa Aa Aa) (Cu (Aq Aa) (Qt (If MZ (Ec (Am op.fArgs he) ha ht) Aa) (Qt (GJ (ys:=([ha]:List (List Ab))) (enc:=An) (css:=[[AX 4 (A1 Ac ha)]]) (xs:=[.tmp 18]) DP CA XH Aa Aa Aa ⟨Eo.one Aa (Up.refl _),trivial⟩ Aa CJ Aa Aa) ?_))));exact O6
   refine Dp (H1:=[.blk b2 [rS ([]:Ae),rS ([]:Ae),rS ([]:Ae),rv (.slice none 0 0)] 25,.blk b1 [rS op.fEntity,rS op.fID,rS op.fOp,rv v32] 25,.row v32 22 1 (A1 An hb)]) [15,16,17,18,19,1,2,5,9,10,11] ?_;refine ck hu λhw hx=>Exists.elim SS λinf hinf=>BL (xs:=hb) (ys:=([ha]:List (List Ab))) (enc:=An) (i:=2) DP hinf.1 hinf.2.1 hinf.2.2.1 hinf.2.2.2 Aa Aa Aa Aa Aa (I5.z Aa Aa) CJ GZ hw Aa (λv64=>?_);refine vF Cw Aa EA (BC (i:=2) EA Aa Aa (Dj (i:=0) Aa) Aa Aa (cs':=[rS op.fEntity,rS op.fID,rS op.fOp,rv v64]) Aa (H':=[.row v64 22 1 (A1 An (hb++([ha]:List (List Ab)))),.blk b2 [rS ([]:Ae),rS ([]:Ae),rS ([]:Ae),rv (.slice none 0 0)] 25,.blk b1 [rS op.fEntity,rS op.fID,rS op.fOp,rv v64] 25]) Aa (Aj (AF (AJ (Ah (ck hx λhy hz=>wv (Bh Aa Aa hy) (wm Aa (Aj (BO (H2:=[.blk b2 [rS ([]:Ae),rS ([]:Ae),rS ([]:Ae),rv (.slice none 0 0)] 25,.blk b1 [rS op.fEntity,rS op.fID,rS op.fOp,rv v64] 25,.row v64 22 1 (A1 An (hb++([ha]:List (List Ab))))]) ((Al (i:=1) Aa).trans (Abe _ ((Al (i:=1) Aa).trans (Abe _ (Abg _))))) ?_)))))))));have h0:=Bg hz hi;exact Au (AD (hn,(he+1,hb++([ha]:List (List Ab))),v64) ⟨h0,Abo _⟩ (AM.c5 Aa Aa Aa Aa Aa AM.nil) (sC (sC (sC sN))))
  ·refine BB (A2 ?_);have h1:=Cb hq hi hl;exact A2 (Bn (AD (hb,v32) h1 (AM.c Aa (AM.c Aa AM.nil)) (sC (sC (sC sN)))))
 ·rintro⟨hg,hd⟩ hh;refine C4 (l':=[(1,rP b1 0),(2,rP b2 0)]) (H':=[.blk b2 [rS ([]:Ae),rS ([]:Ae),rS ([]:Ae),rv (.slice none 0 0)] 25,.blk b1 [rS op.fEntity,rS op.fID,rS op.fOp,rv hd] 25,.row hd 22 1 (A1 An hg)]) Aa Aa ?_;replace hh:Kl op hg=some r:=hh;unfold Kl at hh;refine Bi (AJ (Af (wv (Bw (i:=1) Em C6 Aa Aa Aa Aa) (AP (i:=0) C6 Aa Aa Aa ⟨(Cl Aa),(Cl Aa),(Cl Aa),(Dj (i:=2) Aa),trivial⟩ Aa Aa (cs':=[rS op.fEntity,rS op.fID,rS op.fOp,rv hd]) Aa (H':=[.blk b2 [rS op.fEntity,rS op.fID,rS op.fOp,rv hd] 25,.blk b1 [rS op.fEntity,rS op.fID,rS op.fOp,rv hd] 25,.row hd 22 1 (A1 An hg)]) Aa (Ao (As (WK.freeze (i:=2) Aa (WK.upBlk (i:=1) (cs':=[rS op.fEntity,rS op.fID,rS op.fOp,AX 1 (A1 An hg)]) Aa ⟨Up.refl _,Up.refl _,Up.refl _,Up.fact (i:=0) Aa,trivial⟩ ?_))))))));obtain rfl:=At hh;exact Ar (BY Tryz.results55 (Cy (i:=1) Em C6 Aa Aa Aa)) (sS (sS (sS sN))) ⟨Aa,Aa⟩
theorem Pf (F:Nat)(c:AV)(r:AV)(h:Nw F c=some r):Fn Tryz.prog GE 52 [Bq (A5 c)] [] (λR H=>R=Bq (A5 r)∧H=[]):=by
 refine enter (n:=14) Tryz.func52 Aa Tryz.ntmps52 Aa (λw Z=>?_);unfold Nw at h;refine Af (Ci Aa Aa (λb1=>?_));refine Ce (cs:=[rS ([]:Ae),rS ([]:Ae),rS ([]:Ae),rv (.slice none 0 0),Ak 0,rv (.slice none 0 0),Ak 0,Ak 0]) Ua Aa Aa (λb2=>?_);refine Bs (vF Ma Aa C6 (wv (Bw (i:=1) Em C6 Aa Aa Aa Aa) (ob h λr3 e5 h4=>Cn Tryz.call55 (Oa F c.fOp r3 e5) Aa (vF Ma Aa C6 (AP (i:=1) C6 Aa Aa Aa (Bx.c Aa) Aa Aa (cs':=[rS r3.fEntity,rS r3.fID,rS r3.fOp,AX 1 (A1 An r3.fArgs),Ak c.fAnswer.fErr,AX 4 (A1 Ac c.fAnswer.fValue),Ak c.fFrom,Ak c.fTo]) Aa (H':=[.blk b2 [rS ([]:Ae),rS ([]:Ae),rS ([]:Ae),rv (.slice none 0 0),Ak 0,rv (.slice none 0 0),Ak 0,Ak 0] 44,.blk b1 [rS r3.fEntity,rS r3.fID,rS r3.fOp,AX 1 (A1 An r3.fArgs),Ak c.fAnswer.fErr,AX 4 (A1 Ac c.fAnswer.fValue),Ak c.fFrom,Ak c.fTo] 44]) Aa (Bs (vF Ma Aa Dc (vF XK Aa CA (vL 1 Ep Aa (ob h4 λr6 e8 h7=>Cn MZ (Ec c.fAnswer.fValue r6 e8) Aa (vF Ma Aa Dc (vF XK Aa CA (BC (i:=1) CA Aa Aa (Cl Aa) Aa Aa (cs':=[rS r3.fEntity,rS r3.fID,rS r3.fOp,AX 1 (A1 An r3.fArgs),Ak c.fAnswer.fErr,AX 4 (A1 Ac r6),Ak c.fFrom,Ak c.fTo]) Aa (H':=[.blk b2 [rS ([]:Ae),rS ([]:Ae),rS ([]:Ae),rv (.slice none 0 0),Ak 0,rv (.slice none 0 0),Ak 0,Ak 0] 44,.blk b1 [rS r3.fEntity,rS r3.fID,rS r3.fOp,AX 1 (A1 An r3.fArgs),Ak c.fAnswer.fErr,AX 4 (A1 Ac r6),Ak c.fFrom,Ak c.fTo] 44]) Aa (Bs (wv (Bw (i:=1) OA Ir Aa Aa Aa Aa) (AP (i:=0) Ir Aa Aa Aa (Bx.c Aa) Aa Aa (cs':=[rS r3.fEntity,rS r3.fID,rS r3.fOp,AX 1 (A1 An r3.fArgs),Ak c.fAnswer.fErr,AX 4 (A1 Ac r6),Ak c.fFrom,Ak c.fTo]) Aa (H':=[.blk b2 [rS r3.fEntity,rS r3.fID,rS r3.fOp,AX 1 (A1 An r3.fArgs),Ak c.fAnswer.fErr,AX 4 (A1 Ac r6),Ak c.fFrom,Ak c.fTo] 44,.blk b1 [rS r3.fEntity,rS r3.fID,rS r3.fOp,AX 1 (A1 An r3.fArgs),Ak c.fAnswer.fErr,AX 4 (A1 Ac r6),Ak c.fFrom,Ak c.fTo] 44]) Aa (Ao (As ?_))))))))))))))))));obtain rfl:=At h7;exact Ar (BY Tryz.results52 (Cy (i:=0) OA Ir Aa Aa Aa)) (sS (sS sN)) ⟨Aa,Aa⟩
theorem W3 (F:Nat)(x:(List Ab))(y:(List Ab))(r:Bool)(h:SH F x y=some r):Fn Tryz.prog GE 88 [AX 4 (A1 Ac x),AX 4 (A1 Ac y)] [] (λR H=>R=rB r∧H=[]):=by
 refine enter (n:=8) Tryz.func88 Aa Tryz.ntmps88 Aa (λw Z=>?_);unfold SH at h;refine Af (wa Aa (Bs (wm Aa (wm Aa (ob h λr1 e3 h2=>Cn Tryz.call89 (OW F x y r1 e3) Aa (wa Aa (Ao (As ?_))))))));obtain rfl:=At h2;exact Ar (BY Tryz.results88 (AB Aa)) sN ⟨Aa,Aa⟩
theorem Xq (F:Nat)(a:(List (List Ab)))(b:(List (List Ab)))(r:Bool)(h:Mz F a b=some r):Fn Tryz.prog GE 87 [AX 1 (A1 An a),AX 1 (A1 An b),rv (.func (.func 88) #[] #[])] [] (λR H=>R=rB r∧H=[]):=by
 refine enter (n:=32) Tryz.func87 Aa Tryz.ntmps87 Aa (λw Z=>?_);unfold Mz at h;refine Af (wa Aa (Ao (Ai (Af (wm Aa (wv (Bv (ys:=a) (enc:=An) DP Aa) (wm Aa (wv (Bv (ys:=b) (enc:=An) DP Aa) (wv (CR Aa Aa) (Ao (cz h Aa (λc1 h2=>?_) (λc1 h3=>?_))))))))))))
 ·refine Af (wa Aa (Ao (As (Ad ?_))));obtain rfl:=At h2;exact Ar (BY Tryz.results87 (AB Aa)) sN ⟨Aa,Aa⟩
 ·refine Ap (AJ (Ai (Af (wm Aa (wv (Bv (ys:=a) (enc:=An) DP Aa) (wv (r:=Ak 0) (Aq Aa) (Ao (AL (ob h3 λhg hh hf=>B4 (S:=Nat×(Int)×(Unit)) (V:=(Unit)×(Unit)) 0 (λσ=>Ca (λσ=>Ky F a b σ) σ.1 σ.2.1=some hg) (λσ=>[(1,AX 1 (A1 An b)),(2,rv (.func (.func 88) #[] #[])),(15,AX 1 (A1 An a)),(16,Ak (a.length:Int)),(17,Ak σ.2.1)]) (λσ=>[]) (λσ=>σ.1) (F,0,()) hh (AM.c5 Aa Aa Aa Aa Aa AM.nil) sN (λσ=>Kx =some r) (λσ=>[]) (λσ=>[]) ?_ ?_)))))))))
  ·rintro⟨h6,ha,⟨⟩⟩ hi;refine Cd (l':=[(1,AX 1 (A1 An b)),(2,rv (.func (.func 88) #[] #[])),(15,AX 1 (A1 An a)),(16,Ak (a.length:Int)),(17,Ak ha)]) (H':=[]) Aa Aa ?_;obtain⟨hj,rfl,hk,hb,he⟩:=Cz hi;replace hb:Ky F a b ha=some hk:=hb;unfold Ky at hb;refine Af (wv (Ch Aa Aa) (Ao (Ai (cz hb Aa (λhl hm=>?_) (λhl hn=>?_)))))
   ·refine Ap (AJ (Ai (AL (Af (wm Aa (ck hm λho hp=>wv (B3 (enc:=An) (ys:=a) DP CA Aa Aa ho) (wv (Bo Ep Aa Aa) (wa Aa (wa Aa (Bs (wm Aa (wm Aa (ck hp λhq hr=>wv (B3 (enc:=An) (ys:=b) DP CA Aa Aa hq) (wv (Bo Ep Aa Aa) (wa Aa (Bs (wm Aa (wm Aa (wm Aa (ob hr λhs ht hu=>P6 (rs:=[AX 4 (A1 Ac (Am a ha)),AX 4 (A1 Ac (Am b ha))]) (Hin:=[]) (Hr:=[]) Tryz.call88 Aa Aa (Abg _) (W3 F (Am a ha) (Am b ha) hs ht) Aa ?_))))))))))))))))))));rintro _ _ ⟨rfl,rfl⟩;refine wv (BW Aa) (Ao (cz hu Aa (λhw hx=>?_) (λhw hy=>?_)))
    ·refine Af (wa Aa (Ao (As (A3 (Ad (Ad (Bc ?_)))))));have hz:=Bz hx he hf;refine A3 (Ad ?_);obtain rfl:=At hz;exact Ar (BY Tryz.results87 (AB Aa)) sN ⟨Aa,Aa⟩
    ·refine Ap (AF (AJ (Ah (ck hy λh0 h1=>wv (Bh Aa Aa h0) (wm Aa (Aj ?_))))));have h4:=Bg h1 he;exact Au (AD (hj,ha+1,()) ⟨h4,Abo _⟩ (AM.c5 Aa Aa Aa Aa Aa AM.nil) sN)
   ·refine BB (A2 ?_);have h5:=Cb hn he hf;exact A2 (Bn (AD ((),()) h5 AM.nil sN))
  ·rintro⟨⟨⟩,⟨⟩⟩ hd;refine C4 (l':=[]) (H':=[]) Aa Aa ?_;replace hd:Kx =some r:=hd;unfold Kx at hd;refine Bi (AJ (Af (wa Aa (Ao (As ?_)))));obtain rfl:=At hd;exact Ar (BY Tryz.results87 (AB Aa)) sN ⟨Aa,Aa⟩
theorem Yv (F:Nat)(a:A0)(b:A0)(r:Bool)(h:W4 F a b=some r):Fn Tryz.prog GE 53 [Bq (Ay a),Bq (Ay b)] [] (λR H=>R=rB r∧H=[]):=by
 refine enter (n:=31) Tryz.func53 Aa Tryz.ntmps53 Aa (λw Z=>?_);unfold W4 at h;refine Af (Ci Aa Aa (λb1=>?_));refine Ci Aa Aa (λb2=>?_);refine wa Aa (Ao (ck h λg3 h4=>AG [(4,rB ((decide (a.fEntity=b.fEntity))&&((decide (a.fID=b.fID))&&((decide (a.fOp=b.fOp))&&(ov (Mz F a.fArgs b.fArgs))))))] [] ?_ ?_))
 ·refine Ah (vF Cw Aa CG (vL 1 CV Aa (vF Cw Aa CG (vL 0 CV Aa (wv (DN Aa Aa) (wm Aa (AO (decide (a.fEntity=b.fEntity)) (λc5=>?_) (λc5=>?_))))))))
  ·refine wo c5 (vF Cw Aa CG (wo c5 (vL 1 CV Aa (wo c5 (vF Cw Aa CG (wo c5 (vL 0 CV Aa (wo c5 (wv (DN Aa Aa) (En Aa c5 Aa (wm Aa (AO (decide (a.fID=b.fID)) (λc6=>?_) (λc6=>?_)))))))))))))
   ·refine wo c6 (vF Cw Aa CG (wo c6 (vL 1 CV Aa (wo c6 (vF Cw Aa CG (wo c6 (vL 0 CV Aa (wo c6 (wv (DN Aa Aa) (En Aa c6 Aa (wm Aa (AO (decide (a.fOp=b.fOp)) (λc7=>?_) (λc7=>?_)))))))))))))
    ·refine wo c7 (vF Cw Aa EA (wo c7 (vL 1 GN Aa (wo c7 (vF Cw Aa EA (wo c7 (vL 0 GN Aa (wo c7 (Cn Tryz.call87 (Xq F a.fArgs b.fArgs (ov (Mz F a.fArgs b.fArgs)) (GQ (Cr (Cr (Cr g3 c5) c6) c7))) Aa (En Aa c7 Aa (wa Aa (Aj ?_))))))))))));exact Cc (And.intro c5 (And.intro c6 c7))
    ·refine wf c7 (wf c7 (wf c7 (wf c7 (wf c7 (wv (r:=rB false) (A7 Aa c7 Aa) (wa Aa (Aj ?_)))))));exact Cc (And.intro c5 (And.intro c6 c7))
   ·refine wf c6 (wf c6 (wf c6 (wf c6 (wf c6 (wv (r:=rB false) (A7 Aa c6 Aa) (wm Aa (wz Aa Aa (wz Aa Aa (wz Aa Aa (wz Aa Aa (wz Aa Aa (wv (r:=rB false) (A7 (b:=false) Aa Aa Aa) (wa Aa (Aj ?_))))))))))))));exact Cc (And.intro c5 c6)
  ·refine wf c5 (wf c5 (wf c5 (wf c5 (wf c5 (wv (r:=rB false) (A7 Aa c5 Aa) (wm Aa (wz Aa Aa (wz Aa Aa (wz Aa Aa (wz Aa Aa (wz Aa Aa (wv (r:=rB false) (A7 (b:=false) Aa Aa Aa) (wm Aa (wz Aa Aa (wz Aa Aa (wz Aa Aa (wz Aa Aa (wz Aa Aa (wv (r:=rB false) (A7 (b:=false) Aa Aa Aa) (wa Aa (Aj ?_)))))))))))))))))))));exact Cc c5
 refine As ?_;obtain rfl:=At h4;exact Ar (BY Tryz.results53 (AB Aa)) sN ⟨Aa,Aa⟩
theorem UO (F:Nat)(op:A0)(now:Int)(r:Ae×Int)(h:LE F op now=some r):Fn Tryz.prog GE 37 [Bq (Ay op),Ak now] [] (λR H=>R=Cs [rS r.1,Ak r.2]∧H=[]):=by
 refine enter (n:=56) Tryz.func37 Aa Tryz.ntmps37 Aa (λw Z=>?_);unfold LE at h;refine Af (Ci Aa Aa (λb1=>?_));refine wv (r:=rS ([]:Ae)) (Av Aa) (wa Aa (Ao (Ai (Af (wv (Bw (i:=0) Em C6 Aa Aa Aa Aa) (ob h λr2 e4 h3=>Cn Tryz.call43 (LG F op r2 e4) Aa (wa Aa (Bs (wm Aa (wv (CR Aa Aa) (Ao (cz h3 Aa (λc5 h6=>?_) (λc5 h7=>?_)))))))))))))
 ·refine Af (wm Aa (wv (r:=rS ([]:Ae)) (Av Aa) (wa Aa (Ao (As (Ad ?_))))));obtain rfl:=At h6;exact Ar (CS XR (AB Aa) (AB Aa)) (sS sN) ⟨Aa,Aa⟩
 ·refine Ap (AJ (Ai (AG [(1,Ak now),(2,rP b1 0),(22,rB ((decide (now<0))||(decide (1073741824<now))))] [.blk b1 (Ay op) 25] ?_ ?_)))
  ·refine Ah (wm Aa (wv (Ch Aa Aa) (wm Aa (AO (decide (now<0)) (λc8=>?_) (λc8=>?_)))))
   ·refine wf c8 (wf c8 (wv (r:=rB true) (Ax Aa c8 Aa) (Aj ?_)));exact Cc c8
   ·refine wo c8 (wm Aa (wo c8 (wv (Cv Aa Aa) (Ea Aa c8 Aa (Aj ?_)))));exact Cc c8
  refine cz h7 Aa (λc9 hk=>?_) (λc9 hl=>?_)
  ·refine Af (wv (r:=rS ([]:Ae)) (Av Aa) (wa Aa (Ao (As (Ad ?_)))));obtain rfl:=At hk;exact Ar (CS XR (AB Aa) (AB Aa)) (sS sN) ⟨Aa,Aa⟩
  ·refine Ap (AJ (Ai (ck hl λhm hn=>CK 8 [1,2] [⟨[],rP b1 0,none,none,none⟩,⟨[0],rS op.fEntity,none,none,none⟩,⟨[],rP b1 1,none,none,none⟩,⟨[2],rS op.fID,none,none,none⟩,⟨[],rP b1 2,none,none,none⟩,⟨[4],rS op.fOp,none,none,none⟩,⟨[],Ak now,none,none,none⟩,⟨[6],rS (Lib.itoa now),none,none,none⟩] ?_ (λβ=>?_))))
   ·refine Cu (AC Cw Aa CG Aa Aa) (KT (Bj (i:=0) CV Aa Aa Aa) (Cu (AC Cw Aa CG Aa Aa) (KT (Bj (i:=0) CV Aa Aa Aa) (Cu (AC Cw Aa CG Aa Aa) (KT (Bj (i:=0) CV Aa Aa Aa) (Cu (Aq Aa) (Qt (JG (rs:=[Ak now]) (r:=rS (Lib.itoa now)) Tryz.call60 Aa (On now hm) Aa) ?_)))))));exact O6
   refine Dp (H1:=[.blk b1 (Ay op) 25]) [23,24,25,26,27,28,29,30,1,2] ?_;refine AQ (ys:=([op.fEntity,op.fID,op.fOp,Lib.itoa now]:List Ae)) (enc:=eS) (css:=[[rS op.fEntity],[rS op.fID],[rS op.fOp],[rS (Lib.itoa now)]]) (xs:=[.tmp 24,.tmp 26,.tmp 28,.tmp 30]) Db CG XC Aa Aa Aa ⟨Eo.one Aa (Up.refl _),Eo.one Aa (Up.refl _),Eo.one Aa (Up.refl _),Eo.one Aa (Up.refl _),trivial⟩ Aa Gb Aa Aa Aa (λho=>?_);refine wa Aa (Ao (Ai (Af (vF Cw Aa EA (vL 1 GN Aa (wv (Bv (ys:=op.fArgs) (enc:=An) DP Aa) (wv (r:=Ak 0) (Aq Aa) (Ao (AL (ob hn λhp hq hi=>B4 (S:=Nat×((List Ae)×Int)×(Value)) (V:=((List Ae))×(Value)) 0 (λσ=>Ca (λσ=>E6 F op σ.1 σ.2) σ.1 σ.2.1=some hp) (λσ=>[(7,rv σ.2.2),(33,AX 1 (A1 An op.fArgs)),(34,Ak (op.fArgs.length:Int)),(35,Ak σ.2.1.2)]) (λσ=>[.row σ.2.2 9 1 (A1 eS σ.2.1.1)]) (λσ=>σ.1) (F,(([op.fEntity,op.fID,op.fOp,Lib.itoa now]:List Ae),0),(.slice (some ⟨ho,0,none⟩) 4 4)) hq (AM.c Aa (AM.c Aa (AM.c Aa (AM.c Aa AM.nil)))) (sC (sS sN)) (λσ=>HN F σ.1=some r) (λσ=>[(7,rv σ.2)]) (λσ=>[.row σ.2 9 1 (A1 eS σ.1)]) ?_ ?_))))))))))
   ·rintro⟨hJ,⟨ha,hd⟩,v51⟩ hr;refine Cd (l':=[(7,rv v51),(33,AX 1 (A1 An op.fArgs)),(34,Ak (op.fArgs.length:Int)),(35,Ak hd)]) (H':=[.row v51 9 1 (A1 eS ha)]) Aa Aa ?_;obtain⟨hs,rfl,t75,he,hh⟩:=Cz hr;replace he:E6 F op ha hd=some t75:=he;unfold E6 at he;refine Af (wv (Ch Aa Aa) (Ao (Ai (cz he Aa (λht hu=>?_) (λht hw=>?_)))))
    ·refine Ap (AJ (Ai (AL (Af (ck hu λhx hy=>wv (B3 (enc:=An) (ys:=op.fArgs) DP CA Aa Aa hx) (wv (Bo Ep Aa Aa) (wa Aa (Bs (wm Aa (ob hy λhb hz h0=>Cn Tryz.call61 (Ul F (Am op.fArgs hd) hb hz) Aa (wm Aa (wv (AA Aa Aa) (wv (AA Aa Aa) (wa Aa (wa Aa (Ao (Ai (Af (wm Aa (wv (CR Aa Aa) (Ao ?_)))))))))))))))))))));refine cz h0 Aa (λh1 h2=>?_) (λh1 h4=>?_)
     ·refine Af (wm Aa (wv (r:=rS ([]:Ae)) (Av Aa) (wa Aa (Ao (As (Ad (A3 (Ad (Ad (Bc ?_))))))))));have h5:=Bz h2 hh hi;refine A3 (Ad ?_);obtain rfl:=At h5;exact Ar (CS XR (AB Aa) (AB Aa)) (sS sN) ⟨Aa,Aa⟩
     ·refine Ap (AJ (Ah (wm Aa (wm Aa (AQ (ys:=([hb.1]:List Ae)) (enc:=eS) (css:=[[rS hb.1]]) (xs:=[.tmp 48]) Db CG XC Aa Aa Aa ⟨Eo.one Aa (Up.refl _),trivial⟩ Aa Gb Aa Aa Aa (λhK=>?_))))));refine ck h4 λh8 h9=>Exists.elim RC λinf hinf=>BL (xs:=ha) (ys:=([hb.1]:List Ae)) (enc:=eS) (i:=1) Db hinf.1 hinf.2.1 hinf.2.2.1 hinf.2.2.2 Aa Aa Aa Aa Aa (I5.w (i:=0) Aa Aa) Gb Oq h8 Aa (λhA=>?_);refine wa Aa (Aj (AF (AJ (Ah (ck h9 λhB hC=>wv (Bh Aa Aa hB) (wm Aa (Aj ?_)))))));have hD:=Bg hC hh;exact Au (AD (hs,(ha++([hb.1]:List Ae),hd+1),hA) ⟨hD,Abo _⟩ (AM.c Aa (AM.c Aa (AM.c Aa (AM.c Aa AM.nil)))) (sC (sS sN)))
    ·refine BB (A2 ?_);have hE:=Cb hw hh hi;exact A2 (Bn (AD (ha,v51) hE (AM.c Aa AM.nil) (sC sN)))
   ·rintro⟨hf,hj⟩ hg;refine C4 (l':=[(7,rv hj)]) (H':=[.row hj 9 1 (A1 eS hf)]) Aa Aa ?_;replace hg:HN F hf=some r:=hg;unfold HN at hg;refine Bi (AJ (Af (wm Aa (WL.freeze (i:=0) Aa (WL.up (d:=52) (r:=AX 1 (A1 eS hf)) Aa (Up.fact (i:=0) Aa) (ob hg λhG hH hI=>Cn Tryz.call62 (YH F hf hG hH) Aa (wv (AA Aa Aa) (wv (AA Aa Aa) (wa Aa (wa Aa (Ao (As ?_))))))))))));obtain rfl:=At hI;exact Ar (CS XR (AB Aa) (AB Aa)) (sS sN) ⟨Aa,Aa⟩
theorem UP (F:Nat)(rec:Ae)(r:A0×Int×Int)(h:LF F rec=some r):Fn Tryz.prog GE 39 [rS rec] [] (λR H=>R=Cs [Bq (Ay r.1),Ak r.2.1,Ak r.2.2]∧H=[]):=by
 refine enter (n:=86) Tryz.func39 Aa Tryz.ntmps39 Aa (λw Z=>?_);unfold LF at h;refine Af (Ce (cs:=[rS ([]:Ae),rS ([]:Ae),rS ([]:Ae),rv (.slice none 0 0)]) Qw Aa Aa (λb1=>?_));refine wa Aa (wa Aa (Bs (wm Aa (ob h λr2 e4 h3=>Cn Tryz.call66 (Vj F rec r2 e4) Aa (wm Aa (wv (AA Aa Aa) (wv (AA Aa Aa) (wa Aa (wa Aa (Ao (Ai (Af (wm Aa (wv (CR Aa Aa) (Ao (cz h3 Aa (λc5 h6=>?_) (λc5 h7=>?_)))))))))))))))))
 ·refine Af (wv (r:=Bq [rS ([]:Ae),rS ([]:Ae),rS ([]:Ae),rv (.slice none 0 0)]) (CZ ) (wm Aa (AP (i:=0) C6 Aa Aa Aa (Bx.c Aa) Aa Aa (cs':=[rS ([]:Ae),rS ([]:Ae),rS ([]:Ae),rv (.slice none 0 0)]) Aa (H':=[.blk b1 [rS ([]:Ae),rS ([]:Ae),rS ([]:Ae),rv (.slice none 0 0)] 25]) Aa (wa Aa (wa Aa (Ao (As (Ad (WK.upBlk (i:=0) (cs':=[rS ([]:Ae),rS ([]:Ae),rS ([]:Ae),AX 1 (A1 An ([]:List (List Ab)))]) Aa ⟨Up.refl _,Up.refl _,Up.refl _,Up.le (DZ.nil _),trivial⟩ ?_)))))))));obtain rfl:=At h6;exact Ar (MM Sd (Cy (i:=0) Em C6 Aa Aa Aa) (AB Aa) (AB Aa)) (sS sN) ⟨Aa,Aa⟩
 ·refine Ap (AJ (Ai (Af (wm Aa (wv (Bv (ys:=r2.1) (enc:=eS) Db Aa) (wv (Ch Aa Aa) (Ao (cz h7 Aa (λc8 h9=>?_) (λc8 ho=>?_)))))))))
  ·refine Af (wv (r:=Bq [rS ([]:Ae),rS ([]:Ae),rS ([]:Ae),rv (.slice none 0 0)]) (CZ ) (AP (i:=0) C6 Aa Aa Aa (Bx.c Aa) Aa Aa (cs':=[rS ([]:Ae),rS ([]:Ae),rS ([]:Ae),rv (.slice none 0 0)]) Aa (H':=[.blk b1 [rS ([]:Ae),rS ([]:Ae),rS ([]:Ae),rv (.slice none 0 0)] 25]) Aa (wa Aa (wa Aa (Ao (As (Ad (WK.upBlk (i:=0) (cs':=[rS ([]:Ae),rS ([]:Ae),rS ([]:Ae),AX 1 (A1 An ([]:List (List Ab)))]) Aa ⟨Up.refl _,Up.refl _,Up.refl _,Up.le (DZ.nil _),trivial⟩ ?_))))))));obtain rfl:=At h9;exact Ar (MM Sd (Cy (i:=0) Em C6 Aa Aa Aa) (AB Aa) (AB Aa)) (sS sN) ⟨Aa,Aa⟩
  ·refine Ap (AJ (Af (wm Aa (ck ho λhp hq=>wv (B3 (enc:=eS) (ys:=r2.1) Db CG Aa Aa hp) (wv (Bo CV Aa Aa) (ck hq λhr hs=>Hh (rs:=[rS (Am r2.1 3)]) (r:=Cs [Ak (B7 (Am r2.1 3)),Ak (BR (Am r2.1 3))]) Tryz.call67 Aa (T0 (Am r2.1 3) hr) Aa Aa (wm Aa (wv (AA Aa Aa) (wv (AA Aa Aa) (wa Aa (wa Aa (Ao (Ai (Af (wm Aa (wv (CR Aa Aa) (Ao (cz hs Aa (λht hu=>?_) (λht hw=>?_)))))))))))))))))))
   ·refine Af (wv (r:=Bq [rS ([]:Ae),rS ([]:Ae),rS ([]:Ae),rv (.slice none 0 0)]) (CZ ) (wm Aa (AP (i:=0) C6 Aa Aa Aa (Bx.c Aa) Aa Aa (cs':=[rS ([]:Ae),rS ([]:Ae),rS ([]:Ae),rv (.slice none 0 0)]) Aa (H':=[.blk b1 [rS ([]:Ae),rS ([]:Ae),rS ([]:Ae),rv (.slice none 0 0)] 25]) Aa (wa Aa (wa Aa (Ao (As (Ad (WK.upBlk (i:=0) (cs':=[rS ([]:Ae),rS ([]:Ae),rS ([]:Ae),AX 1 (A1 An ([]:List (List Ab)))]) Aa ⟨Up.refl _,Up.refl _,Up.refl _,Up.le (DZ.nil _),trivial⟩ ?_)))))))));obtain rfl:=At hu;exact Ar (MM Sd (Cy (i:=0) Em C6 Aa Aa Aa) (AB Aa) (AB Aa)) (sS sN) ⟨Aa,Aa⟩
   ·refine Ap (AJ (Ai (ck hw λg18 hx=>ck hx λhy hz=>ck hz λh0 h1=>CK 11 [2,5,7] [⟨[],AX 1 (A1 eS r2.1),none,none,none⟩,⟨[0],O5 [rS (Am r2.1 0)],none,none,none⟩,⟨[1],rS (Am r2.1 0),none,none,none⟩,⟨[],AX 1 (A1 eS r2.1),none,none,none⟩,⟨[3],O5 [rS (Am r2.1 1)],none,none,none⟩,⟨[4],rS (Am r2.1 1),none,none,none⟩,⟨[],AX 1 (A1 eS r2.1),none,none,none⟩,⟨[6],O5 [rS (Am r2.1 2)],none,none,none⟩,⟨[7],rS (Am r2.1 2),none,none,none⟩,⟨[2,5,8],Bq [rS (Am r2.1 0),rS (Am r2.1 1),rS (Am r2.1 2),rv (.slice none 0 0)],none,none,none⟩,⟨[],rv undef,some ([rS ([]:Ae),rS ([]:Ae),rS ([]:Ae),rv (.slice none 0 0)],25),none,none⟩] ?_ (λβ=>?_))))
    ·refine Cu (Aq Aa) (Cu (B3 (enc:=eS) (ys:=r2.1) Db CG Aa Aa g18) (Cu (Bo CV Aa Aa) (Cu (Aq Aa) (Cu (B3 (enc:=eS) (ys:=r2.1) Db CG Aa Aa hy) (Cu (Bo CV Aa Aa) (Cu (Aq Aa) (Cu (B3 (enc:=eS) (ys:=r2.1) Db CG Aa Aa h0) (Cu (Bo CV Aa Aa) (Cu (Jy Aa Aa Aa Aa Aa Aa) (Z3 (O2 (cs:=[rS ([]:Ae),rS ([]:Ae),rS ([]:Ae),rv (.slice none 0 0)]) Qw Aa) ?_))))))))));exact O6
    refine Dp (H1:=[.blk b1 [rS ([]:Ae),rS ([]:Ae),rS ([]:Ae),rv (.slice none 0 0)] 25,.blk (β 10) [rS ([]:Ae),rS ([]:Ae),rS ([]:Ae),rv (.slice none 0 0)] 25]) [38,39,40,41,42,43,44,45,46,47,8,2,5,7] ?_;generalize β 10=ha;refine AP (i:=1) C6 Aa Aa Aa (Bx.c Aa) Aa Aa (cs':=[rS (Am r2.1 0),rS (Am r2.1 1),rS (Am r2.1 2),rv (.slice none 0 0)]) Aa (H':=[.blk b1 [rS ([]:Ae),rS ([]:Ae),rS ([]:Ae),rv (.slice none 0 0)] 25,.blk ha [rS (Am r2.1 0),rS (Am r2.1 1),rS (Am r2.1 2),rv (.slice none 0 0)] 25]) Aa (Ao (Ai (Af (wm Aa (ck h1 λh2 h4=>wv (r:=AX 1 (A1 eS (List.drop (B6 4) r2.1))) (KU Db CG Aa Aa h2) (wv (Bv (ys:=List.drop (B6 4) r2.1) (enc:=eS) Db Aa) (wv (r:=Ak 0) (Aq Aa) (Ao (AL (WC.nilrow (e:=22) (sz:=1) (GH (H2:=[.blk b1 [rS ([]:Ae),rS ([]:Ae),rS ([]:Ae),rv (.slice none 0 0)] 25,.blk ha [rS (Am r2.1 0),rS (Am r2.1 1),rS (Am r2.1 2),rv (.slice none 0 0)] 25,.row (.slice none 0 0                      ) 22 1 (A1 An ([]:List (List Ab)))]) ((Al (i:=1) Aa).trans (Abe _ ((Al (i:=1) Aa).trans (Abe _ (Abg _))))) (ob h4 λh5 h8 hm=>B4 (S:=Nat×(Int×(List (List Ab)))×(Value)) (V:=((List (List Ab)))×(Value)) 0 (λσ=>Ca (λσ=>E7 F r2 σ.1 σ.2) σ.1 σ.2.1=some h5) (λσ=>[(2,rP b1 0),(7,Ak (B7 (Am r2.1 3))),(8,rP ha 0),(49,AX 1 (A1 eS (List.drop (B6 4) r2.1))),(50,Ak ((List.drop (B6 4) r2.1).length:Int)),(51,Ak σ.2.1.1)]) (λσ=>[.blk b1 [rS ([]:Ae),rS ([]:Ae),rS ([]:Ae),rv (.slice none 0 0)] 25,.blk ha [rS (Am r2.1 0),rS (Am r2.1 1),rS (Am r2.1 2),rv σ.2.2] 25,.row σ.2.2 22 1 (A1 An σ.2.1.2)]) (λσ=>σ.1) (F,(0,([]:List (List Ab))),(.slice none 0 0                      )) h8 (AM.c Aa (AM.c5 Aa Aa Aa Aa Aa AM.nil)) (sC (sC (sC sN))) (λσ=>HO F r2 σ.1=some r) (λσ=>[(2,rP b1 0),(7,Ak (B7 (Am r2.1 3))),(8,rP ha 0)]) (λσ=>[.blk b1 [rS ([]:Ae),rS ([]:Ae),rS ([]:Ae),rv (.slice none 0 0)] 25,.blk ha [rS (Am r2.1 0),rS (Am r2.1 1),rS (Am r2.1 2),rv σ.2] 25,.row σ.2 22 1 (A1 An σ.1)]) ?_ ?_))))))))))))
    ·rintro⟨gf,⟨hi,hg⟩,v64⟩ hA;refine Cd (l':=[(2,rP b1 0),(7,Ak (B7 (Am r2.1 3))),(8,rP ha 0),(49,AX 1 (A1 eS (List.drop (B6 4) r2.1))),(50,Ak ((List.drop (B6 4) r2.1).length:Int)),(51,Ak hi)]) (H':=[.blk b1 [rS ([]:Ae),rS ([]:Ae),rS ([]:Ae),rv (.slice none 0 0)] 25,.blk ha [rS (Am r2.1 0),rS (Am r2.1 1),rS (Am r2.1 2),rv v64] 25,.row v64 22 1 (A1 An hg)]) Aa Aa ?_;obtain⟨hB,rfl,hC,hj,hl⟩:=Cz hA;replace hj:E7 F r2 hi hg=some hC:=hj;unfold E7 at hj;refine Af (wv (Ch Aa Aa) (Ao (Ai (cz hj Aa (λhD hE=>?_) (λhD hG=>?_)))))
     ·refine Ap (AJ (Ai (AL (Af (ck hE λhH hI=>wv (B3 (enc:=eS) (ys:=List.drop (B6 4) r2.1) Db CG Aa Aa hH) (wv (Bo CV Aa Aa) (wa Aa (Bs (wm Aa (ob hI λhe hJ hK=>Cn Tryz.call68 (Um F (Am (List.drop (B6 4) r2.1) hi) he hJ) Aa (wm Aa (wv (AA Aa Aa) (wv (AA Aa Aa) (wa Aa (wa Aa (Ao (Ai (Af (wm Aa (wv (CR Aa Aa) (Ao ?_)))))))))))))))))))));refine cz hK Aa (λhL hN=>?_) (λhL hO=>?_)
      ·refine Af (wv (r:=Bq [rS ([]:Ae),rS ([]:Ae),rS ([]:Ae),rv (.slice none 0 0)]) (CZ ) (wm Aa (AP (i:=0) C6 Aa Aa Aa (Bx.c Aa) Aa Aa (cs':=[rS ([]:Ae),rS ([]:Ae),rS ([]:Ae),rv (.slice none 0 0)]) Aa (H':=[.blk b1 [rS ([]:Ae),rS ([]:Ae),rS ([]:Ae),rv (.slice none 0 0)] 25,.blk ha [rS (Am r2.1 0),rS (Am r2.1 1),rS (Am r2.1 2),rv v64] 25,.row v64 22 1 (A1 An hg)]) Aa (wa Aa (wa Aa (Ao (As (Ad (A3 (Ad (Ad (Bc ?_))))))))))));have hP:=Bz hN hl hm;refine A3 (Ad (WK.upBlk (i:=0) (cs':=[rS ([]:Ae),rS ([]:Ae),rS ([]:Ae),AX 1 (A1 An ([]:List (List Ab)))]) Aa ⟨Up.refl _,Up.refl _,Up.refl _,Up.le (DZ.nil _),trivial⟩ ?_));obtain rfl:=At hP;exact Ar (MM Sd (Cy (i:=0) Em C6 Aa Aa Aa) (AB Aa) (AB Aa)) (sS (sS (sS sN))) ⟨Aa,Aa⟩
      ·refine Ap (AJ (Ah (vF Cw Aa EA (vL 1 GN Aa (wm Aa (AQ (ys:=([he.1]:List (List Ab))) (enc:=An) (css:=[[AX 4 (A1 Ac he.1)]]) (xs:=[.tmp 66]) DP CA XH Aa Aa Aa ⟨Eo.one Aa (Up.refl _),trivial⟩ Aa CJ Aa Aa Aa (λhn=>?_)))))));refine ck hO λhQ hR=>Exists.elim SS λinf hinf=>BL (xs:=hg) (ys:=([he.1]:List (List Ab))) (enc:=An) (i:=3) DP hinf.1 hinf.2.1 hinf.2.2.1 hinf.2.2.2 Aa Aa Aa Aa Aa (I5.w (i:=0) Aa Aa) CJ GZ hQ Aa (λhh=>?_);refine vF Cw Aa EA (BC (i:=3) EA Aa Aa (Dj (i:=0) Aa) Aa Aa (cs':=[rS (Am r2.1 0),rS (Am r2.1 1),rS (Am r2.1 2),rv hh]) Aa (H':=[.row hh 22 1 (A1 An (hg++([he.1]:List (List Ab)))),.row (.slice (some ⟨hn,0,none⟩) 1 1) 22 1 (A1 An ([he.1]:List (List Ab))),.blk b1 [rS ([]:Ae),rS ([]:Ae),rS ([]:Ae),rv (.slice none 0 0)] 25,.blk ha [rS (Am r2.1 0),rS (Am r2.1 1),rS (Am r2.1 2),rv hh] 25]) Aa (Aj (AF (AJ (Ah (ck hR λhS hT=>wv (Bh Aa Aa hS) (wm Aa (Aj (BO (H2:=[.blk b1 [rS ([]:Ae),rS ([]:Ae),rS ([]:Ae),rv (.slice none 0 0)] 25,.blk ha [rS (Am r2.1 0),rS (Am r2.1 1),rS (Am r2.1 2),rv hh] 25,.row hh 22 1 (A1 An (hg++([he.1]:List (List Ab)))),.row (.slice (some ⟨hn,0,none⟩) 1 1) 22 1 (A1 An ([he.1]:List (List Ab)))]) ((Al (i:=2) Aa).trans (Abe _ ((Al (i:=2) Aa).trans (Abe _ (Abg _))))) ?_)))))))));have hU:=Bg hT hl;exact Au (AD (hB,(hi+1,hg++([he.1]:List (List Ab))),hh) ⟨hU,Abo _⟩ (AM.c Aa (AM.c5 Aa Aa Aa Aa Aa AM.nil)) (sC (sC (sC (sS sN)))))
     ·refine BB (A2 ?_);have hV:=Cb hG hl hm;exact A2 (Bn (AD (hg,v64) hV (AM.c Aa (AM.c Aa (AM.c Aa AM.nil))) (sC (sC (sC sN)))))
    ·rintro⟨hb,hd⟩ hk;refine C4 (l':=[(2,rP b1 0),(7,Ak (B7 (Am r2.1 3))),(8,rP ha 0)]) (H':=[.blk b1 [rS ([]:Ae),rS ([]:Ae),rS ([]:Ae),rv (.slice none 0 0)] 25,.blk ha [rS (Am r2.1 0),rS (Am r2.1 1),rS (Am r2.1 2),rv hd] 25,.row hd 22 1 (A1 An hb)]) Aa Aa ?_;replace hk:HO F r2 hb=some r:=hk;unfold HO at hk;refine Bi (AJ (Ai (Af (wv (Bw (i:=1) Em C6 Aa Aa Aa Aa) (WL.freeze (i:=2) Aa (WL.up (d:=71) (r:=Bq [rS (Am r2.1 0),rS (Am r2.1 1),rS (Am r2.1 2),AX 1 (A1 An hb)]) Aa (Up.agg ⟨Up.refl _,Up.refl _,Up.refl _,Up.fact (i:=0) Aa,trivial⟩) (ob hk λhW hX hY=>Cn Tryz.call43 (LG F (A0.mk (Am r2.1 0) (Am r2.1 1) (Am r2.1 2) hb) hW hX) Aa (wa Aa (Bs (wm Aa (wv (CR Aa Aa) (Ao (cz hY Aa (λhZ ga=>?_) (λhZ gb=>?_))))))))))))))
     ·refine Af (wv (r:=Bq [rS ([]:Ae),rS ([]:Ae),rS ([]:Ae),rv (.slice none 0 0)]) (CZ ) (wm Aa (AP (i:=1) C6 Aa Aa Aa (Bx.c Aa) Aa Aa (cs':=[rS ([]:Ae),rS ([]:Ae),rS ([]:Ae),rv (.slice none 0 0)]) Aa (H':=[.fact hd (AX 1 (A1 An hb)),.blk b1 [rS ([]:Ae),rS ([]:Ae),rS ([]:Ae),rv (.slice none 0 0)] 25,.blk ha [rS (Am r2.1 0),rS (Am r2.1 1),rS (Am r2.1 2),rv hd] 25]) Aa (wa Aa (wa Aa (Ao (As (Ad (WK.upBlk (i:=1) (cs':=[rS ([]:Ae),rS ([]:Ae),rS ([]:Ae),AX 1 (A1 An ([]:List (List Ab)))]) Aa ⟨Up.refl _,Up.refl _,Up.refl _,Up.le (DZ.nil _),trivial⟩ ?_)))))))));obtain rfl:=At ga;exact Ar (MM Sd (Cy (i:=1) Em C6 Aa Aa Aa) (AB Aa) (AB Aa)) (sS (sS (sS sN))) ⟨Aa,Aa⟩
     ·refine Ap (AJ (Ai (AG [(2,rP b1 0),(7,Ak (B7 (Am r2.1 3))),(8,rP ha 0),(82,rB ((decide ((B7 (Am r2.1 3))<0))||(decide (1073741824<(B7 (Am r2.1 3))))))] [.fact hd (AX 1 (A1 An hb)),.blk b1 [rS ([]:Ae),rS ([]:Ae),rS ([]:Ae),rv (.slice none 0 0)] 25,.blk ha [rS (Am r2.1 0),rS (Am r2.1 1),rS (Am r2.1 2),rv hd] 25] ?_ ?_)))
      ·refine Ah (wm Aa (wv (Ch Aa Aa) (wm Aa (AO (decide ((B7 (Am r2.1 3))<0)) (λhf=>?_) (λhf=>?_)))))
       ·refine wf hf (wf hf (wv (r:=rB true) (Ax Aa hf Aa) (Aj ?_)));exact Cc hf
       ·refine wo hf (wm Aa (wo hf (wv (Cv Aa Aa) (Ea Aa hf Aa (Aj ?_)))));exact Cc hf
      refine cz gb Aa (λgc gd=>?_) (λgc ge=>?_)
      ·refine Af (wv (r:=Bq [rS ([]:Ae),rS ([]:Ae),rS ([]:Ae),rv (.slice none 0 0)]) (CZ ) (AP (i:=1) C6 Aa Aa Aa (Bx.c Aa) Aa Aa (cs':=[rS ([]:Ae),rS ([]:Ae),rS ([]:Ae),rv (.slice none 0 0)]) Aa (H':=[.fact hd (AX 1 (A1 An hb)),.blk b1 [rS ([]:Ae),rS ([]:Ae),rS ([]:Ae),rv (.slice none 0 0)] 25,.blk ha [rS (Am r2.1 0),rS (Am r2.1 1),rS (Am r2.1 2),rv hd] 25]) Aa (wa Aa (wa Aa (Ao (As (Ad (WK.upBlk (i:=1) (cs':=[rS ([]:Ae),rS ([]:Ae),rS ([]:Ae),AX 1 (A1 An ([]:List (List Ab)))]) Aa ⟨Up.refl _,Up.refl _,Up.refl _,Up.le (DZ.nil _),trivial⟩ ?_))))))));obtain rfl:=At gd;exact Ar (MM Sd (Cy (i:=1) Em C6 Aa Aa Aa) (AB Aa) (AB Aa)) (sS (sS (sS sN))) ⟨Aa,Aa⟩
      ·refine Ap (AJ (Af (wv (Bw (i:=2) Em C6 Aa Aa Aa Aa) (wm Aa (WL.up (d:=84) (r:=Bq [rS (Am r2.1 0),rS (Am r2.1 1),rS (Am r2.1 2),AX 1 (A1 An hb)]) Aa (Up.agg ⟨Up.refl _,Up.refl _,Up.refl _,Up.fact (i:=0) Aa,trivial⟩) (AP (i:=1) C6 Aa Aa Aa (Bx.c Aa) Aa Aa (cs':=[rS (Am r2.1 0),rS (Am r2.1 1),rS (Am r2.1 2),AX 1 (A1 An hb)]) Aa (H':=[.fact hd (AX 1 (A1 An hb)),.blk b1 [rS (Am r2.1 0),rS (Am r2.1 1),rS (Am r2.1 2),AX 1 (A1 An hb)] 25,.blk ha [rS (Am r2.1 0),rS (Am r2.1 1),rS (Am r2.1 2),rv hd] 25]) Aa (wa Aa (wa Aa (Ao (As ?_))))))))));obtain rfl:=At ge;exact Ar (MM Sd (Cy (i:=1) Em C6 Aa Aa Aa) (AB Aa) (AB Aa)) (sS (sS (sS sN))) ⟨Aa,Aa⟩
end Go.Proofs.YtogdediiodmnbaaGreatDoor.Q
namespace Go.Proofs.YtogdediiodmnbaaGreatDoor
open Go
set_option linter.unusedVariables false
structure RW where
 fTime:Int
 fL:(List AV)
 deriving DecidableEq,Inhabited
structure YT where
 fKind:Int
 fOp:A0
 fNow:Int
 deriving DecidableEq,Inhabited
def L4 (op:Ae):Option (Int):=
 Bl (decide (op=([114,101,97,100]:Ae))) (some 0) (Bl (decide (op=([119,114,105,116,101]:Ae))) (some 1) (Bl (decide (op=([97,100,100]:Ae))) (some 1) (Bl (decide (op=([99,97,115]:Ae))) (some 2) (some (-1)))))
def Gj (F:Nat)(op:A0)(ha:Int):Option (Stp (Int) (Out (Int) (Unit))):=
 Bl (decide (ha<(op.fArgs.length:Int))) (AY (Cp ha (op.fArgs.length:Int))<|B0 (KQ F (Am op.fArgs ha)) λhb=>Bl (!decide (hb=0)) (some (.out (.ret hb))) (AY (B2 .i64 (ha+1))<|some (.next (ha+1)))) (some (.out (.go ())))
def Id :Option (Int):=
 some 0
def HJ (F:Nat)(op:A0):Option (Int):=
 B0 (L4 op.fOp) λr2=>AY ((La F op.fEntity).isSome)<|AY (imp (!(!(ov (La F op.fEntity)))) ((La F op.fID).isSome))<|Bl (((!(ov (La F op.fEntity)))||((!(ov (La F op.fID)))||(decide (r2<0))))) (some 4) (Bl (!decide ((op.fArgs.length:Int)=r2)) (some 7) (B0 (Ca (λσ=>Gj F op σ) F 0) (BT λν=>Id )))
def GC (F:Nat)(a:A0)(b:A0)(ha:Int):Option (Stp (Int) (Out (Bool) (Unit))):=
 Bl (decide (ha<(a.fArgs.length:Int))) (AY (Cp ha (a.fArgs.length:Int))<|AY (Cp ha (b.fArgs.length:Int))<|B0 (QU F (Am a.fArgs ha) (Am b.fArgs ha)) λhb=>Bl (!hb) (some (.out (.ret false))) (AY (B2 .i64 (ha+1))<|some (.next (ha+1)))) (some (.out (.go ())))
def Jd :Option (Bool):=
 some true
def GI (F:Nat)(a:A0)(b:A0):Option (Bool):=
 Bl (((!decide (a.fEntity=b.fEntity))||((!decide (a.fID=b.fID))||((!decide (a.fOp=b.fOp))||(!decide ((a.fArgs.length:Int)=(b.fArgs.length:Int))))))) (some false) (B0 (Ca (λσ=>GC F a b σ) F 0) (BT λν=>Jd ))
def D2 (F:Nat)(op:A0)(hb:(List Ae))(ha:Int):Option (Stp ((List Ae)×Int) (Out (Ae×Int) ((List Ae)))):=
 Bl (decide (ha<(op.fArgs.length:Int))) (AY (Cp ha (op.fArgs.length:Int))<|B0 (L0 F (Am op.fArgs ha)) λhd=>AY (Dz 16 (hb.length+([hd.1]:List Ae).length))<|AY (B2 .i64 (ha+1))<|some (.next (hb++([hd.1]:List Ae),ha+1))) (some (.out (.go hb)))
def Gt (F:Nat)(hb:(List Ae)):Option (Ae×Int):=
 B0 (NO F hb) λha=>some (ha.1,ha.2)
def II (F:Nat)(op:A0)(now:Int):Option (Ae×Int):=
 B0 (HJ F op) λr2=>Bl (!decide (r2=0)) (some (([]:Ae),r2)) (Bl (((decide (now<0))||(decide (1073741824<now)))) (some (([]:Ae),2)) (AY (B2 .i64 now)<|B0 (Ca (λσ=>D2 F op σ.1 σ.2) F (([op.fEntity,op.fID,op.fOp,Lib.itoa now]:List Ae),0)) (BT λν=>Gt F ν)))
def D3 (F:Nat)(r2:(List Ae)×Int)(ha:Int)(hd:(List (List Ab))):Option (Stp (Int×(List (List Ab))) (Out (A0×Int×Int) ((List (List Ab))))):=
 Bl (decide (ha<(r2.1.length:Int))) (AY (Cp ha (r2.1.length:Int))<|B0 (L2 F (Am r2.1 ha)) λhb=>Bl (!decide (hb.2=0)) (some (.out (.ret ((A0.mk ([]:Ae) ([]:Ae) ([]:Ae) ([]:List (List Ab))),0,hb.2)))) (AY (Dz 24 (hd.length+([hb.1]:List (List Ab)).length))<|AY (B2 .i64 (ha+1))<|some (.next (ha+1,hd++([hb.1]:List (List Ab)))))) (some (.out (.go hd)))
def Gu (F:Nat)(r2:(List Ae)×Int)(hb:(List (List Ab))):Option (A0×Int×Int):=
 B0 (HJ F (A0.mk (Am r2.1 0) (Am r2.1 1) (Am r2.1 2) hb)) λha=>Bl (((decide (ha=0))&&((decide ((B7 (Am r2.1 3))<0))||(decide (1073741824<(B7 (Am r2.1 3))))))) (some ((A0.mk ([]:Ae) ([]:Ae) ([]:Ae) ([]:List (List Ab))),0,2)) (Bl (!decide (ha=0)) (some ((A0.mk ([]:Ae) ([]:Ae) ([]:Ae) ([]:List (List Ab))),0,ha)) (some ((A0.mk (Am r2.1 0) (Am r2.1 1) (Am r2.1 2) hb),B7 (Am r2.1 3),0)))
def IJ (F:Nat)(rec:Ae):Option (A0×Int×Int):=
 B0 (JE F rec) λr2=>Bl (!decide (r2.2=0)) (some ((A0.mk ([]:Ae) ([]:Ae) ([]:Ae) ([]:List (List Ab))),0,r2.2)) (Bl (decide ((r2.1.length:Int)<4)) (some ((A0.mk ([]:Ae) ([]:Ae) ([]:Ae) ([]:List (List Ab))),0,13)) (AY (Cp 3 (r2.1.length:Int))<|AY (Dz 1 (Am r2.1 3).length)<|Bl (!decide ((BR (Am r2.1 3))=0)) (some ((A0.mk ([]:Ae) ([]:Ae) ([]:Ae) ([]:List (List Ab))),0,BR (Am r2.1 3))) (AY (Cp 0 (r2.1.length:Int))<|AY (Cp 1 (r2.1.length:Int))<|AY (Cp 2 (r2.1.length:Int))<|B0 (Ca (λσ=>D3 F r2 σ.1 σ.2) F (4,([]:List (List Ab)))) (BT λν=>Gu F r2 ν))))
def Oj (id:Ae)(n:Int):Option (A0):=
 some (A0.mk ([120]:Ae) id ([97,100,100]:Ae) ([([(Ab.mk 3 n ([]:Ae) 0)]:List Ab)]:List (List Ab)))
def Kt (a:(List Ae))(b:(List Ae))(ha:Int):Option (Stp (Int) (Out (Bool) (Unit))):=
 Bl (decide (ha<(a.length:Int))) (AY (Cp ha (a.length:Int))<|AY (Cp ha (b.length:Int))<|Bl (!decide ((Am a ha)=(Am b ha))) (some (.out (.ret false))) (AY (B2 .i64 (ha+1))<|some (.next (ha+1)))) (some (.out (.go ())))
def Ks :Option (Bool):=
 some true
def PW (F:Nat)(a:(List Ae))(b:(List Ae)):Option (Bool):=
 Bl (!decide ((a.length:Int)=(b.length:Int))) (some false) (B0 (Ca (λσ=>Kt a b σ) F 0) (BT λν=>Ks ))
def H5 (v:(List Ab))(ha:Int):Option (Stp (Int) (Out (Bool) (Unit))):=
 Bl (decide (ha<(v.length:Int))) (AY (Cp ha (v.length:Int))<|Bl (decide (250<(((Am v ha).fStr).length:Int))) (some (.out (.ret false))) (AY (B2 .i64 (ha+1))<|some (.next (ha+1)))) (some (.out (.go ())))
def Kv :Option (Bool):=
 some true
def Og (F:Nat)(v:(List Ab)):Option (Bool):=
 Bl (decide (100<(v.length:Int))) (some false) (B0 (Ca (λσ=>H5 v σ) F 0) (BT λν=>Kv ))
def H4 (F:Nat)(op:A0)(ha:Int):Option (Stp (Int) (Out (Bool) (Unit))):=
 Bl (decide (ha<(op.fArgs.length:Int))) (AY (Cp ha (op.fArgs.length:Int))<|B0 (Og F (Am op.fArgs ha)) λhb=>Bl (!hb) (some (.out (.ret false))) (AY (B2 .i64 (ha+1))<|some (.next (ha+1)))) (some (.out (.go ())))
def Ku :Option (Bool):=
 some true
def Jo (F:Nat)(op:A0):Option (Bool):=
 Bl (((decide (100<(op.fEntity.length:Int)))||((decide (100<(op.fID.length:Int)))||((decide (100<(op.fOp.length:Int)))||(decide (4<(op.fArgs.length:Int))))))) (some false) (B0 (Ca (λσ=>H4 F op σ) F 0) (BT λν=>Ku ))
end Go.Proofs.YtogdediiodmnbaaGreatDoor
namespace Go.Proofs.YtogdediiodmnbaaGreatDoor.Q
open Go Go.RowKit
set_option linter.unusedVariables false
set_option linter.unusedSimpArgs false
set_option maxRecDepth 100000
set_option maxHeartbeats 4000000
theorem ZE:∃inf,Tryz.prog.info? 44=some inf∧inf.zero=some (.agg #[(.string ⟨#[]⟩),(.string ⟨#[]⟩),(.string ⟨#[]⟩),(.slice none 0 0),(.int .i64 0),(.slice none 0 0),(.int .i64 0),(.int .i64 0)])∧inf.size=8∧inf.bytes=120:=by
  have key:(Tryz.prog.info? 44).map (λi=>(i.zero,i.size,i.bytes))=some (some (.agg #[(.string ⟨#[]⟩),(.string ⟨#[]⟩),(.string ⟨#[]⟩),(.slice none 0 0),(.int .i64 0),(.slice none 0 0),(.int .i64 0),(.int .i64 0)]),8,120):=by kernel_rfl
  obtain⟨inf,h1,h2⟩:=Option.map_eq_some_iff.1 key;simp only[Prod.mk.injEq] at h2;exact⟨inf,h1,h2.1,h2.2.1,h2.2.2⟩
theorem L9 {n:Nat}{c:Cx}{l:Fr}{H:List Ent}{d:Option Nat}{ty:TypeId}{pos:String}{af:Array Edge}{g:Option (Nat×Bool)}{x0:Operand}{r0:Rp}(h0:ev l x0=some r0)(u0:r0.one=true){x1:Operand}{r1:Rp}(h1:ev l x1=some r1)(u1:r1.one=true){x2:Operand}{r2:Rp}(h2:ev l x2=some r2)(u2:r2.one=true){x3:Operand}{r3:Rp}(h3:ev l x3=some r3)(u3:r3.one=true):B1 Tryz.prog n c l H { dst:=d,op:=.build 25 #[(0,x0),(1,x1),(2,x2),(3,x3)],type:=ty,pos:=pos,after:=af,guard:=g } (Bq [r0,r1,r2,r3]):=λa w Z ha _=>by
  have p0:=ha.ev h0;have c0:=BM (r0.hone u0 Z _ p0);have p1:=ha.ev h1;have c1:=BM (r1.hone u1 Z _ p1);have p2:=ha.ev h2;have c2:=BM (r2.hone u2 Z _ p2);have p3:=ha.ev h3;have c3:=BM (r3.hone u3 Z _ p3);have hb:Tryz.prog.built 25 [(0,a.eval x0),(1,a.eval x1),(2,a.eval x2),(3,a.eval x3)]=some #[a.eval x0,a.eval x1,a.eval x2,a.eval x3]:=by
    rw[Qj];generalize a.eval x0=v0 at *;generalize a.eval x1=v1 at *;generalize a.eval x2=v2 at *;generalize a.eval x3=v3 at *;simp[Instr.fill,c0,c1,c2,c3]
  refine⟨.agg #[a.eval x0,a.eval x1,a.eval x2,a.eval x3],⟨[a.eval x0,a.eval x1,a.eval x2,a.eval x3],rfl,p0,p1,p2,p3,trivial⟩,?_⟩;have:=run_build w 25 #[(0,a.eval x0),(1,a.eval x1),(2,a.eval x2),(3,a.eval x3)] _ (by simpa using hb);simp[execOp,this]
theorem TS (parts:List (Nat×Value)):Tryz.prog.built 44 parts=Instr.fill (λi=>(#[(0,4),(4,2),(6,1),(7,1)]:Array (Nat×Nat))[i]?) #[(.string ⟨#[]⟩),(.string ⟨#[]⟩),(.string ⟨#[]⟩),((.slice none 0 0)),(.int .i64 0),((.slice none 0 0)),(.int .i64 0),(.int .i64 0)] parts:=by kernel_rfl
theorem Jl {n:Nat}{c:Cx}{l:Fr}{H:List Ent}{d:Option Nat}{ty:TypeId}{pos:String}{af:Array Edge}{g:Option (Nat×Bool)}:B1 Tryz.prog n c l H { dst:=d,op:=.build 44 #[],type:=ty,pos:=pos,after:=af,guard:=g } (Bq [rS ([]:Ae),rS ([]:Ae),rS ([]:Ae),rv (.slice none 0 0),Ak 0,rv (.slice none 0 0),Ak 0,Ak 0]):=λa w Z ha _=>by
  have hb:Tryz.prog.built 44 []=some #[(.string ⟨#[]⟩),(.string ⟨#[]⟩),(.string ⟨#[]⟩),((.slice none 0 0)),(.int .i64 0),((.slice none 0 0)),(.int .i64 0),(.int .i64 0)]:=by
    rw[TS];simp[Instr.fill,Value.cells]
  refine⟨.agg #[(.string ⟨#[]⟩),(.string ⟨#[]⟩),(.string ⟨#[]⟩),((.slice none 0 0)),(.int .i64 0),((.slice none 0 0)),(.int .i64 0),(.int .i64 0)],⟨[(.string ⟨#[]⟩),(.string ⟨#[]⟩),(.string ⟨#[]⟩),((.slice none 0 0)),(.int .i64 0),((.slice none 0 0)),(.int .i64 0),(.int .i64 0)],rfl,rfl,rfl,rfl,rfl,rfl,rfl,rfl,rfl,trivial⟩,?_⟩;have:=run_build w 44 #[] _ (by simpa using hb);simp[execOp,this]
theorem Jx {n:Nat}{c:Cx}{l:Fr}{H:List Ent}{d:Option Nat}{ty:TypeId}{pos:String}{af:Array Edge}{g:Option (Nat×Bool)}{x0:Operand}{r0_0 r0_1 r0_2 r0_3:Rp}(h0:ev l x0=some (Bq [r0_0,r0_1,r0_2,r0_3])){x2:Operand}{r2:Rp}(h2:ev l x2=some r2)(u2:r2.one=true){x3:Operand}{r3:Rp}(h3:ev l x3=some r3)(u3:r3.one=true):B1 Tryz.prog n c l H { dst:=d,op:=.build 44 #[(0,x0),(2,x2),(3,x3)],type:=ty,pos:=pos,after:=af,guard:=g } (Bq [r0_0,r0_1,r0_2,r0_3,Ak 0,rv (.slice none 0 0),r2,r3]):=λa w Z ha _=>by
  obtain⟨us0,e0,q0⟩:=ha.ev h0;obtain⟨y0_0,y0_1,y0_2,y0_3,rfl,q0⟩:=Bt.d4 q0;have p2:=ha.ev h2;have c2:=BM (r2.hone u2 Z _ p2);have p3:=ha.ev h3;have c3:=BM (r3.hone u3 Z _ p3);have cg:∀cs:Array Value,(Value.agg cs).cells=cs:=λ_=>rfl;have hb:Tryz.prog.built 44 [(0,a.eval x0),(2,a.eval x2),(3,a.eval x3)]=some #[y0_0,y0_1,y0_2,y0_3,(.int .i64 0),((.slice none 0 0)),a.eval x2,a.eval x3]:=by
    rw[TS];generalize a.eval x2=v2 at *;generalize a.eval x3=v3 at *;simp[Instr.fill,e0,c2,c3,cg]
  refine⟨.agg #[y0_0,y0_1,y0_2,y0_3,(.int .i64 0),((.slice none 0 0)),a.eval x2,a.eval x3],⟨[y0_0,y0_1,y0_2,y0_3,(.int .i64 0),((.slice none 0 0)),a.eval x2,a.eval x3],rfl,q0.1,q0.2.1,q0.2.2.1,q0.2.2.2.1,rfl,rfl,p2,p3,trivial⟩,?_⟩;have:=run_build w 44 #[(0,a.eval x0),(2,a.eval x2),(3,a.eval x3)] _ (by simpa using hb);simp[execOp,this]
theorem UA (op:Ae)(r:Int)(h:L4 op=some r):Fn Tryz.prog GE 81 [rS op] [] (λR H=>R=Ak r∧H=[]):=by
 refine enter (n:=11) Tryz.func81 Aa Tryz.ntmps81 Aa (λw Z=>?_);unfold L4 at h;refine Af (wa Aa (Ao (Ai (Af (wm Aa (Ao (AL (Af (wv (DN Aa Aa) (wa Aa (Ao (cz h Aa (λc1 h2=>?_) (λc1 h3=>?_)))))))))))))
 ·refine Af (wa Aa (Ao (As (A3 (Ad ?_)))));obtain rfl:=At h2;exact Ar (BY V4 (AB Aa)) sN ⟨Aa,Aa⟩
 ·refine Ai (Af (wv (DN Aa Aa) (wa Aa (Ao (cz h3 Aa (λc4 h5=>?_) (λc4 h6=>?_))))))
  ·refine Ap (AJ (Ef Aa c4 (Af (wa Aa (Ao (As (A3 (Ad ?_))))))));obtain rfl:=At h5;exact Ar (BY V4 (AB Aa)) sN ⟨Aa,Aa⟩
  ·refine Ah (wv (DN Aa Aa) (wa Aa (Ao (cz h6 Aa (λc7 h8=>?_) (λc7 h9=>?_)))))
   ·refine Af (wa Aa (Ao (As (A3 (Ad ?_)))));obtain rfl:=At h8;exact Ar (BY V4 (AB Aa)) sN ⟨Aa,Aa⟩
   ·refine Af (wv (DN Aa Aa) (wa Aa (Ao (cz h9 Aa (λha hb=>?_) (λha hd=>?_)))))
    ·refine Af (wa Aa (Ao (As (A3 (Ad ?_)))));obtain rfl:=At hb;exact Ar (BY V4 (AB Aa)) sN ⟨Aa,Aa⟩
    ·refine Ap (AF (AJ (Af (wv (r:=Ak (-1)) (Av Aa) (Ao (As ?_))))));obtain rfl:=At hd;exact Ar (BY V4 (AB Aa)) sN ⟨Aa,Aa⟩
theorem NN (F:Nat)(op:A0)(r:Int)(h:HJ F op=some r):Fn Tryz.prog GE 47 [Bq (Ay op)] [] (λR H=>R=Ak r∧H=[]):=by
 refine enter (n:=44) Tryz.func47 Aa Tryz.ntmps47 Aa (λw Z=>?_);unfold HJ at h;refine Af (Ci Aa Aa (λb1=>?_));refine wa Aa (Bs (vF Cw Aa CG (vL 0 CV Aa (ob h λr2 e4 h3=>Cn Tryz.call81 (UA op.fOp r2 e4) Aa (wa Aa (Ao (Ai (ck h3 λg5 h6=>ck h6 λg7 h8=>AG [(1,rP b1 0),(3,Ak r2),(22,rB ((!(ov (La F op.fEntity)))||((!(ov (La F op.fID)))||(decide (r2<0)))))] [.blk b1 (Ay op) 25] ?_ ?_))))))))
 ·refine Ah (vF Cw Aa CG (vL 0 CV Aa (Cn Tryz.call82 (WX F op.fEntity (ov (La F op.fEntity)) (GQ g5)) Aa (wv (BW Aa) (wm Aa (AO (!(ov (La F op.fEntity))) (λc9=>?_) (λc9=>?_)))))))
  ·refine wf c9 (wf c9 (wf c9 (wf c9 (wv (r:=rB true) (Ax Aa c9 Aa) (wm Aa (wz Aa Aa (wz Aa Aa (wv (r:=rB true) (Ax (b:=true) Aa Aa Aa) (Aj ?_)))))))));exact Cc c9
  ·refine wo c9 (vF Cw Aa CG (wo c9 (vL 0 CV Aa (wo c9 (Cn Tryz.call82 (WX F op.fID (ov (La F op.fID)) (GQ (Dw g7 c9))) Aa (wo c9 (wv (BW Aa) (Ea Aa c9 Aa (wm Aa (AO (!(ov (La F op.fID))) (λha=>?_) (λha=>?_)))))))))))
   ·refine wf ha (wf ha (wv (r:=rB true) (Ax Aa ha Aa) (Aj ?_)));exact Cc (And.intro c9 ha)
   ·refine wo ha (wm Aa (wo ha (wv (Ch Aa Aa) (Ea Aa ha Aa (Aj ?_)))));exact Cc (And.intro c9 ha)
 refine cz h8 Aa (λhh hi=>?_) (λhh hj=>?_)
 ·refine Af (wa Aa (Ao (As (Ad ?_))));obtain rfl:=At hi;exact Ar (BY XO (AB Aa)) (sS sN) ⟨Aa,Aa⟩
 ·refine Ap (AJ (Ai (Af (vF Cw Aa EA (vL 0 GN Aa (wv (Bv (ys:=op.fArgs) (enc:=An) DP Aa) (wm Aa (wv (CR Aa Aa) (Ao (cz hj Aa (λhk hl=>?_) (λhk hm=>?_)))))))))))
  ·refine Af (wa Aa (Ao (As (Ad ?_))));obtain rfl:=At hl;exact Ar (BY XO (AB Aa)) (sS sN) ⟨Aa,Aa⟩
  ·refine Ap (AJ (Ai (Af (wa Aa (Ao (AL (ob hm λhn ho hg=>B4 (S:=Nat×(Int)×(Unit)) (V:=(Unit)×(Unit)) 0 (λσ=>Ca (λσ=>Gj F op σ) σ.1 σ.2.1=some hn) (λσ=>[(1,rP b1 0),(4,Ak σ.2.1)]) (λσ=>[.blk b1 (Ay op) 25]) (λσ=>σ.1) (F,0,()) ho (AM.c Aa (AM.c Aa AM.nil)) (sC sN) (λσ=>Id =some r) (λσ=>[]) (λσ=>[]) ?_ ?_)))))))
   ·rintro⟨hC,hb,⟨⟩⟩ hp;refine Cd (l':=[(1,rP b1 0),(4,Ak hb)]) (H':=[.blk b1 (Ay op) 25]) Aa Aa ?_;obtain⟨hq,rfl,hr,hd,hf⟩:=Cz hp;replace hd:Gj F op hb=some hr:=hd;unfold Gj at hd;refine Ai (Af (wm Aa (vF Cw Aa EA (vL 0 GN Aa (wv (Bv (ys:=op.fArgs) (enc:=An) DP Aa) (wv (Ch Aa Aa) (Ao (cz hd Aa (λhs ht=>?_) (λhs hu=>?_)))))))))
    ·refine Ap (AJ (Ai (AL (Af (vF Cw Aa EA (vL 0 GN Aa (wm Aa (ck ht λhw hx=>wv (B3 (enc:=An) (ys:=op.fArgs) DP CA Aa Aa hw) (wv (Bo Ep Aa Aa) (ob hx λhy hz h0=>Cn Tryz.call48 (NM F (Am op.fArgs hb) hy hz) Aa (wa Aa (Bs (wm Aa (wv (CR Aa Aa) (Ao (cz h0 Aa (λh1 h2=>?_) (λh1 h4=>?_)))))))))))))))))
     ·refine Af (wm Aa (wa Aa (Ao (As (A3 (Ad (Ad (Bc ?_))))))));have h5:=Bz h2 hf hg;refine A3 (Ad ?_);obtain rfl:=At h5;exact Ar (BY XO (AB Aa)) (sS sN) ⟨Aa,Aa⟩
     ·refine Ap (AF (AJ (Ah (wm Aa (ck h4 λh7 h9=>wv (Bh Aa Aa h7) (wa Aa (Aj ?_)))))));have hA:=Bg h9 hf;exact Au (AD (hq,hb+1,()) ⟨hA,Abo _⟩ (AM.c Aa (AM.c Aa AM.nil)) (sC sN))
    ·refine BB (A2 ?_);have hB:=Cb hu hf hg;exact A2 (Bn (AD ((),()) hB AM.nil (sS sN)))
   ·rintro⟨⟨⟩,⟨⟩⟩ he;refine C4 (l':=[]) (H':=[]) Aa Aa ?_;replace he:Id =some r:=he;unfold Id at he;refine Bi (AJ (Af (wa Aa (Ao (As ?_)))));obtain rfl:=At he;exact Ar (BY XO (AB Aa)) sN ⟨Aa,Aa⟩
theorem Uw (F:Nat)(a:A0)(b:A0)(r:Bool)(h:GI F a b=some r):Fn Tryz.prog GE 41 [Bq (Ay a),Bq (Ay b)] [] (λR H=>R=rB r∧H=[]):=by
 refine enter (n:=53) Tryz.func41 Aa Tryz.ntmps41 Aa (λw Z=>?_);unfold GI at h;refine Af (Ci Aa Aa (λb1=>?_));refine Ci Aa Aa (λb2=>?_);refine wa Aa (Ao (Ai (AG [(2,rP b1 0),(3,rP b2 0),(33,rB ((!decide (a.fEntity=b.fEntity))||((!decide (a.fID=b.fID))||((!decide (a.fOp=b.fOp))||(!decide ((a.fArgs.length:Int)=(b.fArgs.length:Int)))))))] [.blk b2 (Ay b) 25,.blk b1 (Ay a) 25] ?_ ?_)))
 ·refine Ah (vF Cw Aa CG (vL 1 CV Aa (vF Cw Aa CG (vL 0 CV Aa (wv (NR Aa Aa) (wm Aa (AO (!decide (a.fEntity=b.fEntity)) (λc3=>?_) (λc3=>?_))))))))
  ·refine wf c3 (wf c3 (wf c3 (wf c3 (wf c3 (wv (r:=rB true) (Ax Aa c3 Aa) (wm Aa (wz Aa Aa (wz Aa Aa (wz Aa Aa (wz Aa Aa (wz Aa Aa (wv (r:=rB true) (Ax (b:=true) Aa Aa Aa) (wm Aa (wz Aa Aa (wz Aa Aa (wz Aa Aa (wz Aa Aa (wz Aa Aa (wz Aa Aa (wz Aa Aa (wv (r:=rB true) (Ax (b:=true) Aa Aa Aa) (Aj ?_))))))))))))))))))))));exact Cc c3
  ·refine wo c3 (vF Cw Aa CG (wo c3 (vL 1 CV Aa (wo c3 (vF Cw Aa CG (wo c3 (vL 0 CV Aa (wo c3 (wv (NR Aa Aa) (Ea Aa c3 Aa (wm Aa (AO (!decide (a.fID=b.fID)) (λc4=>?_) (λc4=>?_)))))))))))))
   ·refine wf c4 (wf c4 (wf c4 (wf c4 (wf c4 (wv (r:=rB true) (Ax Aa c4 Aa) (wm Aa (wz Aa Aa (wz Aa Aa (wz Aa Aa (wz Aa Aa (wz Aa Aa (wz Aa Aa (wz Aa Aa (wv (r:=rB true) (Ax (b:=true) Aa Aa Aa) (Aj ?_)))))))))))))));exact Cc (And.intro c3 c4)
   ·refine wo c4 (vF Cw Aa CG (wo c4 (vL 1 CV Aa (wo c4 (vF Cw Aa CG (wo c4 (vL 0 CV Aa (wo c4 (wv (NR Aa Aa) (Ea Aa c4 Aa (wm Aa (AO (!decide (a.fOp=b.fOp)) (λc5=>?_) (λc5=>?_)))))))))))))
    ·refine wf c5 (wf c5 (wf c5 (wf c5 (wf c5 (wf c5 (wf c5 (wv (r:=rB true) (Ax Aa c5 Aa) (Aj ?_))))))));exact Cc (And.intro c3 (And.intro c4 c5))
    ·refine wo c5 (vF Cw Aa EA (wo c5 (vL 1 GN Aa (wo c5 (wv (Bv (ys:=a.fArgs) (enc:=An) DP Aa) (wo c5 (vF Cw Aa EA (wo c5 (vL 0 GN Aa (wo c5 (wv (Bv (ys:=b.fArgs) (enc:=An) DP Aa) (wo c5 (wv (CR Aa Aa) (Ea Aa c5 Aa (Aj ?_)))))))))))))));exact Cc (And.intro c3 (And.intro c4 c5))
 refine cz h Aa (λc6 h7=>?_) (λc6 h8=>?_)
 ·refine Af (wa Aa (Ao (As (Ad ?_))));obtain rfl:=At h7;exact Ar (BY Tryz.results41 (AB Aa)) (sS (sS sN)) ⟨Aa,Aa⟩
 ·refine Ap (AJ (Ai (Af (wa Aa (Ao (AL (ob h8 λhg hh hf=>B4 (S:=Nat×(Int)×(Unit)) (V:=(Unit)×(Unit)) 0 (λσ=>Ca (λσ=>GC F a b σ) σ.1 σ.2.1=some hg) (λσ=>[(2,rP b1 0),(3,rP b2 0),(5,Ak σ.2.1)]) (λσ=>[.blk b2 (Ay b) 25,.blk b1 (Ay a) 25]) (λσ=>σ.1) (F,0,()) hh (AM.c Aa (AM.c Aa (AM.c Aa AM.nil))) (sC (sC sN)) (λσ=>Jd =some r) (λσ=>[]) (λσ=>[]) ?_ ?_)))))))
  ·rintro⟨h3,ha,⟨⟩⟩ hi;refine Cd (l':=[(2,rP b1 0),(3,rP b2 0),(5,Ak ha)]) (H':=[.blk b2 (Ay b) 25,.blk b1 (Ay a) 25]) Aa Aa ?_;obtain⟨hj,rfl,t57,hb,he⟩:=Cz hi;replace hb:GC F a b ha=some t57:=hb;unfold GC at hb;refine Ai (Af (wm Aa (vF Cw Aa EA (vL 1 GN Aa (wv (Bv (ys:=a.fArgs) (enc:=An) DP Aa) (wv (Ch Aa Aa) (Ao (cz hb Aa (λhk hl=>?_) (λhk hm=>?_)))))))))
   ·refine Ap (AJ (Ai (AL (Ai (ck hl λhn ho=>ck ho λhp hq=>CK 10 [2,3,5] [⟨[],rP b1 3,none,none,none⟩,⟨[0],AX 1 (A1 An a.fArgs),none,none,none⟩,⟨[],Ak ha,none,none,none⟩,⟨[1,2],O5 [AX 4 (A1 Ac (Am a.fArgs ha))],none,none,none⟩,⟨[3],AX 4 (A1 Ac (Am a.fArgs ha)),none,none,none⟩,⟨[],rP b2 3,none,none,none⟩,⟨[5],AX 1 (A1 An b.fArgs),none,none,none⟩,⟨[],Ak ha,none,none,none⟩,⟨[6,7],O5 [AX 4 (A1 Ac (Am b.fArgs ha))],none,none,none⟩,⟨[8],AX 4 (A1 Ac (Am b.fArgs ha)),none,none,none⟩] ?_ (λβ=>?_))))))
    ·refine Cu (AC Cw Aa EA Aa Aa) (KT (Bj (i:=1) GN Aa Aa Aa) (Cu (Aq Aa) (Cu (B3 (enc:=An) (ys:=a.fArgs) DP CA Aa Aa hn) (Cu (Bo Ep Aa Aa) (Cu (AC Cw Aa EA Aa Aa) (KT (Bj (i:=0) GN Aa Aa Aa) (Cu (Aq Aa) (Cu (B3 (enc:=An) (ys:=b.fArgs) DP CA Aa Aa hp) (Cu (Bo Ep Aa Aa) ?_)))))))));exact O6
    refine Dp (H1:=[.blk b2 (Ay b) 25,.blk b1 (Ay a) 25]) [41,42,43,44,45,46,47,48,49,50,2,3,5] ?_;refine ob hq λhr hs ht=>Cn Tryz.call15 (Yg F (Am a.fArgs ha) (Am b.fArgs ha) hr hs) Aa (wv (BW Aa) (Ao (cz ht Aa (λhu hw=>?_) (λhu hx=>?_))))
    ·refine Af (wa Aa (Ao (As (A3 (Ad (Ad (Bc ?_)))))));have hy:=Bz hw he hf;refine A3 (Ad ?_);obtain rfl:=At hy;exact Ar (BY Tryz.results41 (AB Aa)) (sS (sS sN)) ⟨Aa,Aa⟩
    ·refine Ap (AF (AJ (Ah (wm Aa (ck hx λhz h0=>wv (Bh Aa Aa hz) (wa Aa (Aj ?_)))))));have h1:=Bg h0 he;exact Au (AD (hj,ha+1,()) ⟨h1,Abo _⟩ (AM.c Aa (AM.c Aa (AM.c Aa AM.nil))) (sC (sC sN)))
   ·refine BB (A2 ?_);have h2:=Cb hm he hf;exact A2 (Bn (AD ((),()) h2 AM.nil (sS (sS sN))))
  ·rintro⟨⟨⟩,⟨⟩⟩ hd;refine C4 (l':=[]) (H':=[]) Aa Aa ?_;replace hd:Jd =some r:=hd;unfold Jd at hd;refine Bi (AJ (Af (wa Aa (Ao (As ?_)))));obtain rfl:=At hd;exact Ar (BY Tryz.results41 (AB Aa)) sN ⟨Aa,Aa⟩
theorem Ra (F:Nat)(op:A0)(now:Int)(r:Ae×Int)(h:II F op now=some r):Fn Tryz.prog GE 38 [Bq (Ay op),Ak now] [] (λR H=>R=Cs [rS r.1,Ak r.2]∧H=[]):=by
 refine enter (n:=55) Tryz.func38 Aa Tryz.ntmps38 Aa (λw Z=>?_);unfold II at h;refine Af (Ci Aa Aa (λb1=>?_));refine wv (r:=rS ([]:Ae)) (Av Aa) (wa Aa (Bs (wv (Bw (i:=0) Em C6 Aa Aa Aa Aa) (ob h λr2 e4 h3=>Cn Tryz.call47 (NN F op r2 e4) Aa (wa Aa (Ao (Ai (Af (wm Aa (wv (CR Aa Aa) (Ao (cz h3 Aa (λc5 h6=>?_) (λc5 h7=>?_)))))))))))))
 ·refine Af (wm Aa (wv (r:=rS ([]:Ae)) (Av Aa) (wa Aa (Ao (As (Ad ?_))))));obtain rfl:=At h6;exact Ar (CS Tryz.results38 (AB Aa) (AB Aa)) (sS sN) ⟨Aa,Aa⟩
 ·refine Ap (AJ (Ai (AG [(1,Ak now),(2,rP b1 0),(21,rB ((decide (now<0))||(decide (1073741824<now))))] [.blk b1 (Ay op) 25] ?_ ?_)))
  ·refine Ah (wm Aa (wv (Ch Aa Aa) (wm Aa (AO (decide (now<0)) (λc8=>?_) (λc8=>?_)))))
   ·refine wf c8 (wf c8 (wv (r:=rB true) (Ax Aa c8 Aa) (Aj ?_)));exact Cc c8
   ·refine wo c8 (wm Aa (wo c8 (wv (Cv Aa Aa) (Ea Aa c8 Aa (Aj ?_)))));exact Cc c8
  refine cz h7 Aa (λc9 hl=>?_) (λc9 hm=>?_)
  ·refine Af (wv (r:=rS ([]:Ae)) (Av Aa) (wa Aa (Ao (As (Ad ?_)))));obtain rfl:=At hl;exact Ar (CS Tryz.results38 (AB Aa) (AB Aa)) (sS sN) ⟨Aa,Aa⟩
  ·refine Ap (AJ (Ai (ck hm λhn ho=>CK 8 [1,2] [⟨[],rP b1 0,none,none,none⟩,⟨[0],rS op.fEntity,none,none,none⟩,⟨[],rP b1 1,none,none,none⟩,⟨[2],rS op.fID,none,none,none⟩,⟨[],rP b1 2,none,none,none⟩,⟨[4],rS op.fOp,none,none,none⟩,⟨[],Ak now,none,none,none⟩,⟨[6],rS (Lib.itoa now),none,none,none⟩] ?_ (λβ=>?_))))
   ·refine Cu (AC Cw Aa CG Aa Aa) (KT (Bj (i:=0) CV Aa Aa Aa) (Cu (AC Cw Aa CG Aa Aa) (KT (Bj (i:=0) CV Aa Aa Aa) (Cu (AC Cw Aa CG Aa Aa) (KT (Bj (i:=0) CV Aa Aa Aa) (Cu (Aq Aa) (Qt (JG (rs:=[Ak now]) (r:=rS (Lib.itoa now)) Tryz.call63 Aa (Vg now hn) Aa) ?_)))))));exact O6
   refine Dp (H1:=[.blk b1 (Ay op) 25]) [22,23,24,25,26,27,28,29,1,2] ?_;refine AQ (ys:=([op.fEntity,op.fID,op.fOp,Lib.itoa now]:List Ae)) (enc:=eS) (css:=[[rS op.fEntity],[rS op.fID],[rS op.fOp],[rS (Lib.itoa now)]]) (xs:=[.tmp 23,.tmp 25,.tmp 27,.tmp 29]) Db CG XC Aa Aa Aa ⟨Eo.one Aa (Up.refl _),Eo.one Aa (Up.refl _),Eo.one Aa (Up.refl _),Eo.one Aa (Up.refl _),trivial⟩ Aa Gb Aa Aa Aa (λhi=>?_);refine wa Aa (Ao (Ai (Af (wa Aa (Ao (AL (GH (H2:=[.blk b1 (Ay op) 25,.row (.slice (some ⟨hi,0,none⟩) 4 4) 9 1 (A1 eS ([op.fEntity,op.fID,op.fOp,Lib.itoa now]:List Ae))]) ((Al (i:=1) Aa).trans (Abe _ (Abg _))) (ob ho λhp hq hr=>B4 (S:=Nat×((List Ae)×Int)×(Value)) (V:=((List Ae))×(Value)) 0 (λσ=>Ca (λσ=>D2 F op σ.1 σ.2) σ.1 σ.2.1=some hp) (λσ=>[(2,rP b1 0),(7,rv σ.2.2),(8,Ak σ.2.1.2)]) (λσ=>[.blk b1 (Ay op) 25,.row σ.2.2 9 1 (A1 eS σ.2.1.1)]) (λσ=>σ.1) (F,(([op.fEntity,op.fID,op.fOp,Lib.itoa now]:List Ae),0),(.slice (some ⟨hi,0,none⟩) 4 4)) hq (AM.c Aa (AM.c Aa (AM.c Aa AM.nil))) (sC (sC sN)) (λσ=>Gt F σ.1=some r) (λσ=>[(7,rv σ.2)]) (λσ=>[.row σ.2 9 1 (A1 eS σ.1)]) ?_ ?_))))))))
   ·rintro⟨hH,⟨hb,hd⟩,hh⟩ hs;refine Cd (l':=[(2,rP b1 0),(7,rv hh),(8,Ak hd)]) (H':=[.blk b1 (Ay op) 25,.row hh 9 1 (A1 eS hb)]) Aa Aa ?_;obtain⟨ht,rfl,hu,he,hj⟩:=Cz hs;replace he:D2 F op hb hd=some hu:=he;unfold D2 at he;refine Ai (Af (wm Aa (vF Cw Aa EA (vL 0 GN Aa (wv (Bv (ys:=op.fArgs) (enc:=An) DP Aa) (wv (Ch Aa Aa) (Ao (cz he Aa (λhw hx=>?_) (λhw hy=>?_)))))))))
    ·refine Ap (AJ (Ai (AL (Af (vF Cw Aa EA (vL 0 GN Aa (wm Aa (ck hx λhz h0=>wv (B3 (enc:=An) (ys:=op.fArgs) DP CA Aa Aa hz) (wv (Bo Ep Aa Aa) (ob h0 λha h1 h2=>Cn Tryz.call64 (U6 F (Am op.fArgs hd) ha h1) Aa (wm Aa (wv (AA Aa Aa) (wv (AA Aa Aa) (wa Aa (wa Aa (Ao (Ah (wm Aa (wm Aa (AQ (ys:=([ha.1]:List Ae)) (enc:=eS) (css:=[[rS ha.1]]) (xs:=[.tmp 48]) Db CG XC Aa Aa Aa ⟨Eo.one Aa (Up.refl _),trivial⟩ Aa Gb Aa Aa Aa (λh4=>?_)))))))))))))))))))));refine ck h2 λh5 h8=>Exists.elim RC λinf hinf=>BL (xs:=hb) (ys:=([ha.1]:List Ae)) (enc:=eS) (i:=2) Db hinf.1 hinf.2.1 hinf.2.2.1 hinf.2.2.2 Aa Aa Aa Aa Aa (I5.w (i:=0) Aa Aa) Gb Oq h5 Aa (λv80=>?_);refine wa Aa (Aj (AF (AJ (Ah (wm Aa (ck h8 λh9 hA=>wv (Bh Aa Aa h9) (wa Aa (Aj (BO (H2:=[.blk b1 (Ay op) 25,.row v80 9 1 (A1 eS (hb++([ha.1]:List Ae))),.row (.slice (some ⟨h4,0,none⟩) 1 1) 9 1 (A1 eS ([ha.1]:List Ae))]) ((Al (i:=2) Aa).trans (Abe _ (Abg _))) ?_)))))))));have hB:=Bg hA hj;exact Au (AD (ht,(hb++([ha.1]:List Ae),hd+1),v80) ⟨hB,Abo _⟩ (AM.c Aa (AM.c Aa (AM.c Aa AM.nil))) (sC (sC (sS sN))))
    ·refine BB (A2 ?_);have hC:=Cb hy hj hr;exact A2 (Bn (AD (hb,hh) hC (AM.c Aa AM.nil) (sS (sC sN))))
   ·rintro⟨hf,hk⟩ hg;refine C4 (l':=[(7,rv hk)]) (H':=[.row hk 9 1 (A1 eS hf)]) Aa Aa ?_;replace hg:Gt F hf=some r:=hg;unfold Gt at hg;refine Bi (AJ (Af (wm Aa (WL.freeze (i:=0) Aa (WL.up (d:=51) (r:=AX 1 (A1 eS hf)) Aa (Up.fact (i:=0) Aa) (ob hg λhD hE hG=>Cn Tryz.call65 (We F hf hD hE) Aa (wv (AA Aa Aa) (wv (AA Aa Aa) (wa Aa (wa Aa (Ao (As ?_))))))))))));obtain rfl:=At hG;exact Ar (CS Tryz.results38 (AB Aa) (AB Aa)) (sS sN) ⟨Aa,Aa⟩
theorem Rc (F:Nat)(rec:Ae)(r:A0×Int×Int)(h:IJ F rec=some r):Fn Tryz.prog GE 40 [rS rec] [] (λR H=>R=Cs [Bq (Ay r.1),Ak r.2.1,Ak r.2.2]∧H=[]):=by
 refine enter (n:=88) Tryz.func40 Aa Tryz.ntmps40 Aa (λw Z=>?_);unfold IJ at h;refine Af (Ce (cs:=[rS ([]:Ae),rS ([]:Ae),rS ([]:Ae),rv (.slice none 0 0)]) Qw Aa Aa (λb1=>?_));refine wa Aa (wa Aa (Bs (wm Aa (ob h λr2 e4 h3=>Cn Tryz.call69 (S7 F rec r2 e4) Aa (wm Aa (wv (AA Aa Aa) (wv (AA Aa Aa) (wa Aa (wa Aa (Ao (Ai (Af (wm Aa (wv (CR Aa Aa) (Ao (cz h3 Aa (λc5 h6=>?_) (λc5 h7=>?_)))))))))))))))))
 ·refine Af (wv (r:=Bq [rS ([]:Ae),rS ([]:Ae),rS ([]:Ae),rv (.slice none 0 0)]) (CZ ) (wm Aa (AP (i:=0) C6 Aa Aa Aa (Bx.c Aa) Aa Aa (cs':=[rS ([]:Ae),rS ([]:Ae),rS ([]:Ae),rv (.slice none 0 0)]) Aa (H':=[.blk b1 [rS ([]:Ae),rS ([]:Ae),rS ([]:Ae),rv (.slice none 0 0)] 25]) Aa (wa Aa (wa Aa (Ao (As (Ad (WK.upBlk (i:=0) (cs':=[rS ([]:Ae),rS ([]:Ae),rS ([]:Ae),AX 1 (A1 An ([]:List (List Ab)))]) Aa ⟨Up.refl _,Up.refl _,Up.refl _,Up.le (DZ.nil _),trivial⟩ ?_)))))))));obtain rfl:=At h6;exact Ar (MM Sc (Cy (i:=0) Em C6 Aa Aa Aa) (AB Aa) (AB Aa)) (sS sN) ⟨Aa,Aa⟩
 ·refine Ap (AJ (Ai (Af (wm Aa (wv (Bv (ys:=r2.1) (enc:=eS) Db Aa) (wv (Ch Aa Aa) (Ao (cz h7 Aa (λc8 h9=>?_) (λc8 hr=>?_)))))))))
  ·refine Af (wv (r:=Bq [rS ([]:Ae),rS ([]:Ae),rS ([]:Ae),rv (.slice none 0 0)]) (CZ ) (AP (i:=0) C6 Aa Aa Aa (Bx.c Aa) Aa Aa (cs':=[rS ([]:Ae),rS ([]:Ae),rS ([]:Ae),rv (.slice none 0 0)]) Aa (H':=[.blk b1 [rS ([]:Ae),rS ([]:Ae),rS ([]:Ae),rv (.slice none 0 0)] 25]) Aa (wa Aa (wa Aa (Ao (As (Ad (WK.upBlk (i:=0) (cs':=[rS ([]:Ae),rS ([]:Ae),rS ([]:Ae),AX 1 (A1 An ([]:List (List Ab)))]) Aa ⟨Up.refl _,Up.refl _,Up.refl _,Up.le (DZ.nil _),trivial⟩ ?_))))))));obtain rfl:=At h9;exact Ar (MM Sc (Cy (i:=0) Em C6 Aa Aa Aa) (AB Aa) (AB Aa)) (sS sN) ⟨Aa,Aa⟩
  ·refine Ap (AJ (Af (wm Aa (ck hr λhs ht=>wv (B3 (enc:=eS) (ys:=r2.1) Db CG Aa Aa hs) (wv (Bo CV Aa Aa) (ck ht λhu hw=>Hh (rs:=[rS (Am r2.1 3)]) (r:=Cs [Ak (B7 (Am r2.1 3)),Ak (BR (Am r2.1 3))]) Tryz.call70 Aa (Wl (Am r2.1 3) hu) Aa Aa (wm Aa (wv (AA Aa Aa) (wv (AA Aa Aa) (wa Aa (wa Aa (Ao (Ai (Af (wm Aa (wv (CR Aa Aa) (Ao (cz hw Aa (λhx hy=>?_) (λhx hz=>?_)))))))))))))))))))
   ·refine Af (wv (r:=Bq [rS ([]:Ae),rS ([]:Ae),rS ([]:Ae),rv (.slice none 0 0)]) (CZ ) (wm Aa (AP (i:=0) C6 Aa Aa Aa (Bx.c Aa) Aa Aa (cs':=[rS ([]:Ae),rS ([]:Ae),rS ([]:Ae),rv (.slice none 0 0)]) Aa (H':=[.blk b1 [rS ([]:Ae),rS ([]:Ae),rS ([]:Ae),rv (.slice none 0 0)] 25]) Aa (wa Aa (wa Aa (Ao (As (Ad (WK.upBlk (i:=0) (cs':=[rS ([]:Ae),rS ([]:Ae),rS ([]:Ae),AX 1 (A1 An ([]:List (List Ab)))]) Aa ⟨Up.refl _,Up.refl _,Up.refl _,Up.le (DZ.nil _),trivial⟩ ?_)))))))));obtain rfl:=At hy;exact Ar (MM Sc (Cy (i:=0) Em C6 Aa Aa Aa) (AB Aa) (AB Aa)) (sS sN) ⟨Aa,Aa⟩
   ·refine Ap (AJ (Ai (ck hz λg18 h0=>ck h0 λh1 h2=>ck h2 λh4 h5=>CK 11 [2,5,7] [⟨[],AX 1 (A1 eS r2.1),none,none,none⟩,⟨[0],O5 [rS (Am r2.1 0)],none,none,none⟩,⟨[1],rS (Am r2.1 0),none,none,none⟩,⟨[],AX 1 (A1 eS r2.1),none,none,none⟩,⟨[3],O5 [rS (Am r2.1 1)],none,none,none⟩,⟨[4],rS (Am r2.1 1),none,none,none⟩,⟨[],AX 1 (A1 eS r2.1),none,none,none⟩,⟨[6],O5 [rS (Am r2.1 2)],none,none,none⟩,⟨[7],rS (Am r2.1 2),none,none,none⟩,⟨[2,5,8],Bq [rS (Am r2.1 0),rS (Am r2.1 1),rS (Am r2.1 2),rv (.slice none 0 0)],none,none,none⟩,⟨[],rv undef,some ([rS ([]:Ae),rS ([]:Ae),rS ([]:Ae),rv (.slice none 0 0)],25),none,none⟩] ?_ (λβ=>?_))))
    ·refine Cu (Aq Aa) (Cu (B3 (enc:=eS) (ys:=r2.1) Db CG Aa Aa g18) (Cu (Bo CV Aa Aa) (Cu (Aq Aa) (Cu (B3 (enc:=eS) (ys:=r2.1) Db CG Aa Aa h1) (Cu (Bo CV Aa Aa) (Cu (Aq Aa) (Cu (B3 (enc:=eS) (ys:=r2.1) Db CG Aa Aa h4) (Cu (Bo CV Aa Aa) (Cu (Jy Aa Aa Aa Aa Aa Aa) (Z3 (O2 (cs:=[rS ([]:Ae),rS ([]:Ae),rS ([]:Ae),rv (.slice none 0 0)]) Qw Aa) ?_))))))))));exact O6
    refine Dp (H1:=[.blk b1 [rS ([]:Ae),rS ([]:Ae),rS ([]:Ae),rv (.slice none 0 0)] 25,.blk (β 10) [rS ([]:Ae),rS ([]:Ae),rS ([]:Ae),rv (.slice none 0 0)] 25]) [36,37,38,39,40,41,42,43,44,45,8,2,5,7] ?_;generalize β 10=ha;refine AP (i:=1) C6 Aa Aa Aa (Bx.c Aa) Aa Aa (cs':=[rS (Am r2.1 0),rS (Am r2.1 1),rS (Am r2.1 2),rv (.slice none 0 0)]) Aa (H':=[.blk b1 [rS ([]:Ae),rS ([]:Ae),rS ([]:Ae),rv (.slice none 0 0)] 25,.blk ha [rS (Am r2.1 0),rS (Am r2.1 1),rS (Am r2.1 2),rv (.slice none 0 0)] 25]) Aa (Ao (Ai (Af (wa Aa (Ao (AL (WC.nilrow (e:=22) (sz:=1) (GH (H2:=[.blk b1 [rS ([]:Ae),rS ([]:Ae),rS ([]:Ae),rv (.slice none 0 0)] 25,.blk ha [rS (Am r2.1 0),rS (Am r2.1 1),rS (Am r2.1 2),rv (.slice none 0 0)] 25,.row (.slice none 0 0                      ) 22 1 (A1 An ([]:List (List Ab)))]) ((Al (i:=1) Aa).trans (Abe _ ((Al (i:=1) Aa).trans (Abe _ (Abg _))))) (ob h5 λh8 hA hp=>B4 (S:=Nat×(Int×(List (List Ab)))×(Value)) (V:=((List (List Ab)))×(Value)) 0 (λσ=>Ca (λσ=>D3 F r2 σ.1 σ.2) σ.1 σ.2.1=some h8) (λσ=>[(2,rP b1 0),(5,AX 1 (A1 eS r2.1)),(7,Ak (B7 (Am r2.1 3))),(8,rP ha 0),(9,Ak σ.2.1.1)]) (λσ=>[.blk b1 [rS ([]:Ae),rS ([]:Ae),rS ([]:Ae),rv (.slice none 0 0)] 25,.blk ha [rS (Am r2.1 0),rS (Am r2.1 1),rS (Am r2.1 2),rv σ.2.2] 25,.row σ.2.2 22 1 (A1 An σ.2.1.2)]) (λσ=>σ.1) (F,(4,([]:List (List Ab))),(.slice none 0 0                      )) hA (AM.c5 Aa Aa Aa Aa Aa AM.nil) (sC (sC (sC sN))) (λσ=>Gu F r2 σ.1=some r) (λσ=>[(2,rP b1 0),(7,Ak (B7 (Am r2.1 3))),(8,rP ha 0)]) (λσ=>[.blk b1 [rS ([]:Ae),rS ([]:Ae),rS ([]:Ae),rv (.slice none 0 0)] 25,.blk ha [rS (Am r2.1 0),rS (Am r2.1 1),rS (Am r2.1 2),rv σ.2] 25,.row σ.2 22 1 (A1 An σ.1)]) ?_ ?_)))))))))
    ·rintro⟨ge,⟨hk,hh⟩,hj⟩ hB;refine Cd (l':=[(2,rP b1 0),(5,AX 1 (A1 eS r2.1)),(7,Ak (B7 (Am r2.1 3))),(8,rP ha 0),(9,Ak hk)]) (H':=[.blk b1 [rS ([]:Ae),rS ([]:Ae),rS ([]:Ae),rv (.slice none 0 0)] 25,.blk ha [rS (Am r2.1 0),rS (Am r2.1 1),rS (Am r2.1 2),rv hj] 25,.row hj 22 1 (A1 An hh)]) Aa Aa ?_;obtain⟨hC,rfl,t85,hl,ho⟩:=Cz hB;replace hl:D3 F r2 hk hh=some t85:=hl;unfold D3 at hl;refine Ai (Af (wm Aa (wm Aa (wv (Bv (ys:=r2.1) (enc:=eS) Db Aa) (wv (Ch Aa Aa) (Ao (cz hl Aa (λhD hE=>?_) (λhD hG=>?_))))))))
     ·refine Ap (AJ (Ai (AL (Af (wm Aa (wm Aa (ck hE λhH hI=>wv (B3 (enc:=eS) (ys:=r2.1) Db CG Aa Aa hH) (wv (Bo CV Aa Aa) (ob hI λhf hJ hK=>Cn Tryz.call71 (U7 F (Am r2.1 hk) hf hJ) Aa (wm Aa (wv (AA Aa Aa) (wv (AA Aa Aa) (wa Aa (wa Aa (Ao (Ai (Af (wm Aa (wv (CR Aa Aa) (Ao (cz hK Aa (λhL hN=>?_) (λhL hO=>?_))))))))))))))))))))))
      ·refine Af (wv (r:=Bq [rS ([]:Ae),rS ([]:Ae),rS ([]:Ae),rv (.slice none 0 0)]) (CZ ) (wm Aa (AP (i:=0) C6 Aa Aa Aa (Bx.c Aa) Aa Aa (cs':=[rS ([]:Ae),rS ([]:Ae),rS ([]:Ae),rv (.slice none 0 0)]) Aa (H':=[.blk b1 [rS ([]:Ae),rS ([]:Ae),rS ([]:Ae),rv (.slice none 0 0)] 25,.blk ha [rS (Am r2.1 0),rS (Am r2.1 1),rS (Am r2.1 2),rv hj] 25,.row hj 22 1 (A1 An hh)]) Aa (wa Aa (wa Aa (Ao (As (Ad (A3 (Ad (Ad (Bc ?_))))))))))));have hP:=Bz hN ho hp;refine A3 (Ad (WK.upBlk (i:=0) (cs':=[rS ([]:Ae),rS ([]:Ae),rS ([]:Ae),AX 1 (A1 An ([]:List (List Ab)))]) Aa ⟨Up.refl _,Up.refl _,Up.refl _,Up.le (DZ.nil _),trivial⟩ ?_));obtain rfl:=At hP;exact Ar (MM Sc (Cy (i:=0) Em C6 Aa Aa Aa) (AB Aa) (AB Aa)) (sS (sS (sS sN))) ⟨Aa,Aa⟩
      ·refine Ap (AJ (Ah (vF Cw Aa EA (vL 1 GN Aa (wm Aa (AQ (ys:=([hf.1]:List (List Ab))) (enc:=An) (css:=[[AX 4 (A1 Ac hf.1)]]) (xs:=[.tmp 66]) DP CA XH Aa Aa Aa ⟨Eo.one Aa (Up.refl _),trivial⟩ Aa CJ Aa Aa Aa (λhq=>?_)))))));refine ck hO λhQ hR=>Exists.elim SS λinf hinf=>BL (xs:=hh) (ys:=([hf.1]:List (List Ab))) (enc:=An) (i:=3) DP hinf.1 hinf.2.1 hinf.2.2.1 hinf.2.2.2 Aa Aa Aa Aa Aa (I5.w (i:=0) Aa Aa) CJ GZ hQ Aa (λhi=>?_);refine vF Cw Aa EA (BC (i:=3) EA Aa Aa (Dj (i:=0) Aa) Aa Aa (cs':=[rS (Am r2.1 0),rS (Am r2.1 1),rS (Am r2.1 2),rv hi]) Aa (H':=[.row hi 22 1 (A1 An (hh++([hf.1]:List (List Ab)))),.row (.slice (some ⟨hq,0,none⟩) 1 1) 22 1 (A1 An ([hf.1]:List (List Ab))),.blk b1 [rS ([]:Ae),rS ([]:Ae),rS ([]:Ae),rv (.slice none 0 0)] 25,.blk ha [rS (Am r2.1 0),rS (Am r2.1 1),rS (Am r2.1 2),rv hi] 25]) Aa (Aj (AF (AJ (Ah (wm Aa (ck hR λhS hT=>wv (Bh Aa Aa hS) (wa Aa (Aj (BO (H2:=[.blk b1 [rS ([]:Ae),rS ([]:Ae),rS ([]:Ae),rv (.slice none 0 0)] 25,.blk ha [rS (Am r2.1 0),rS (Am r2.1 1),rS (Am r2.1 2),rv hi] 25,.row hi 22 1 (A1 An (hh++([hf.1]:List (List Ab)))),.row (.slice (some ⟨hq,0,none⟩) 1 1) 22 1 (A1 An ([hf.1]:List (List Ab)))]) ((Al (i:=2) Aa).trans (Abe _ ((Al (i:=2) Aa).trans (Abe _ (Abg _))))) ?_))))))))));have hU:=Bg hT ho;exact Au (AD (hC,(hk+1,hh++([hf.1]:List (List Ab))),hi) ⟨hU,Abo _⟩ (AM.c5 Aa Aa Aa Aa Aa AM.nil) (sC (sC (sC (sS sN)))))
     ·refine BB (A2 ?_);have hV:=Cb hG ho hp;exact A2 (Bn (AD (hh,hj) hV (AM.c Aa (AM.c Aa (AM.c Aa AM.nil))) (sC (sC (sC sN)))))
    ·rintro⟨hd,he⟩ hm;refine C4 (l':=[(2,rP b1 0),(7,Ak (B7 (Am r2.1 3))),(8,rP ha 0)]) (H':=[.blk b1 [rS ([]:Ae),rS ([]:Ae),rS ([]:Ae),rv (.slice none 0 0)] 25,.blk ha [rS (Am r2.1 0),rS (Am r2.1 1),rS (Am r2.1 2),rv he] 25,.row he 22 1 (A1 An hd)]) Aa Aa ?_;replace hm:Gu F r2 hd=some r:=hm;unfold Gu at hm;refine Bi (AJ (Af (wv (Bw (i:=1) Em C6 Aa Aa Aa Aa) (WL.freeze (i:=2) Aa (WL.up (d:=70) (r:=Bq [rS (Am r2.1 0),rS (Am r2.1 1),rS (Am r2.1 2),AX 1 (A1 An hd)]) Aa (Up.agg ⟨Up.refl _,Up.refl _,Up.refl _,Up.fact (i:=0) Aa,trivial⟩) (ob hm λhn hW hX=>Cn Tryz.call47 (NN F (A0.mk (Am r2.1 0) (Am r2.1 1) (Am r2.1 2) hd) hn hW) Aa (wa Aa (Ao (Ai (AG [(2,rP b1 0),(6,Ak hn),(7,Ak (B7 (Am r2.1 3))),(8,rP ha 0),(81,rB ((decide (hn=0))&&((decide ((B7 (Am r2.1 3))<0))||(decide (1073741824<(B7 (Am r2.1 3)))))))] [.fact he (AX 1 (A1 An hd)),.blk b1 [rS ([]:Ae),rS ([]:Ae),rS ([]:Ae),rv (.slice none 0 0)] 25,.blk ha [rS (Am r2.1 0),rS (Am r2.1 1),rS (Am r2.1 2),rv he] 25] ?_ ?_))))))))))
     ·refine Ah (wm Aa (wv (BE Aa Aa) (wm Aa (AO (decide (hn=0)) (λhb=>?_) (λhb=>?_)))))
      ·refine wo hb (wm Aa (wo hb (wv (Ch Aa Aa) (wo hb (wm Aa (AO (decide ((B7 (Am r2.1 3))<0)) (λhg=>?_) (λhg=>?_)))))))
       ·refine wf hg (wf hg (wo hb (wv (r:=rB true) (Ax Aa hg Aa) (En Aa hb Aa (Aj ?_)))));exact Cc (And.intro hb hg)
       ·refine wo hg (wm Aa (wo hg (wv (Cv Aa Aa) (wo hb (Ea Aa hg Aa (En Aa hb Aa (Aj ?_)))))));exact Cc (And.intro hb hg)
      ·refine wf hb (wf hb (wf hb (wu (wu (wf hb (wv (r:=rB false) (A7 Aa hb Aa) (Aj ?_)))))));exact Cc hb
     refine cz hX Aa (λhY hZ=>?_) (λhY ga=>?_)
     ·refine Ah (wa Aa (Ao (Ai (Af (wm Aa (wv (CR Aa Aa) (Ao (Ef Aa (IO (by decide)) (Af (wv (r:=Bq [rS ([]:Ae),rS ([]:Ae),rS ([]:Ae),rv (.slice none 0 0)]) (CZ ) (wm Aa (AP (i:=1) C6 Aa Aa Aa (Bx.c Aa) Aa Aa (cs':=[rS ([]:Ae),rS ([]:Ae),rS ([]:Ae),rv (.slice none 0 0)]) Aa (H':=[.fact he (AX 1 (A1 An hd)),.blk b1 [rS ([]:Ae),rS ([]:Ae),rS ([]:Ae),rv (.slice none 0 0)] 25,.blk ha [rS (Am r2.1 0),rS (Am r2.1 1),rS (Am r2.1 2),rv he] 25]) Aa (wa Aa (wa Aa (Ao (As (Ad (WK.upBlk (i:=1) (cs':=[rS ([]:Ae),rS ([]:Ae),rS ([]:Ae),AX 1 (A1 An ([]:List (List Ab)))]) Aa ⟨Up.refl _,Up.refl _,Up.refl _,Up.le (DZ.nil _),trivial⟩ ?_))))))))))))))))));obtain rfl:=At hZ;exact Ar (MM Sc (Cy (i:=1) Em C6 Aa Aa Aa) (AB Aa) (AB Aa)) (sS (sS (sS sN))) ⟨Aa,Aa⟩
     ·refine Ap (AJ (Ai (Af (wm Aa (wv (CR Aa Aa) (Ao (cz ga Aa (λgb gc=>?_) (λgb gd=>?_))))))))
      ·refine Af (wv (r:=Bq [rS ([]:Ae),rS ([]:Ae),rS ([]:Ae),rv (.slice none 0 0)]) (CZ ) (wm Aa (AP (i:=1) C6 Aa Aa Aa (Bx.c Aa) Aa Aa (cs':=[rS ([]:Ae),rS ([]:Ae),rS ([]:Ae),rv (.slice none 0 0)]) Aa (H':=[.fact he (AX 1 (A1 An hd)),.blk b1 [rS ([]:Ae),rS ([]:Ae),rS ([]:Ae),rv (.slice none 0 0)] 25,.blk ha [rS (Am r2.1 0),rS (Am r2.1 1),rS (Am r2.1 2),rv he] 25]) Aa (wa Aa (wa Aa (Ao (As (Ad (WK.upBlk (i:=1) (cs':=[rS ([]:Ae),rS ([]:Ae),rS ([]:Ae),AX 1 (A1 An ([]:List (List Ab)))]) Aa ⟨Up.refl _,Up.refl _,Up.refl _,Up.le (DZ.nil _),trivial⟩ ?_)))))))));obtain rfl:=At gc;exact Ar (MM Sc (Cy (i:=1) Em C6 Aa Aa Aa) (AB Aa) (AB Aa)) (sS (sS (sS sN))) ⟨Aa,Aa⟩
      ·refine Ap (AJ (Af (wv (Bw (i:=2) Em C6 Aa Aa Aa Aa) (wm Aa (WL.up (d:=86) (r:=Bq [rS (Am r2.1 0),rS (Am r2.1 1),rS (Am r2.1 2),AX 1 (A1 An hd)]) Aa (Up.agg ⟨Up.refl _,Up.refl _,Up.refl _,Up.fact (i:=0) Aa,trivial⟩) (AP (i:=1) C6 Aa Aa Aa (Bx.c Aa) Aa Aa (cs':=[rS (Am r2.1 0),rS (Am r2.1 1),rS (Am r2.1 2),AX 1 (A1 An hd)]) Aa (H':=[.fact he (AX 1 (A1 An hd)),.blk b1 [rS (Am r2.1 0),rS (Am r2.1 1),rS (Am r2.1 2),AX 1 (A1 An hd)] 25,.blk ha [rS (Am r2.1 0),rS (Am r2.1 1),rS (Am r2.1 2),rv he] 25]) Aa (wa Aa (wa Aa (Ao (As ?_))))))))));obtain rfl:=At gd;exact Ar (MM Sc (Cy (i:=1) Em C6 Aa Aa Aa) (AB Aa) (AB Aa)) (sS (sS (sS sN))) ⟨Aa,Aa⟩
theorem Oi (id:Ae)(n:Int)(r:A0)(h:Oj id n=some r):Fn Tryz.prog GE 42 [rS id,Ak n] [] (λR H=>R=Bq (Ay r)∧H=[]):=by
 refine enter (n:=11) Tryz.func42 Aa Tryz.ntmps42 Aa (λw Z=>?_);unfold Oj at h;refine Af (Ce (cs:=[rS ([]:Ae),rS ([]:Ae),rS ([]:Ae),rv (.slice none 0 0)]) Qw Aa Aa (λb1=>?_));refine Bs (wm Aa (wm Aa (wv (r:=Bq [Ak 3,Ak n,rS ([]:Ae),Ak 0]) (Cf Aa Aa Aa Aa) (AQ (ys:=([(Ab.mk 3 n ([]:Ae) 0)]:List Ab)) (enc:=Ac) (css:=[[Ak 3,Ak n,rS ([]:Ae),Ak 0]]) (xs:=[.tmp 7]) BK BU Eb Aa Aa Aa ⟨Eo.agg ⟨Up.refl _,Up.refl _,Up.refl _,Up.refl _,trivial⟩,trivial⟩ Aa AR Aa Aa Aa (λb2=>?_)))));refine WL.freeze (i:=0) Aa (AQ (ys:=([([(Ab.mk 3 n ([]:Ae) 0)]:List Ab)]:List (List Ab))) (enc:=An) (css:=[[AX 4 (A1 Ac ([(Ab.mk 3 n ([]:Ae) 0)]:List Ab))]]) (xs:=[.tmp 8]) DP CA XH Aa Aa Aa ⟨Eo.one Aa (Up.fact (i:=0) Aa),trivial⟩ Aa CJ Aa Aa Aa (λb3=>?_));refine wv (r:=Bq [rS ([120]:Ae),rS id,rS ([97,100,100]:Ae),rv (.slice (some ⟨b3,0,none⟩) 1 1)]) (L9 Aa Aa Aa Aa Aa Aa Aa Aa) (AP (i:=2) C6 Aa Aa Aa ⟨(Cl Aa),(Cl Aa),(Cl Aa),(Dj (i:=0) Aa),trivial⟩ Aa Aa (cs':=[rS ([120]:Ae),rS id,rS ([97,100,100]:Ae),rv (.slice (some ⟨b3,0,none⟩) 1 1)]) Aa (H':=[.row (.slice (some ⟨b3,0,none⟩) 1 1) 22 1 (A1 An ([([(Ab.mk 3 n ([]:Ae) 0)]:List Ab)]:List (List Ab))),.fact (.slice (some ⟨b2,0,none⟩) 1 1) (AX 4 (A1 Ac ([(Ab.mk 3 n ([]:Ae) 0)]:List Ab))),.blk b1 [rS ([120]:Ae),rS id,rS ([97,100,100]:Ae),rv (.slice (some ⟨b3,0,none⟩) 1 1)] 25]) Aa (Ao (As (WK.freeze (i:=0) Aa (WK.upBlk (i:=2) (cs':=[rS ([120]:Ae),rS id,rS ([97,100,100]:Ae),AX 1 (A1 An ([([(Ab.mk 3 n ([]:Ae) 0)]:List Ab)]:List (List Ab)))]) Aa ⟨Up.refl _,Up.refl _,Up.refl _,Up.fact (i:=0) Aa,trivial⟩ ?_)))));obtain rfl:=At h;exact Ar (BY Tryz.results42 (Cy (i:=2) Em C6 Aa Aa Aa)) (sS (sS (sS sN))) ⟨Aa,Aa⟩
theorem R5 (F:Nat)(a:(List Ae))(b:(List Ae))(r:Bool)(h:PW F a b=some r):Fn Tryz.prog GE 25 [AX 1 (A1 eS a),AX 1 (A1 eS b)] [] (λR H=>R=rB r∧H=[]):=by
 refine enter (n:=26) Tryz.func25 Aa Tryz.ntmps25 Aa (λw Z=>?_);unfold PW at h;refine Af (wa Aa (Ao (Ai (Af (wm Aa (wv (Bv (ys:=a) (enc:=eS) Db Aa) (wm Aa (wv (Bv (ys:=b) (enc:=eS) Db Aa) (wv (CR Aa Aa) (Ao (cz h Aa (λc1 h2=>?_) (λc1 h3=>?_))))))))))))
 ·refine Af (wa Aa (Ao (As (Ad ?_))));obtain rfl:=At h2;exact Ar (BY Tryz.results25 (AB Aa)) sN ⟨Aa,Aa⟩
 ·refine Ap (AJ (Ai (Af (wm Aa (wv (Bv (ys:=a) (enc:=eS) Db Aa) (wv (r:=Ak 0) (Aq Aa) (Ao (AL (ob h3 λhg hh hf=>B4 (S:=Nat×(Int)×(Unit)) (V:=(Unit)×(Unit)) 0 (λσ=>Ca (λσ=>Kt a b σ) σ.1 σ.2.1=some hg) (λσ=>[(0,AX 1 (A1 eS a)),(1,AX 1 (A1 eS b)),(12,Ak (a.length:Int)),(13,Ak σ.2.1)]) (λσ=>[]) (λσ=>σ.1) (F,0,()) hh (AM.c Aa (AM.c Aa (AM.c Aa (AM.c Aa AM.nil)))) sN (λσ=>Ks =some r) (λσ=>[]) (λσ=>[]) ?_ ?_)))))))))
  ·rintro⟨h1,ha,⟨⟩⟩ hi;refine Cd (l':=[(0,AX 1 (A1 eS a)),(1,AX 1 (A1 eS b)),(12,Ak (a.length:Int)),(13,Ak ha)]) (H':=[]) Aa Aa ?_;obtain⟨hj,rfl,hk,hb,he⟩:=Cz hi;replace hb:Kt a b ha=some hk:=hb;unfold Kt at hb;refine Af (wv (Ch Aa Aa) (Ao (Ai (cz hb Aa (λhl hm=>?_) (λhl hn=>?_)))))
   ·refine Ap (AJ (Ai (AL (Af (wm Aa (wa Aa (Ao (Ai (ck hm λho hp=>ck hp λhq hr=>Df [0,1,5,12,13] [⟨[],AX 1 (A1 eS a),0⟩,⟨[],Ak ha,0⟩,⟨[0,1],O5 [rS (Am a ha)],0⟩,⟨[2],rS (Am a ha),0⟩,⟨[],AX 1 (A1 eS b),0⟩,⟨[],Ak ha,0⟩,⟨[4,5],O5 [rS (Am b ha)],0⟩,⟨[6],rS (Am b ha),0⟩,⟨[3,7],rB (!decide ((Am a ha)=(Am b ha))),0⟩] [24,0,1,12,13] ?_ ?_)))))))))
    ·refine oq (Aq Aa) (oq (Aq Aa) (oq (B3 (enc:=eS) (ys:=a) Db CG Aa Aa ho) (oq (Bo CV Aa Aa) (oq (Aq Aa) (oq (Aq Aa) (oq (B3 (enc:=eS) (ys:=b) Db CG Aa Aa hq) (oq (Bo CV Aa Aa) (oq (NR Aa Aa) ?_))))))));exact CE
    refine AJ (cz hr Aa (λhs ht=>?_) (λhs hu=>?_))
    ·refine Af (wa Aa (Ao (As (A3 (Ad (Ad (Bc ?_)))))));have hw:=Bz ht he hf;refine A3 (Ad ?_);obtain rfl:=At hw;exact Ar (BY Tryz.results25 (AB Aa)) sN ⟨Aa,Aa⟩
    ·refine Ap (AF (AJ (Ah (ck hu λhx hy=>wv (Bh Aa Aa hx) (wm Aa (Aj ?_))))));have hz:=Bg hy he;exact Au (AD (hj,ha+1,()) ⟨hz,Abo _⟩ (AM.c Aa (AM.c Aa (AM.c Aa (AM.c Aa AM.nil)))) sN)
   ·refine BB (A2 ?_);have h0:=Cb hn he hf;exact A2 (Bn (AD ((),()) h0 AM.nil sN))
  ·rintro⟨⟨⟩,⟨⟩⟩ hd;refine C4 (l':=[]) (H':=[]) Aa Aa ?_;replace hd:Ks =some r:=hd;unfold Ks at hd;refine Bi (AJ (Af (wa Aa (Ao (As ?_)))));obtain rfl:=At hd;exact Ar (BY Tryz.results25 (AB Aa)) sN ⟨Aa,Aa⟩
theorem WN (F:Nat)(v:(List Ab))(r:Bool)(h:Og F v=some r):Fn Tryz.prog GE 10 [AX 4 (A1 Ac v)] [] (λR H=>R=rB r∧H=[]):=by
 refine enter (n:=20) Tryz.func10 Aa Tryz.ntmps10 Aa (λw Z=>?_);unfold Og at h;refine Af (wa Aa (Ao (Ai (Af (wm Aa (wv (Bv (ys:=v) (enc:=Ac) BK Aa) (wv (Cv Aa Aa) (Ao (cz h Aa (λc1 h2=>?_) (λc1 h3=>?_))))))))))
 ·refine Af (wa Aa (Ao (As (Ad ?_))));obtain rfl:=At h2;exact Ar (BY Tryz.results10 (AB Aa)) sN ⟨Aa,Aa⟩
 ·refine Ap (AJ (Ai (Af (wm Aa (wv (Bv (ys:=v) (enc:=Ac) BK Aa) (wv (r:=Ak 0) (Aq Aa) (Ao (AL (ob h3 λhg hh hf=>B4 (S:=Nat×(Int)×(Unit)) (V:=(Unit)×(Unit)) 0 (λσ=>Ca (λσ=>H5 v σ) σ.1 σ.2.1=some hg) (λσ=>[(0,AX 4 (A1 Ac v)),(8,Ak (v.length:Int)),(9,Ak σ.2.1)]) (λσ=>[]) (λσ=>σ.1) (F,0,()) hh (AM.c Aa (AM.c Aa (AM.c Aa AM.nil))) sN (λσ=>Kv =some r) (λσ=>[]) (λσ=>[]) ?_ ?_)))))))))
  ·rintro⟨hy,hd,⟨⟩⟩ hi;refine Cd (l':=[(0,AX 4 (A1 Ac v)),(8,Ak (v.length:Int)),(9,Ak hd)]) (H':=[]) Aa Aa ?_;obtain⟨hj,rfl,t37,ha,he⟩:=Cz hi;replace ha:H5 v hd=some t37:=ha;unfold H5 at ha;refine Af (wv (Ch Aa Aa) (Ao (Ai (cz ha Aa (λhk hl=>?_) (λhk hm=>?_)))))
   ·refine Ap (AJ (Ai (AL (Af (wm Aa (wa Aa (Bs (wm Aa (wm Aa (ck hl λhn ho=>wv (B3 (enc:=Ac) (ys:=v) BK BU Aa Aa hn) (wv (BG BA Aa CG Aa Aa) (wv (Bo CV Aa Aa) (wv (Bm BZ Aa) (wv (Cv Aa Aa) (Ao (cz ho Aa (λhp hq=>?_) (λhp hr=>?_)))))))))))))))))
    ·refine Af (wa Aa (Ao (As (A3 (Ad (Ad (Bc ?_)))))));have hs:=Bz hq he hf;refine A3 (Ad ?_);obtain rfl:=At hs;exact Ar (BY Tryz.results10 (AB Aa)) sN ⟨Aa,Aa⟩
    ·refine Ap (AF (AJ (Ah (ck hr λht hu=>wv (Bh Aa Aa ht) (wm Aa (Aj ?_))))));have hw:=Bg hu he;exact Au (AD (hj,hd+1,()) ⟨hw,Abo _⟩ (AM.c Aa (AM.c Aa (AM.c Aa AM.nil))) sN)
   ·refine BB (A2 ?_);have hx:=Cb hm he hf;exact A2 (Bn (AD ((),()) hx AM.nil sN))
  ·rintro⟨⟨⟩,⟨⟩⟩ hb;refine C4 (l':=[]) (H':=[]) Aa Aa ?_;replace hb:Kv =some r:=hb;unfold Kv at hb;refine Bi (AJ (Af (wa Aa (Ao (As ?_)))));obtain rfl:=At hb;exact Ar (BY Tryz.results10 (AB Aa)) sN ⟨Aa,Aa⟩
theorem WM (F:Nat)(op:A0)(r:Bool)(h:Jo F op=some r):Fn Tryz.prog GE 11 [Bq (Ay op)] [] (λR H=>R=rB r∧H=[]):=by
 refine enter (n:=40) Tryz.func11 Aa Tryz.ntmps11 Aa (λw Z=>?_);unfold Jo at h;refine Af (Ci Aa Aa (λb1=>?_));refine wa Aa (Ao (Ai (AG [(1,rP b1 0),(25,rB ((decide (100<(op.fEntity.length:Int)))||((decide (100<(op.fID.length:Int)))||((decide (100<(op.fOp.length:Int)))||(decide (4<(op.fArgs.length:Int)))))))] [.blk b1 (Ay op) 25] ?_ ?_)))
 ·refine Ah (vF Cw Aa CG (vL 0 CV Aa (wv (Bm BZ Aa) (wv (Cv Aa Aa) (wm Aa (AO (decide (100<(op.fEntity.length:Int))) (λc2=>?_) (λc2=>?_)))))))
  ·refine wf c2 (wf c2 (wf c2 (wf c2 (wv (r:=rB true) (Ax Aa c2 Aa) (wm Aa (wz Aa Aa (wz Aa Aa (wz Aa Aa (wz Aa Aa (wv (r:=rB true) (Ax (b:=true) Aa Aa Aa) (wm Aa (wz Aa Aa (wz Aa Aa (wz Aa Aa (wz Aa Aa (wv (r:=rB true) (Ax (b:=true) Aa Aa Aa) (Aj ?_)))))))))))))))));exact Cc c2
  ·refine wo c2 (vF Cw Aa CG (wo c2 (vL 0 CV Aa (wo c2 (wv (Bm BZ Aa) (wo c2 (wv (Cv Aa Aa) (Ea Aa c2 Aa (wm Aa (AO (decide (100<(op.fID.length:Int))) (λc3=>?_) (λc3=>?_)))))))))))
   ·refine wf c3 (wf c3 (wf c3 (wf c3 (wv (r:=rB true) (Ax Aa c3 Aa) (wm Aa (wz Aa Aa (wz Aa Aa (wz Aa Aa (wz Aa Aa (wv (r:=rB true) (Ax (b:=true) Aa Aa Aa) (Aj ?_)))))))))));exact Cc (And.intro c2 c3)
   ·refine wo c3 (vF Cw Aa CG (wo c3 (vL 0 CV Aa (wo c3 (wv (Bm BZ Aa) (wo c3 (wv (Cv Aa Aa) (Ea Aa c3 Aa (wm Aa (AO (decide (100<(op.fOp.length:Int))) (λc4=>?_) (λc4=>?_)))))))))))
    ·refine wf c4 (wf c4 (wf c4 (wf c4 (wv (r:=rB true) (Ax Aa c4 Aa) (Aj ?_)))));exact Cc (And.intro c2 (And.intro c3 c4))
    ·refine wo c4 (vF Cw Aa EA (wo c4 (vL 0 GN Aa (wo c4 (wv (Bv (ys:=op.fArgs) (enc:=An) DP Aa) (wo c4 (wv (Cv Aa Aa) (Ea Aa c4 Aa (Aj ?_)))))))));exact Cc (And.intro c2 (And.intro c3 c4))
 refine cz h Aa (λc5 h6=>?_) (λc5 h7=>?_)
 ·refine Af (wa Aa (Ao (As (Ad ?_))));obtain rfl:=At h6;exact Ar (BY Tryz.results11 (AB Aa)) (sS sN) ⟨Aa,Aa⟩
 ·refine Ap (AJ (Ai (Af (vF Cw Aa EA (vL 0 GN Aa (wv (Bv (ys:=op.fArgs) (enc:=An) DP Aa) (wv (r:=Ak 0) (Aq Aa) (Ao (AL (ob h7 λhg hh hf=>B4 (S:=Nat×(Int)×(Unit)) (V:=(Unit)×(Unit)) 0 (λσ=>Ca (λσ=>H4 F op σ) σ.1 σ.2.1=some hg) (λσ=>[(1,rP b1 0),(28,Ak (op.fArgs.length:Int)),(29,Ak σ.2.1)]) (λσ=>[.blk b1 (Ay op) 25]) (λσ=>σ.1) (F,0,()) hh (AM.c Aa (AM.c Aa (AM.c Aa AM.nil))) (sC sN) (λσ=>Ku =some r) (λσ=>[]) (λσ=>[]) ?_ ?_))))))))))
  ·rintro⟨h2,ha,⟨⟩⟩ hi;refine Cd (l':=[(1,rP b1 0),(28,Ak (op.fArgs.length:Int)),(29,Ak ha)]) (H':=[.blk b1 (Ay op) 25]) Aa Aa ?_;obtain⟨hj,rfl,hk,hb,he⟩:=Cz hi;replace hb:H4 F op ha=some hk:=hb;unfold H4 at hb;refine Af (wv (Ch Aa Aa) (Ao (Ai (cz hb Aa (λhl hm=>?_) (λhl hn=>?_)))))
   ·refine Ap (AJ (Ai (AL (Af (wm Aa (wa Aa (Bs (vF Cw Aa EA (vL 0 GN Aa (wm Aa (ck hm λho hp=>wv (B3 (enc:=An) (ys:=op.fArgs) DP CA Aa Aa ho) (wv (Bo Ep Aa Aa) (ob hp λhq hr hs=>Cn Tryz.call10 (WN F (Am op.fArgs ha) hq hr) Aa (wv (BW Aa) (Ao (cz hs Aa (λht hu=>?_) (λht hw=>?_)))))))))))))))))
    ·refine Af (wa Aa (Ao (As (A3 (Ad (Ad (Bc ?_)))))));have hx:=Bz hu he hf;refine A3 (Ad ?_);obtain rfl:=At hx;exact Ar (BY Tryz.results11 (AB Aa)) (sS sN) ⟨Aa,Aa⟩
    ·refine Ap (AF (AJ (Ah (ck hw λhy hz=>wv (Bh Aa Aa hy) (wm Aa (Aj ?_))))));have h0:=Bg hz he;exact Au (AD (hj,ha+1,()) ⟨h0,Abo _⟩ (AM.c Aa (AM.c Aa (AM.c Aa AM.nil))) (sC sN))
   ·refine BB (A2 ?_);have h1:=Cb hn he hf;exact A2 (Bn (AD ((),()) h1 AM.nil (sS sN)))
  ·rintro⟨⟨⟩,⟨⟩⟩ hd;refine C4 (l':=[]) (H':=[]) Aa Aa ?_;replace hd:Ku =some r:=hd;unfold Ku at hd;refine Bi (AJ (Af (wa Aa (Ao (As ?_)))));obtain rfl:=At hd;exact Ar (BY Tryz.results11 (AB Aa)) sN ⟨Aa,Aa⟩
end Go.Proofs.YtogdediiodmnbaaGreatDoor.Q
namespace Go.Proofs.YtogdediiodmnbaaGreatDoor
open Go
def SQ {T:Type}(xs:List (Ae×T)):Bool:=decide (xs.length*16≤140737488355328)&&xs.all λp=>XE p.1
def Ph {T:Type}(xs:List (Ae×T)):List Ae:=(xs.map (·.1)).mergeSort λx y=>decide (x≤y)
end Go.Proofs.YtogdediiodmnbaaGreatDoor
namespace Go.Proofs.YtogdediiodmnbaaGreatDoor.Q
open Go Go.RowKit Go.ChangeMaps
set_option linter.unusedVariables false
set_option linter.unusedSimpArgs false
def RU:Value→Option (DataW Unit×List MemPlace):=λ_=>some (.nil,[])
theorem Zz {P:Program}{k:TypeId}(hkt:P.underlying k=some .string){e:MapEntry}{s:Ae}(he:e.key = .string (B s))(hs:s.length≤maxLen):WideElems.rd P k RU e=some (.string s,.nil):=by
 obtain⟨key,val,born⟩:=e;simp only at he;subst he;exact WideElems.rd_mk (yv:=(.nil,[])) (by simp[keyOf,hkt,mapKey,B];exact hs) rfl
theorem Lf.rgs {P:Program}{k:TypeId}(hkt:P.underlying k=some .string){Z:Fz}:∀{f:List (Ae×Rp)} {es:List MapEntry},Lf Z f es→(∀p∈f,p.1.length≤maxLen)→es.map (WideElems.rg P k RU)=f.map (λp=>(Lit.string p.1,(.nil:DataW Unit)))∧(∀x∈es,∃y,WideElems.rd P k RU x=some y)∧es.map (·.key)=f.map λp=>Value.string (B p.1)
 | [],[],_,_=>⟨rfl,(λ_ h=>by cases h),rfl⟩
 | p::f,e::es,⟨⟨h1,_⟩,h2⟩,hk=>by
  obtain⟨a1,a2,a3⟩:=Lf.rgs hkt h2 λq hq=>hk q (List.mem_cons_of_mem _ hq);have hr:=Zz hkt h1 (hk p (List.mem_cons_self ..));refine⟨?_,λx hx=>?_,?_⟩
  ·rw[AbV,AbV,a1,WideElems.rg_of hr]
  ·rcases List.mem_cons.1 hx with rfl | hx
   ·exact⟨_,hr⟩
   ·exact a2 x hx
  ·rw[AbV,AbV,a3,h1]
theorem Yo {P:Program}{k:TypeId}(hkt:P.underlying k=some .string){w:World}{Z:Fz}{b:Nat}{m:List (Ae×Rp)}{es:Array MapEntry}{ck:Nat}(hb:w.heap[b]? =some (.map es ck))(hm:GW Z m es.toList ck)(hk:∀p∈m,p.1.length≤maxLen)(hsz:m.length≤maxLen) :
  ∃D0:DataW Unit,w.ownsMap P k RU b es.size D0∧(strKeys D0).Perm (m.map (·.1))∧Maps.size D0=m.length:=by
 obtain⟨h1,h2,h3,f,h4,h5⟩:=hm;obtain⟨a1,a2,a3⟩:=Lf.rgs hkt h5 λp hp=>hk p (h4.subset hp);have hlen:es.size=m.length:=by
  have e:=congrArg List.length a3;simp only[Ab3,Array.length_toList] at e;rw[e];exact h4.length_eq
 have hkey:es.toList.Pairwise (λx y=>x.key≠y.key):=by
  have e:(es.toList.map (·.key)).Nodup:=by
   rw[a3];have hf:(f.map (·.1)).Nodup:=(h4.map _).nodup_iff.2 h1;have:f.map (λp=>Value.string (B p.1))=(f.map (·.1)).map λs=>Value.string (B s):=by rw[Acb];rfl
   rw[this];refine List.Pairwise.map _ (λx y hxy e=>hxy ?_) hf;simp[B] at e;exact e
  exact List.pairwise_map.1 e
 refine⟨.map ((es.toList.map (WideElems.rg P k RU)).foldr DataW.insert []),⟨es,ck,hb,⟨by rw[hlen];exact hsz,(MapKept.stamped_iff es ck).2 ⟨h3,h2,hkey⟩,a2⟩,AbA _,rfl⟩,?_,?_⟩
 ·show(((es.toList.map (WideElems.rg P k RU)).foldr DataW.insert []).map λp=>strOf p.1).Perm _;rw[a1];refine((WideShapes.sorted_perm _).map _).trans ?_;rw[Acb];exact h4.map _
 ·show((es.toList.map (WideElems.rg P k RU)).foldr DataW.insert []).length=_;rw[length_sorted,Ab3,Array.length_toList,hlen]
theorem S9 {w:World}{a b:Nat}{e:TypeId}{sz n:Nat}{v:Value}{us:List Value}(h:w.ownsRow a e sz v n us)(hb:b≤a):w.ownsRow b e sz v n us:=by
 refine⟨h.1,?_⟩;rcases h.2 with hn | ⟨g,cap,cur,rfl,hg,rest⟩
 ·exact .inl hn
 ·exact .inr ⟨g,cap,cur,rfl,Nat.le_trans hb hg,rest⟩
theorem Rj {w:World}{a:Nat}{e:TypeId}{sz n:Nat}{v:Value}{us:List Value}(h:w.ownsRow a e sz v n us):∀k∈v.ownBlock.toList,a≤k:=by
 rcases h.2 with⟨rfl,_⟩ | ⟨g,cap,cur,rfl,hg,rest⟩
 ·intro k hk;simp[Value.ownBlock] at hk
 ·intro k hk;simp[Value.ownBlock] at hk;omega
theorem St.newrow {c:Cx}{H:List Ent}{Z:Fz}{w w':World}(h:St c H Z w)(hb:Below w.heap.size w w'){v:Value}{e:TypeId}{ys:List Ae}(hr:w'.ownsRow w.heap.size e 1 v ys.length (ys.map Go.Proofs.encStr)):St c (.row v e 1 (ys.map eS)::H) Z w':=by
 refine h.add hb.os hb.tape hb.output hb.size (λk hk=>hb.block k hk) ⟨λc hc=>?_,ys.map Go.Proofs.encStr,?_,?_⟩ (λk hk=>Rj hr k hk)
 ·obtain⟨y,_,rfl⟩:=List.mem_map.1 hc;rfl
 ·rw[Ab3];exact S9 hr (AbJ _)
 ·clear hr
  induction ys with
  | nil=>exact trivial
  | cons y r ih=>exact⟨by show Go.Proofs.encStr y=Value.string (B y);rfl,ih⟩
end Go.Proofs.YtogdediiodmnbaaGreatDoor.Q
namespace Go.Proofs.YtogdediiodmnbaaGreatDoor
open Go
set_option linter.unusedVariables false
structure Bf where
 fNow:Int
 fEntities:(List (Ae×Int))
 fCalls:(List (Ae×Int))
 deriving DecidableEq,Inhabited
structure A9 where
 fState:(List Ab)
 fCalls:(List Int)
 fDone:Int
 deriving DecidableEq,Inhabited
def Z6 :Option ((Bf×(List A9)×(List AV))):=
 some ((Bf.mk 0 ([]:List (Ae×Int)) ([]:List (Ae×Int))),([]:List A9),([]:List AV))
def Zg (d:Bf):Option (Bool):=
 some true
def LB (F:Nat)(d:Bf)(d_p1:(List A9))(d_p2:(List AV))(op:A0)(now:Int):Option (Int×Bf×(List A9)×(List AV)):=
 B0 (Jn F op) λr2=>Bl (!decide (r2=0)) (some (r2,d,d_p1,d_p2)) (Bl (((decide (now<0))||(decide (1073741824<now)))) (some (2,d,d_p1,d_p2)) (Bl (decide (now<d.fNow)) (some (11,d,d_p1,d_p2)) (Bl (C2 d.fCalls op.fID) (AY (decide (0≤(AN d.fCalls op.fID (-1))))<|AY (Cp (AN d.fCalls op.fID (-1)) (d_p2.length:Int))<|B0 (W4 F ((Am d_p2 (AN d.fCalls op.fID (-1))).fOp) op) λhb=>Bl (!hb) (some (19,d,d_p1,d_p2)) (some (0,(Bf.mk now d.fEntities d.fCalls),d_p1,d_p2))) (Bl (((decide ((d.fCalls.length:Int)=256))||((!(C2 d.fEntities op.fEntity))&&(decide ((d.fEntities.length:Int)=256))))) (some (3,d,d_p1,d_p2)) (Bl (!(C2 d.fEntities op.fEntity)) (B0 (QH) λha=>B0 (Ob F op) λhd=>AY (Cp (d_p1.length:Int) ((d_p1++[(A9.mk ha ([]:List Int) 0)]).length:Int))<|AY (Dz 8 (((Am (d_p1++[(A9.mk ha ([]:List Int) 0)]) (d_p1.length:Int)).fCalls).length+([(d_p2.length:Int)]:List Int).length))<|some (0,(Bf.mk now (By d.fEntities op.fEntity (d_p1.length:Int)) (By d.fCalls op.fID (d_p2.length:Int))),List.set (d_p1++[(A9.mk ha ([]:List Int) 0)]) (Int.toNat (d_p1.length:Int)) (A9.mk ((Am (d_p1++[(A9.mk ha ([]:List Int) 0)]) (d_p1.length:Int)).fState) (((Am (d_p1++[(A9.mk ha ([]:List Int) 0)]) (d_p1.length:Int)).fCalls)++([(d_p2.length:Int)]:List Int)) ((Am (d_p1++[(A9.mk ha ([]:List Int) 0)]) (d_p1.length:Int)).fDone)),d_p2++[(AV.mk hd (Bk.mk 0 ([]:List Ab)) now (-1))])) (B0 (Ob F op) λhe=>AY (Cp (AN d.fEntities op.fEntity (-1)) (d_p1.length:Int))<|AY (Dz 8 (((Am d_p1 (AN d.fEntities op.fEntity (-1))).fCalls).length+([(d_p2.length:Int)]:List Int).length))<|some (0,(Bf.mk now d.fEntities (By d.fCalls op.fID (d_p2.length:Int))),List.set d_p1 (Int.toNat (AN d.fEntities op.fEntity (-1))) (A9.mk ((Am d_p1 (AN d.fEntities op.fEntity (-1))).fState) (((Am d_p1 (AN d.fEntities op.fEntity (-1))).fCalls)++([(d_p2.length:Int)]:List Int)) ((Am d_p1 (AN d.fEntities op.fEntity (-1))).fDone)),d_p2++[(AV.mk he (Bk.mk 0 ([]:List Ab)) now (-1))])))))))
def JJ (F:Nat)(d:Bf)(d_p1:(List A9))(d_p2:(List AV))(e:Ae)(now:Int)(x5:Bool):Option (AV×Bool×Bf×(List A9)×(List AV)):=
 Bl (x5) (some ((AV.mk (A0.mk ([]:Ae) ([]:Ae) ([]:Ae) ([]:List (List Ab))) (Bk.mk 0 ([]:List Ab)) 0 0),false,d,d_p1,d_p2)) (Bl (C2 d.fEntities e) (AY (Cp (AN d.fEntities e (-1)) (d_p1.length:Int))<|Bl (decide (((Am d_p1 (AN d.fEntities e (-1))).fDone)=(((Am d_p1 (AN d.fEntities e (-1))).fCalls).length:Int))) (some ((AV.mk (A0.mk ([]:Ae) ([]:Ae) ([]:Ae) ([]:List (List Ab))) (Bk.mk 0 ([]:List Ab)) 0 0),false,d,d_p1,d_p2)) (AY (Cp ((Am d_p1 (AN d.fEntities e (-1))).fDone) (((Am d_p1 (AN d.fEntities e (-1))).fCalls).length:Int))<|AY (decide (0≤(Am ((Am d_p1 (AN d.fEntities e (-1))).fCalls) ((Am d_p1 (AN d.fEntities e (-1))).fDone))))<|AY (Cp (Am ((Am d_p1 (AN d.fEntities e (-1))).fCalls) ((Am d_p1 (AN d.fEntities e (-1))).fDone)) (d_p2.length:Int))<|B0 (nDo F ((Am d_p1 (AN d.fEntities e (-1))).fState) ((Am d_p2 (Am ((Am d_p1 (AN d.fEntities e (-1))).fCalls) ((Am d_p1 (AN d.fEntities e (-1))).fDone))).fOp)) λhd=>Bl (!decide (hd.2.2=0)) (some ((AV.mk (A0.mk ([]:Ae) ([]:Ae) ([]:Ae) ([]:List (List Ab))) (Bk.mk 0 ([]:List Ab)) 0 0),false,d,d_p1,d_p2)) (AY (B2 .i64 (((Am d_p1 (AN d.fEntities e (-1))).fDone)+1))<|Lc (List.set d_p2 (Int.toNat (Am ((Am d_p1 (AN d.fEntities e (-1))).fCalls) ((Am d_p1 (AN d.fEntities e (-1))).fDone))) (AV.mk ((Am d_p2 (Am ((Am d_p1 (AN d.fEntities e (-1))).fCalls) ((Am d_p1 (AN d.fEntities e (-1))).fDone))).fOp) hd.2.1 ((Am d_p2 (Am ((Am d_p1 (AN d.fEntities e (-1))).fCalls) ((Am d_p1 (AN d.fEntities e (-1))).fDone))).fFrom) ((Am d_p2 (Am ((Am d_p1 (AN d.fEntities e (-1))).fCalls) ((Am d_p1 (AN d.fEntities e (-1))).fDone))).fTo))) λhb=>AY (Cp (Am ((Am d_p1 (AN d.fEntities e (-1))).fCalls) ((Am d_p1 (AN d.fEntities e (-1))).fDone)) (hb.length:Int))<|Lc (List.set hb (Int.toNat (Am ((Am d_p1 (AN d.fEntities e (-1))).fCalls) ((Am d_p1 (AN d.fEntities e (-1))).fDone))) (AV.mk ((Am hb (Am ((Am d_p1 (AN d.fEntities e (-1))).fCalls) ((Am d_p1 (AN d.fEntities e (-1))).fDone))).fOp) ((Am hb (Am ((Am d_p1 (AN d.fEntities e (-1))).fCalls) ((Am d_p1 (AN d.fEntities e (-1))).fDone))).fAnswer) ((Am hb (Am ((Am d_p1 (AN d.fEntities e (-1))).fCalls) ((Am d_p1 (AN d.fEntities e (-1))).fDone))).fFrom) now)) λha=>AY (Cp (Am ((Am d_p1 (AN d.fEntities e (-1))).fCalls) ((Am d_p1 (AN d.fEntities e (-1))).fDone)) (ha.length:Int))<|B0 (Nw F (AV.mk ((Am ha (Am ((Am d_p1 (AN d.fEntities e (-1))).fCalls) ((Am d_p1 (AN d.fEntities e (-1))).fDone))).fOp) ((Am ha (Am ((Am d_p1 (AN d.fEntities e (-1))).fCalls) ((Am d_p1 (AN d.fEntities e (-1))).fDone))).fAnswer) ((Am ha (Am ((Am d_p1 (AN d.fEntities e (-1))).fCalls) ((Am d_p1 (AN d.fEntities e (-1))).fDone))).fFrom) ((Am ha (Am ((Am d_p1 (AN d.fEntities e (-1))).fCalls) ((Am d_p1 (AN d.fEntities e (-1))).fDone))).fTo))) λhe=>some (he,true,(Bf.mk now d.fEntities d.fCalls),List.set d_p1 (Int.toNat (AN d.fEntities e (-1))) (A9.mk hd.1 ((Am d_p1 (AN d.fEntities e (-1))).fCalls) (((Am d_p1 (AN d.fEntities e (-1))).fDone)+1)),ha)))) (some ((AV.mk (A0.mk ([]:Ae) ([]:Ae) ([]:Ae) ([]:List (List Ab))) (Bk.mk 0 ([]:List Ab)) 0 0),false,d,d_p1,d_p2)))
def T8 (F:Nat)(d:Bf)(d_p1:(List A9))(d_p2:(List AV))(e:Ae)(now:Int):Option (AV×Bool×Bf×(List A9)×(List AV)):=
 Bl (decide (now<d.fNow)) (JJ F d d_p1 d_p2 e now true) (JJ F d d_p1 d_p2 e now (decide (1073741824<now)))
def SG (d:Bf)(d_p1:(List A9))(d_p2:(List AV))(e:Ae):Option ((List Ab)):=
 Bl (C2 d.fEntities e) (AY (Cp (AN d.fEntities e (-1)) (d_p1.length:Int))<|B0 (Gy ((Am d_p1 (AN d.fEntities e (-1))).fState)) λr7=>some r7) (B0 (QH) λha=>some ha)
def Kq (F:Nat)(d:Bf)(d_p1:(List A9))(d_p2:(List AV))(e:Ae)(hb:(List AV))(ha:Int):Option (Stp ((List AV)×Int) (Out ((List AV)) ((List AV)))):=
 Bl (decide (ha<(((Am d_p1 (AN d.fEntities e (-1))).fCalls).length:Int))) (AY (Cp ha (((Am d_p1 (AN d.fEntities e (-1))).fCalls).length:Int))<|AY (decide (0≤(Am ((Am d_p1 (AN d.fEntities e (-1))).fCalls) ha)))<|AY (Cp (Am ((Am d_p1 (AN d.fEntities e (-1))).fCalls) ha) (d_p2.length:Int))<|B0 (Nw F (AV.mk ((Am d_p2 (Am ((Am d_p1 (AN d.fEntities e (-1))).fCalls) ha)).fOp) ((Am d_p2 (Am ((Am d_p1 (AN d.fEntities e (-1))).fCalls) ha)).fAnswer) ((Am d_p2 (Am ((Am d_p1 (AN d.fEntities e (-1))).fCalls) ha)).fFrom) ((Am d_p2 (Am ((Am d_p1 (AN d.fEntities e (-1))).fCalls) ha)).fTo))) λhd=>AY (Dz 120 (hb.length+([hd]:List AV).length))<|AY (B2 .i64 (ha+1))<|some (.next (hb++([hd]:List AV),ha+1))) (some (.out (.go hb)))
def Ko (ha:(List AV)):Option ((List AV)):=
 some ha
def SL (F:Nat)(d:Bf)(d_p1:(List A9))(d_p2:(List AV))(e:Ae):Option ((List AV)):=
 Bl (!(C2 d.fEntities e)) (some ([]:List AV)) (AY (Cp (AN d.fEntities e (-1)) (d_p1.length:Int))<|B0 (Ca (λσ=>Kq F d d_p1 d_p2 e σ.1 σ.2) F (([]:List AV),0)) (BT λν=>Ko ν))
def GT (ha:Int)(hb:(List Ae)):Option (Stp ((List Ae)×Int) (Out ((List Ae)) ((List Ae)))):=
 AY (B2 .i64 (ha+1))<|some (.next (hb,ha+1))
def Ij (r1:(List AV))(hb:(List Ae))(ha:Int):Option (Stp ((List Ae)×Int) (Out ((List Ae)) ((List Ae)))):=
 Bl (decide (ha<(r1.length:Int))) (AY (Cp ha (r1.length:Int))<|Bl (decide (((Am r1 ha).fTo)=(-1))) (AY (Dz 16 (hb.length+([((Am r1 ha).fOp).fID]:List Ae).length))<|GT ha (hb++([((Am r1 ha).fOp).fID]:List Ae))) (GT ha hb)) (some (.out (.go hb)))
def Ii (ha:(List Ae)):Option ((List Ae)):=
 some ha
def NX (F:Nat)(d:Bf)(d_p1:(List A9))(d_p2:(List AV))(e:Ae):Option ((List Ae)):=
 B0 (SL F d d_p1 d_p2 e) λr1=>B0 (Ca (λσ=>Ij r1 σ.1 σ.2) F (([]:List Ae),0)) (BT λν=>Ii ν)
def SI (d:Bf)(d_p1:(List A9))(d_p2:(List AV)):Option ((List Ae)):=
 AY (SQ d.fEntities)<|some (Ph d.fEntities)
end Go.Proofs.YtogdediiodmnbaaGreatDoor
namespace Go.Proofs.YtogdediiodmnbaaGreatDoor.Q
open Go Go.RowKit
set_option linter.unusedVariables false
set_option linter.unusedSimpArgs false
set_option linter.unusedSectionVars false
section
variable {P : Program} {n : Nat} {c : Cx} {ops : Array Oper} {Q : Exit → Act → World → Prop} {rest : List Oper} {l : Fr} {H H' Hr : List Ent} {d k b rz : Nat} {ty t e re : TypeId} {pos : String} {af : Array Edge} {pv r : Value} {cs : List Rp} {ys : List (List Rp)} {K : Act → World → Prop} {cx : Code}
theorem RE {ps:List (Nat×Value)}{i:Nat}{p:Nat×Value}(h:ps[i]? =some p):(Pr ps).Perm ((p.1::p.2.ownBlock.toList)++Pr (ps.eraseIdx i)):=by
 have:ps.Perm (p::ps.eraseIdx i):=by
  induction ps generalizing i with
  | nil=>cases h
  | cons x r ih=>
   cases i with
   | zero=>simp at h;subst h;exact Abg _
   | succ i=>
    simp at h;exact((ih h).cons x).trans (List.Perm.swap p x _)
 exact this.flatMap_right _
theorem YB {ps:List (Nat×Value)}{i:Nat}{p q:Nat×Value}(h:ps[i]? =some p):(Pr (ps.set i q)).Perm ((q.1::q.2.ownBlock.toList)++Pr (ps.eraseIdx i)):=by
 have hi:=(List.getElem?_eq_some_iff.1 h).1;have h1:=RE (ps:=ps.set i q) (i:=i) (p:=q) (by simp[hi]);have h2:(ps.set i q).eraseIdx i=ps.eraseIdx i:=by
  refine List.ext_getElem? λj=>?_;rw[List.getElem?_eraseIdx,List.getElem?_eraseIdx]
  split
  ·rw[List.getElem?_set_ne (by omega)]
  ·rw[List.getElem?_set_ne (by omega)]
 rw[h2] at h1;exact h1
theorem TK (ps:List (Nat×Value))(q:Nat×Value):Pr (ps++[q])=Pr ps++(q.1::q.2.ownBlock.toList):=by
 unfold Pr;rw[List.flatMap_append];simp
section
variable {Z : Fz} {w : World} {xs : List ((Value → List Rp) × List (List Rp))}
theorem St.takeout (h:St c (.poolw k pv e re rz xs none::Hr) Z w){i:Nat}(hi:i<xs.length) :
  ∃b r,Z.nm k i=some b∧St c (.blk b (xs[i].1 r) e::.row r re rz xs[i].2::.poolw k pv e re rz xs (some (i,(b,r)))::Hr) Z w:=by
 obtain⟨hl,hn,hm,_,hx⟩:=h.has (.poolw k pv e re rz xs none) (by simp);have hp:(EJ pv)[i]? =some (EJ pv)[i]:=Abn (by omega);generalize(EJ pv)[i]=p at hp;obtain⟨b,r⟩:=p;have hperm:=RE hp;have hnd:=hperm.nodup hn;have hd:=List.pairwise_cons.1 h.dis;have gd:=List.pairwise_cons.1 h.gst.dis;obtain⟨⟨us,h1,h2⟩,h3,vs,h4,h5⟩:=hx i (b,r) xs[i] hp (Abn hi) (λo ho=>by cases ho);rw[List.nodup_append] at hnd;have hin:∀q,q∈(b::r.ownBlock.toList)∨q∈Pr ((EJ pv).eraseIdx i)→q∈(Ent.poolw k pv e re rz xs none).foot:=λq hq=>hperm.symm.subset (List.mem_append.2 hq);have fb:∀q∈(Ent.blk b (xs[i].1 r) e).foot,q∈(Ent.poolw k pv e re rz xs none).foot:=λq hq=>hin q (.inl (by simp[Ent.foot] at hq;simp[hq]));have fr:∀q∈(Ent.row r re rz xs[i].2).foot,q∈(Ent.poolw k pv e re rz xs none).foot:=λq hq=>hin q (.inl (List.mem_cons_of_mem _ hq));have fo:∀q∈(Ent.poolw k pv e re rz xs (some (i,(b,r)))).foot,q∈(Ent.poolw k pv e re rz xs none).foot:=λq hq=>hin q (.inr hq);have hmem:∀en∈(.blk b (xs[i].1 r) e::.row r re rz xs[i].2::.poolw k pv e re rz xs (some (i,(b,r)))::Hr:List Ent),(∀q∈en.foot,q∈(Ent.poolw k pv e re rz xs none).foot)∨en∈Hr:=λen he=>by
  simp only[AbZ] at he;rcases he with rfl | rfl | rfl | he
  ·exact .inl fb
  ·exact .inl fr
  ·exact .inl fo
  ·exact .inr he
 have hgk:∀en∈(.blk b (xs[i].1 r) e::.row r re rz xs[i].2::.poolw k pv e re rz xs (some (i,(b,r)))::Hr:List Ent),∀q∈en.gk,∃en'∈(.poolw k pv e re rz xs none::Hr:List Ent),q∈en'.gk∧en'.gn=en.gn:=λen he q hq=>by
  simp only[AbZ] at he;rcases he with rfl | rfl | rfl | he
  ·cases hq
  ·cases hq
  ·exact⟨_,List.mem_cons_self ..,hq,rfl⟩
  ·exact⟨en,List.mem_cons_of_mem _ he,hq,rfl⟩
 refine⟨b,r,hm i _ hp,{ h with has:=λen he=>?_,own:=λen he q hq=>?_,dis:=?_,zdis:=λen he q hq=>?_,gst:=⟨λen he q hq=>?_,λen he q hq=>?_,?_,h.gst.new,λen he q hq j hj=>?_⟩ }⟩
 ·simp only[AbZ] at he;rcases he with rfl | rfl | rfl | he
  ·exact⟨us,h1,h2⟩
  ·exact⟨h3,vs,h4,h5⟩
  ·exact⟨hl,hnd.2.1,hm,λo ho=>by cases ho;exact hp,λj p x hj hxj hne=>hx j p x hj hxj (λo ho=>by cases ho)⟩
  ·exact h.has en (List.mem_cons_of_mem _ he)
 ·rcases hmem en he with h6 | h6
  ·exact h.own _ (List.mem_cons_self ..) q (h6 q hq)
  ·exact h.own en (List.mem_cons_of_mem _ h6) q hq
 ·have hbr:=List.nodup_cons.1 hnd.1;refine List.pairwise_cons.2 ⟨λen he q hq hq'=>?_,List.pairwise_cons.2 ⟨λen he q hq hq'=>?_,List.pairwise_cons.2 ⟨λen he q hq hq'=>hd.1 en he q (fo q hq) hq',hd.2⟩⟩⟩
  ·have e1:q=b:=by simpa[Ent.foot] using hq
   subst e1;simp only[AbZ] at he;rcases he with rfl | rfl | he
   ·exact hbr.1 hq'
   ·exact hnd.2.2 q (List.mem_cons_self ..) q hq' rfl
   ·exact hd.1 en he q (fb q hq) hq'
  ·simp only[AbZ] at he;rcases he with rfl | he
   ·exact hnd.2.2 q (List.mem_cons_of_mem _ hq) q hq' rfl
   ·exact hd.1 en he q (fr q hq) hq'
 ·rcases hmem en he with h6 | h6
  ·exact h.zdis _ (List.mem_cons_self ..) q (h6 q hq)
  ·exact h.zdis en (List.mem_cons_of_mem _ h6) q hq
 ·obtain⟨en',h6,h7,_⟩:=hgk en he q hq;exact h.gst.own en' h6 q h7
 ·obtain⟨en',h6,h7,_⟩:=hgk en he q hq;exact h.gst.sz en' h6 q h7
 ·exact List.pairwise_cons.2 ⟨λ_ _ _ hq=>(by cases hq),List.pairwise_cons.2 ⟨λ_ _ _ hq=>(by cases hq),List.pairwise_cons.2 ⟨gd.1,gd.2⟩⟩⟩
 ·obtain⟨en',h6,h7,h8⟩:=hgk en he q hq;exact h.gst.cap en' h6 q h7 j (by rw[h8];exact hj)
theorem St.putback {i:Nat}{r0:Value}{y:(Value→List Rp)×List (List Rp)}(h:St c (.blk b cs e::.row r re rz ys::.poolw k pv e re rz xs (some (i,(b,r0)))::Hr) Z w)(hcs:y.1 r=cs)(hys:y.2=ys){pv':Value}(hpv:EJ pv'=(EJ pv).set i (b,r)) :
  Z.nm k i=some b∧St c (.poolw k pv' e re rz (xs.set i y) none::Hr) Z w:=by
 obtain⟨us,h1,h2⟩:=h.has (.blk b cs e) (by simp);obtain⟨h3,vs,h4,h5⟩:=h.has (.row r re rz ys) (by simp);obtain⟨hl,hn,hm,ho,hx⟩:=h.has (.poolw k pv e re rz xs (some (i,(b,r0)))) (by simp);have hp:(EJ pv)[i]? =some (b,r0):=ho _ rfl;have hi:i<(EJ pv).length:=(List.getElem?_eq_some_iff.1 hp).1;have hd:=List.pairwise_cons.1 h.dis;have hd2:=List.pairwise_cons.1 hd.2;have hd3:=List.pairwise_cons.1 hd2.2;have gd:=List.pairwise_cons.1 (List.pairwise_cons.1 (List.pairwise_cons.1 h.gst.dis).2).2;have hperm:=YB (q:=(b,r)) hp;have hback:∀q∈(Ent.poolw k pv' e re rz (xs.set i y) none).foot,q=b∨q∈r.ownBlock.toList∨q∈(Ent.poolw k pv e re rz xs (some (i,(b,r0)))).foot:=λq hq=>by
  have h6:q∈Pr ((EJ pv).set i (b,r)):=by rw[← hpv];exact hq
  rcases List.mem_append.1 (hperm.subset h6) with h7 | h7
  ·rcases List.mem_cons.1 h7 with h8 | h8
   ·exact .inl h8
   ·exact .inr (.inl h8)
  ·exact .inr (.inr h7)
 have hbr:b ∉ r.ownBlock.toList:=λhb=>hd.1 (.row r re rz ys) (by simp) b (by simp[Ent.foot]) hb;have hbo:b ∉ (Ent.poolw k pv e re rz xs (some (i,(b,r0)))).foot:=λhb=>hd.1 (.poolw k pv e re rz xs (some (i,(b,r0)))) (by simp) b (by simp[Ent.foot]) hb;have hro:∀q∈r.ownBlock.toList,q ∉ (Ent.poolw k pv e re rz xs (some (i,(b,r0)))).foot:=λq hq hq'=>hd2.1 (.poolw k pv e re rz xs (some (i,(b,r0)))) (by simp) q hq hq';have hrn:(r.ownBlock.toList).Nodup:=by cases r.ownBlock<;>simp
 refine⟨hm i _ hp,{ h with has:=λen he=>?_,own:=λen he q hq=>?_,dis:=List.pairwise_cons.2 ⟨λen he q hq hq'=>?_,hd3.2⟩,zdis:=λen he q hq=>?_,gst:=⟨λen he q hq=>?_,λen he q hq=>?_,List.pairwise_cons.2 ⟨gd.1,gd.2⟩,h.gst.new,λen he q hq j hj=>?_⟩ }⟩
 ·rcases List.mem_cons.1 he with rfl | he
  ·refine⟨by rw[hpv];simpa using hl,?_,λj p hj=>?_,λo ho=>(by cases ho),λj p x hj hxj _=>?_⟩
   ·show(Pr (EJ pv')).Nodup;rw[hpv];refine hperm.symm.nodup ?_;rw[List.nodup_append];exact⟨List.nodup_cons.2 ⟨hbr,hrn⟩,hn,λq hq q' hq' e=>by
     subst e;rcases List.mem_cons.1 hq with rfl | hq
     ·exact hbo hq'
     ·exact hro q hq hq'⟩
   ·rw[hpv,Acd] at hj
    split at hj
    ·rename_i e1;subst e1;simp[hi] at hj;subst hj;exact(hm i _ hp:Z.nm k i=some b)
    ·exact hm j p hj
   ·rw[hpv,Acd] at hj;rw[Acd] at hxj
    by_cases e1:i=j
    ·subst e1;rw[AbB rfl,AbB hi] at hj;rw[AbB rfl,AbB (by omega)] at hxj
     cases hj;cases hxj
     subst hcs;subst hys;exact⟨⟨us,h1,h2⟩,h3,vs,h4,h5⟩
    ·rw[Ab6 e1] at hj hxj;exact hx j p x hj hxj (λo ho=>by cases ho;exact e1)
  ·exact h.has en (by simp[he])
 ·rcases List.mem_cons.1 he with rfl | he
  ·rcases hback q hq with rfl | h6 | h6
   ·exact h.own (.blk q cs e) (by simp) q (by simp[Ent.foot])
   ·exact h.own (.row r re rz ys) (by simp) q h6
   ·exact h.own (.poolw k pv e re rz xs (some (i,(b,r0)))) (by simp) q h6
  ·exact h.own en (by simp[he]) q hq
 ·rcases hback q hq with rfl | h6 | h6
  ·exact hd.1 en (by simp[he]) q (by simp[Ent.foot]) hq'
  ·exact hd2.1 en (by simp[he]) q h6 hq'
  ·exact hd3.1 en he q h6 hq'
 ·rcases List.mem_cons.1 he with rfl | he
  ·rcases hback q hq with rfl | h6 | h6
   ·exact h.zdis (.blk q cs e) (by simp) q (by simp[Ent.foot])
   ·exact h.zdis (.row r re rz ys) (by simp) q h6
   ·exact h.zdis (.poolw k pv e re rz xs (some (i,(b,r0)))) (by simp) q h6
  ·exact h.zdis en (by simp[he]) q hq
 ·rcases List.mem_cons.1 he with rfl | he
  ·exact h.gst.own (.poolw k pv e re rz xs (some (i,(b,r0)))) (by simp) q hq
  ·exact h.gst.own en (by simp[he]) q hq
 ·rcases List.mem_cons.1 he with rfl | he
  ·exact h.gst.sz (.poolw k pv e re rz xs (some (i,(b,r0)))) (by simp) q hq
  ·exact h.gst.sz en (by simp[he]) q hq
 ·rcases List.mem_cons.1 he with rfl | he
  ·refine h.gst.cap (.poolw k pv e re rz xs (some (i,(b,r0)))) (by simp) q hq j ?_;have:(EJ pv').length≤j:=hj;rw[hpv,List.length_set] at this;exact this
  ·exact h.gst.cap en (by simp[he]) q hq j hj
theorem St.putsame {i:Nat}(hi:i<xs.length)(h:St c (.blk b (xs[i].1 r) e::.row r re rz xs[i].2::.poolw k pv e re rz xs (some (i,(b,r)))::Hr) Z w):Z.nm k i=some b∧St c (.poolw k pv e re rz xs none::Hr) Z w:=by
 obtain⟨hl,hn,hm,ho,hx⟩:=h.has (.poolw k pv e re rz xs (some (i,(b,r)))) (by simp);have hp:(EJ pv)[i]? =some (b,r):=ho _ rfl;have h1:=St.putback (y:=xs[i]) (pv':=pv) h rfl rfl (by
  refine(List.ext_getElem? λj=>?_);rw[Acd]
  split
  ·rename_i e1;subst e1
   have:=(List.getElem?_eq_some_iff.1 hp).1;rw[AbB this,hp]
  ·rfl)
 rw[List.set_getElem_self] at h1;exact h1
theorem St.adoptW {y:(Value→List Rp)×List (List Rp)}(h:St c (.blk b cs e::.row r re rz ys::.poolw k pv e re rz xs none::Hr) Z w)(hcs:y.1 r=cs)(hys:y.2=ys){pv':Value}(hpv:EJ pv'=EJ pv++[(b,r)]) :
  ∃Z',Fz.le Z Z'∧Z'.nm k xs.length=some b∧St c (.poolw k pv' e re rz (xs++[y]) none::Hr) Z' w:=by
 obtain⟨us,h1,h2⟩:=h.has (.blk b cs e) (by simp);obtain⟨h3,vs,h4,h5⟩:=h.has (.row r re rz ys) (by simp);obtain⟨hl,hn,hm,ho,hx⟩:=h.has (.poolw k pv e re rz xs none) (by simp);have hd:=List.pairwise_cons.1 h.dis;have hd2:=List.pairwise_cons.1 hd.2;have hd3:=List.pairwise_cons.1 hd2.2;have gd:=List.pairwise_cons.1 (List.pairwise_cons.1 (List.pairwise_cons.1 h.gst.dis).2).2;have hcap:=h.gst.cap (.poolw k pv e re rz xs none) (by simp) k (by simp[Ent.gk]);have hksz:=h.gst.sz (.poolw k pv e re rz xs none) (by simp) k (by simp[Ent.gk]);have hkown:=h.gst.own (.poolw k pv e re rz xs none) (by simp) k (by simp[Ent.gk])
 let Z':Fz:=⟨Z.f,λq i=>if q=k∧i=xs.length then some b else Z.nm q i⟩
 have hnew:Z'.nm k xs.length=some b:=by simp[Z']
 have hle:Fz.le Z Z':=⟨λ_ _ h=>h,λq i b' hq=>by
  by_cases hqi:q=k∧i=xs.length
  ·obtain⟨rfl,rfl⟩:=hqi;rw[hcap _ (by simp[Ent.gn,hl])] at hq;cases hq
  ·simpa[Z',hqi] using hq⟩
 have hbr:b ∉ r.ownBlock.toList:=λhb=>hd.1 (.row r re rz ys) (by simp) b (by simp[Ent.foot]) hb;have hbo:b ∉ (Ent.poolw k pv e re rz xs none).foot:=λhb=>hd.1 (.poolw k pv e re rz xs none) (by simp) b (by simp[Ent.foot]) hb;have hro:∀q∈r.ownBlock.toList,q ∉ (Ent.poolw k pv e re rz xs none).foot:=λq hq hq'=>hd2.1 (.poolw k pv e re rz xs none) (by simp) q hq hq';have hrn:(r.ownBlock.toList).Nodup:=by cases r.ownBlock<;>simp
 have hback:∀q∈(Ent.poolw k pv' e re rz (xs++[y]) none).foot,q=b∨q∈r.ownBlock.toList∨q∈(Ent.poolw k pv e re rz xs none).foot:=λq hq=>by
  have h6:q∈Pr (EJ pv++[(b,r)]):=by rw[← hpv];exact hq
  rw[TK] at h6;rcases List.mem_append.1 h6 with h7 | h7
  ·exact .inr (.inr h7)
  ·rcases List.mem_cons.1 h7 with h8 | h8
   ·exact .inl h8
   ·exact .inr (.inl h8)
 refine⟨Z',hle,hnew,{ h with has:=λen he=>?_,own:=λen he q hq=>?_,dis:=List.pairwise_cons.2 ⟨λen he q hq hq'=>?_,hd3.2⟩,frz:=⟨λb o hb=>h.frz.f b o hb,λq i b' hq=>?_⟩,le:=h.le.trans hle,new:=λb o hb=>h.new b o hb,zdis:=λen he q hq=>?_,env:=h.emono hle h.env,gst:=⟨λen he q hq=>?_,λen he q hq=>?_,List.pairwise_cons.2 ⟨gd.1,gd.2⟩,λq i b' hq=>?_,λen he q hq i hi=>?_⟩ }⟩
 ·rcases List.mem_cons.1 he with rfl | he
  ·refine⟨by rw[hpv];simp[hl],?_,λj p hj=>?_,λo ho=>(by cases ho),λj p x hj hxj _=>?_⟩
   ·show(Pr (EJ pv')).Nodup;rw[hpv,TK,List.nodup_append];exact⟨hn,List.nodup_cons.2 ⟨hbr,hrn⟩,λq hq q' hq' e=>by
     subst e;rcases List.mem_cons.1 hq' with rfl | hq'
     ·exact hbo hq
     ·exact hro q hq' hq⟩
   ·rw[hpv] at hj
    by_cases hjl:j<(EJ pv).length
    ·rw[AbT hjl] at hj;exact hle.nm k j _ (hm j p hj)
    ·have hj2:j=(EJ pv).length:=by have:=(List.getElem?_eq_some_iff.1 hj).1;simp at this;omega
     subst hj2;simp at hj;subst hj;rw[hl];exact hnew
   ·rw[hpv] at hj
    by_cases hjl:j<(EJ pv).length
    ·rw[AbT hjl] at hj;rw[AbT (by omega)] at hxj;obtain⟨⟨us',g1,g2⟩,g3,vs',g4,g5⟩:=hx j p x hj hxj (λo ho=>by cases ho);exact⟨⟨us',g1,g2.mono hle⟩,g3,vs',g4,g5.mono hle⟩
    ·have hj2:j=(EJ pv).length:=by have:=(List.getElem?_eq_some_iff.1 hj).1;simp at this;omega
     subst hj2;simp at hj;subst hj;rw[hl] at hxj;simp at hxj;subst hxj;subst hcs;subst hys;exact⟨⟨us,h1,h2.mono hle⟩,h3,vs,h4,h5.mono hle⟩
  ·exact Ent.keep (h.has en (by simp[he])) hle λ_ _=>rfl
 ·rcases List.mem_cons.1 he with rfl | he
  ·rcases hback q hq with rfl | h6 | h6
   ·exact h.own (.blk q cs e) (by simp) q (by simp[Ent.foot])
   ·exact h.own (.row r re rz ys) (by simp) q h6
   ·exact h.own (.poolw k pv e re rz xs none) (by simp) q h6
  ·exact h.own en (by simp[he]) q hq
 ·rcases hback q hq with rfl | h6 | h6
  ·exact hd.1 en (by simp[he]) q (by simp[Ent.foot]) hq'
  ·exact hd2.1 en (by simp[he]) q h6 hq'
  ·exact hd3.1 en he q h6 hq'
 ·by_cases hqi:q=k∧i=xs.length
  ·rw[hqi.1];exact hksz
  ·exact h.frz.nm q i b' (by simpa[Z',hqi] using hq)
 ·rcases List.mem_cons.1 he with rfl | he
  ·rcases hback q hq with rfl | h6 | h6
   ·exact h.zdis (.blk q cs e) (by simp) q (by simp[Ent.foot])
   ·exact h.zdis (.row r re rz ys) (by simp) q h6
   ·exact h.zdis (.poolw k pv e re rz xs none) (by simp) q h6
  ·exact h.zdis en (by simp[he]) q hq
 ·rcases List.mem_cons.1 he with rfl | he
  ·simp[Ent.gk] at hq;subst hq;exact hkown
  ·exact h.gst.own en (by simp[he]) q hq
 ·rcases List.mem_cons.1 he with rfl | he
  ·simp[Ent.gk] at hq;subst hq;exact hksz
  ·exact h.gst.sz en (by simp[he]) q hq
 ·by_cases hqi:q=k∧i=xs.length
  ·rw[hqi.1];exact .inr hkown
  ·exact h.gst.new q i b' (by simpa[Z',hqi] using hq)
 ·rcases List.mem_cons.1 he with rfl | he
  ·simp[Ent.gk] at hq;subst hq;have hi':(EJ pv').length≤i:=hi;rw[hpv,Abl] at hi';simp at hi';have hne : ¬ i=xs.length:=by omega
   simp only[Z',hne,and_false,AbF];exact hcap i (by simp[Ent.gn];omega)
  ·have hqk:q≠k:=λe1=>gd.1 en he k (by simp[Ent.gk]) (e1▸hq);simp only[Z',hqk,false_and,AbF];exact h.gst.cap en (by simp[he]) q hq i hi
end
def YX (l:Fr)(k:Nat)(i:Int):List Nat→Prop
 | []=>True
 | d::ds=>look l d=some (HZ k i 0)∧YX l k i ds
def asB (b:Nat):List Nat→Fr→Fr
 | [],l=>l
 | d::ds,l=>(d,rv (.pointer (some ⟨b,0,none⟩)))::asB b ds l
def YS (k:Nat)(i:Int):List Nat→Fr→Fr
 | [],l=>l
 | d::ds,l=>(d,HZ k i 0)::YS k i ds l
theorem Tc {Z:Fz}{a:Act}{i:Int}{l:Fr}(ha:Da n l a Z)(h0:0≤i)(hn:Z.nm k i.toNat=some b):∀{ds:List Nat},YX l k i ds→Da n (asB b ds l) a Z
 | [],_=>ha
 | d::ds,⟨h1,h2⟩=>by
  have h3:=Tc ha h0 hn h2;refine⟨h3.size,h3.defers,λj u hj=>?_⟩;rw[asB,Cq] at hj
  split at hj
  ·rename_i e;subst e;simp at hj;subst hj
   obtain⟨v,h4,h5⟩:=ha.tm d _ h1
   change P1 k i 0 Z v at h5
   unfold P1 at h5;rw[Ab6 (by omega)] at h5;obtain⟨b',g1,g2⟩:=h5;rw[hn] at g1;obtain rfl:=Option.some.inj g1;exact⟨v,h4,g2⟩
  ·exact h3.tm j u hj
theorem Le {Z:Fz}{a:Act}{i:Int}{l:Fr}(ha:Da n l a Z)(h0:0≤i)(hn:Z.nm k i.toNat=some b):∀{ds:List Nat},LX l b ds→Da n (YS k i ds l) a Z
 | [],_=>ha
 | d::ds,⟨h1,h2⟩=>by
  have h3:=Le ha h0 hn h2;refine⟨h3.size,h3.defers,λj u hj=>?_⟩;rw[YS,Cq] at hj
  split at hj
  ·rename_i e;subst e;simp at hj;subst hj
   obtain⟨v,h4,h5⟩:=ha.tm d _ h1;refine⟨v,h4,?_⟩;show P1 k i 0 Z v;unfold P1;rw[Ab6 (by omega)];exact⟨b,hn,h5⟩
  ·exact h3.tm j u hj
section
variable {β : Type} [Inhabited β] {xs : List β} {encw : β → (Value → List Rp) × List (List Rp)} {i : Int} {y : β}
theorem St.takeoutE {Z:Fz}{w:World}(hw:St c H Z w)(hp:H.Perm (.poolw k pv e re rz (xs.map encw) none::Hr))(hg:Cp i (xs.length:Int)=true) :
  ∃b r,0≤i∧Z.nm k i.toNat=some b∧St c (.blk b ((encw (Am xs i)).1 r) e::.row r re rz (encw (Am xs i)).2::.poolw k pv e re rz (xs.map encw) (some (i.toNat,(b,r)))::Hr) Z w:=by
 have h0:=(C9 hg).1;have h1:i.toNat<xs.length:=by have:=(C9 hg).2;omega
 obtain⟨b,r,h2,h3⟩:=(hw.perm hp).takeout (i:=i.toNat) (by simpa using h1);have e1:(xs.map encw)[i.toNat]'(by simpa using h1)=encw (Am xs i):=by simp[Am,h1]
 rw[e1] at h3;exact⟨b,r,h0,h2,h3⟩
theorem WL.takeout (hp:H.Perm (.poolw k pv e re rz (xs.map encw) none::Hr))(hg:Cp i (xs.length:Int)=true)(ds:List Nat)(hd:YX l k i ds)
  (h:∀b r,WL P n c ops Q rest (asB b ds l) (.blk b ((encw (Am xs i)).1 r) e::.row r re rz (encw (Am xs i)).2::.poolw k pv e re rz (xs.map encw) (some (i.toNat,(b,r)))::Hr)):WL P n c ops Q rest l H:=λa w Z ha hw=>by
 obtain⟨b,r,h0,h1,h2⟩:=St.takeoutE hw hp hg;exact h b r a w Z (Tc ha h0 h1 hd) h2
theorem WC.takeout (hp:H.Perm (.poolw k pv e re rz (xs.map encw) none::Hr))(hg:Cp i (xs.length:Int)=true)(ds:List Nat)(hd:YX l k i ds)
  (h:∀b r,WC P n c cx Q (asB b ds l) (.blk b ((encw (Am xs i)).1 r) e::.row r re rz (encw (Am xs i)).2::.poolw k pv e re rz (xs.map encw) (some (i.toNat,(b,r)))::Hr)):WC P n c cx Q l H:=λa w Z ha hw=>by
 obtain⟨b,r,h0,h1,h2⟩:=St.takeoutE hw hp hg;exact h b r a w Z (Tc ha h0 h1 hd) h2
theorem St.putbackE {Z:Fz}{w:World}{r0:Value}(hw:St c H Z w)(hp:H.Perm (.blk b cs e::.row r re rz ys::.poolw k pv e re rz (xs.map encw) (some (i.toNat,(b,r0)))::Hr))(hcs:(encw y).1 r=cs)(hys:(encw y).2=ys) :
  ∃pv',Z.nm k i.toNat=some b∧St c (.poolw k pv' e re rz ((xs.set i.toNat y).map encw) none::Hr) Z w:=by
 obtain⟨h1,h2⟩:=(hw.perm hp).putback (y:=encw y) (pv':=Yw ((EJ pv).set i.toNat (b,r))) hcs hys (Tv _);rw[← List.map_set] at h2;exact⟨_,h1,h2⟩
theorem WL.putback {r0:Value}(hp:H.Perm (.blk b cs e::.row r re rz ys::.poolw k pv e re rz (xs.map encw) (some (i.toNat,(b,r0)))::Hr))(hg:Cp i (xs.length:Int)=true)(ds:List Nat)(hd:LX l b ds)(hcs:(encw y).1 r=cs)(hys:(encw y).2=ys)
  (h:∀pv',WL P n c ops Q rest (YS k i ds l) (.poolw k pv' e re rz ((xs.set i.toNat y).map encw) none::Hr)):WL P n c ops Q rest l H:=λa w Z ha hw=>by
 obtain⟨pv',h1,h2⟩:=St.putbackE hw hp hcs hys;exact h pv' a w Z (Le ha (C9 hg).1 h1 hd) h2
theorem WC.putback {r0:Value}(hp:H.Perm (.blk b cs e::.row r re rz ys::.poolw k pv e re rz (xs.map encw) (some (i.toNat,(b,r0)))::Hr))(hg:Cp i (xs.length:Int)=true)(ds:List Nat)(hd:LX l b ds)(hcs:(encw y).1 r=cs)(hys:(encw y).2=ys)
  (h:∀pv',WC P n c cx Q (YS k i ds l) (.poolw k pv' e re rz ((xs.set i.toNat y).map encw) none::Hr)):WC P n c cx Q l H:=λa w Z ha hw=>by
 obtain⟨pv',h1,h2⟩:=St.putbackE hw hp hcs hys;exact h pv' a w Z (Le ha (C9 hg).1 h1 hd) h2
theorem WK.putback {r0:Value}(hp:H.Perm (.blk b cs e::.row r re rz ys::.poolw k pv e re rz (xs.map encw) (some (i.toNat,(b,r0)))::Hr))(hg:Cp i (xs.length:Int)=true)(ds:List Nat)(hd:LX l b ds)(hcs:(encw y).1 r=cs)(hys:(encw y).2=ys)
  (h:∀pv',WK n c K (YS k i ds l) (.poolw k pv' e re rz ((xs.set i.toNat y).map encw) none::Hr)):WK n c K l H:=λa w Z ha hw=>by
 obtain⟨pv',h1,h2⟩:=St.putbackE hw hp hcs hys;exact h pv' a w Z (Le ha (C9 hg).1 h1 hd) h2
theorem St.putsameE {Z:Fz}{w:World}(hw:St c H Z w)(hp:H.Perm (.blk b cs e::.row r re rz ys::.poolw k pv e re rz (xs.map encw) (some (i.toNat,(b,r)))::Hr))(hg:Cp i (xs.length:Int)=true)(hcs:(encw (Am xs i)).1 r=cs)(hys:(encw (Am xs i)).2=ys) :
  Z.nm k i.toNat=some b∧St c (.poolw k pv e re rz (xs.map encw) none::Hr) Z w:=by
 have h1:i.toNat<xs.length:=by have:=C9 hg;omega
 have e1:(xs.map encw)[i.toNat]'(by simpa using h1)=encw (Am xs i):=by simp[Am,h1]
 subst hcs;subst hys;have h2:=hw.perm hp;rw[← e1] at h2;exact St.putsame (by simpa using h1) h2
theorem WL.putsame (hp:H.Perm (.blk b cs e::.row r re rz ys::.poolw k pv e re rz (xs.map encw) (some (i.toNat,(b,r)))::Hr))(hg:Cp i (xs.length:Int)=true)(ds:List Nat)(hd:LX l b ds)(hcs:(encw (Am xs i)).1 r=cs)(hys:(encw (Am xs i)).2=ys)
  (h:WL P n c ops Q rest (YS k i ds l) (.poolw k pv e re rz (xs.map encw) none::Hr)):WL P n c ops Q rest l H:=λa w Z ha hw=>by
 obtain⟨h1,h2⟩:=St.putsameE hw hp hg hcs hys;exact h a w Z (Le ha (C9 hg).1 h1 hd) h2
theorem WC.putsame (hp:H.Perm (.blk b cs e::.row r re rz ys::.poolw k pv e re rz (xs.map encw) (some (i.toNat,(b,r)))::Hr))(hg:Cp i (xs.length:Int)=true)(ds:List Nat)(hd:LX l b ds)(hcs:(encw (Am xs i)).1 r=cs)(hys:(encw (Am xs i)).2=ys)
  (h:WC P n c cx Q (YS k i ds l) (.poolw k pv e re rz (xs.map encw) none::Hr)):WC P n c cx Q l H:=λa w Z ha hw=>by
 obtain⟨h1,h2⟩:=St.putsameE hw hp hg hcs hys;exact h a w Z (Le ha (C9 hg).1 h1 hd) h2
theorem WK.putsame (hp:H.Perm (.blk b cs e::.row r re rz ys::.poolw k pv e re rz (xs.map encw) (some (i.toNat,(b,r)))::Hr))(hg:Cp i (xs.length:Int)=true)(ds:List Nat)(hd:LX l b ds)(hcs:(encw (Am xs i)).1 r=cs)(hys:(encw (Am xs i)).2=ys)
  (h:WK n c K (YS k i ds l) (.poolw k pv e re rz (xs.map encw) none::Hr)):WK n c K l H:=λa w Z ha hw=>by
 obtain⟨h1,h2⟩:=St.putsameE hw hp hg hcs hys;exact h a w Z (Le ha (C9 hg).1 h1 hd) h2
theorem St.adoptWE {Z:Fz}{w:World}(hw:St c H Z w)(hp:H.Perm (.blk b cs e::.row r re rz ys::.poolw k pv e re rz (xs.map encw) none::Hr))(hcs:(encw y).1 r=cs)(hys:(encw y).2=ys) :
  ∃Z' pv',Fz.le Z Z'∧Z'.nm k xs.length=some b∧St c (.poolw k pv' e re rz ((xs++[y]).map encw) none::Hr) Z' w:=by
 obtain⟨Z',h1,h2,h3⟩:=(hw.perm hp).adoptW (y:=encw y) (pv':=Yw (EJ pv++[(b,r)])) hcs hys (Tv _);rw[Ab3] at h2;exact⟨Z',_,h1,h2,by rw[Acc];exact h3⟩
theorem WL.adoptW (hp:H.Perm (.blk b cs e::.row r re rz ys::.poolw k pv e re rz (xs.map encw) none::Hr))(ds:List Nat)(hd:LX l b ds)(hcs:(encw y).1 r=cs)(hys:(encw y).2=ys)
  (h:∀pv',WL P n c ops Q rest (Zl k xs.length ds l) (.poolw k pv' e re rz ((xs++[y]).map encw) none::Hr)):WL P n c ops Q rest l H:=λa w Z ha hw=>by
 obtain⟨Z',pv',h1,h2,h3⟩:=St.adoptWE hw hp hcs hys;exact h pv' a w Z' (M7 (ha.mono h1) h2 hd) h3
theorem WC.adoptW (hp:H.Perm (.blk b cs e::.row r re rz ys::.poolw k pv e re rz (xs.map encw) none::Hr))(ds:List Nat)(hd:LX l b ds)(hcs:(encw y).1 r=cs)(hys:(encw y).2=ys)
  (h:∀pv',WC P n c cx Q (Zl k xs.length ds l) (.poolw k pv' e re rz ((xs++[y]).map encw) none::Hr)):WC P n c cx Q l H:=λa w Z ha hw=>by
 obtain⟨Z',pv',h1,h2,h3⟩:=St.adoptWE hw hp hcs hys;exact h pv' a w Z' (M7 (ha.mono h1) h2 hd) h3
end
theorem JF:EJ (.tuple #[])=[]:=rfl
theorem Na (hn:Nat.blt d n=true)(h:∀b,WL P n c ops Q rest ((d,rv (.map (some b)))::l) (.poolw b (.tuple #[]) e re rz [] none::.map b []::H)) :
  WL P n c ops Q ({ dst:=some d,op:=.makeMap t none,type:=ty,pos:=pos,after:=af,guard:=none }::rest) l H:=
 K5 (λa w Z ha hw=>by
  have h1:=hw.alloc (.map #[] 0) (e:=.map w.heap.size []) ⟨#[],0,by simpa using heap_alloc_new w _,by simp,by simp,by simp,[],Abg _,trivial⟩ rfl;refine⟨_,w.alloc (.map #[] 0),_,_,Z,by simp[execOp,run_makeMap],Fz.le.refl _,rfl,?_,h w.heap.size⟩;have hz:∀i,Z.nm w.heap.size i=none:=λi=>by
   cases hq:Z.nm w.heap.size i with
   | none=>rfl
   | some b=>have:=hw.frz.nm _ _ _ hq;omega
  have hold:∀en∈(Ent.map w.heap.size []::H),∀q∈en.gk,q<w.heap.size:=λen he q hq=>by
   rcases List.mem_cons.1 he with rfl | he
   ·simp[Ent.gk] at hq
   ·exact hw.gst.sz en he q hq
  have hf:∀q,q ∉ (Ent.poolw w.heap.size (.tuple #[]) e re rz [] none).foot:=λq hq=>by simp[Ent.foot,JF,SA,Pr] at hq
  refine { h1 with has:=λen he=>?_,own:=λen he q hq=>?_,dis:=List.pairwise_cons.2 ⟨λen he q hq=>absurd hq (hf q),h1.dis⟩,zdis:=λen he q hq=>?_,gst:=⟨λen he q hq=>?_,λen he q hq=>?_,List.pairwise_cons.2 ⟨λen he q hq hq'=>?_,h1.gst.dis⟩,h1.gst.new,λen he q hq i hi=>?_⟩ }
  ·rcases List.mem_cons.1 he with rfl | he
   ·exact⟨by simp[JF],by simp[JF,SA,Pr],by simp[JF],λo ho=>(by cases ho),by simp[JF]⟩
   ·exact h1.has en he
  ·rcases List.mem_cons.1 he with rfl | he
   ·exact absurd hq (hf q)
   ·exact h1.own en he q hq
  ·rcases List.mem_cons.1 he with rfl | he
   ·exact absurd hq (hf q)
   ·exact h1.zdis en he q hq
  ·rcases List.mem_cons.1 he with rfl | he
   ·simp[Ent.gk] at hq;subst hq;exact .inl hw.size
   ·exact h1.gst.own en he q hq
  ·rcases List.mem_cons.1 he with rfl | he
   ·simp[Ent.gk] at hq;subst hq;simp
   ·exact h1.gst.sz en he q hq
  ·simp[Ent.gk] at hq;subst hq;have:=hold en he _ hq';omega
  ·rcases List.mem_cons.1 he with rfl | he
   ·simp[Ent.gk] at hq;subst hq;exact hz i
   ·exact h1.gst.cap en he q hq i hi) hn
end
end Go.Proofs.YtogdediiodmnbaaGreatDoor.Q
namespace Go.Proofs
open Go.Shelf
def Tryz.sort91_ren:Go.Shelf.Ren:=⟨fun | 6=>91 | 8=>115 | 9=>114 | 19=>152 | 20=>153 | 21=>143 | 22=>144 | 23=>145 | 24=>146 | 25=>147 | 26=>148 | 27=>149 | 28=>150 | 29=>151 | 36=>167 | 31=>168 | 32=>169 | 37=>170 | 38=>171 | 39=>172 | 41=>183 | n=>n,fun | 27=>49 | 29=>9 | 3=>3 | 32=>134 | 26=>49 | 0=>0 | 44=>186 | 46=>188 | 4=>4 | 36=>179 | 35=>178 | 41=>115 | 5=>5 | 9=>9 | 53=>198 | 57=>202 | 63=>215 | 64=>216 | n=>n,fun | n=>n⟩
theorem Tryz.sort91:Go.Proofs.SlLaysM.n6 Tryz.prog Tryz.sort91_ren:={
 mixed:=by kernel_rfl
 f6:=⟨Tryz.f91.name,by decide,Tryz.func91.trans (congrArg some (by kernel_rfl))⟩
 f8:=Tryz.func115.trans (congrArg some (by kernel_rfl))
 f9:=⟨Tryz.f114.name,by decide,Tryz.func114.trans (congrArg some (by kernel_rfl))⟩
 f19:=Tryz.func152.trans (congrArg some (by kernel_rfl))
 f20:=Tryz.func153.trans (congrArg some (by kernel_rfl))
 f21:=⟨Tryz.f143.name,by decide,Tryz.func143.trans (congrArg some (by kernel_rfl))⟩
 f22:=⟨Tryz.f144.name,by decide,Tryz.func144.trans (congrArg some (by kernel_rfl))⟩
 f23:=⟨Tryz.f145.name,by decide,Tryz.func145.trans (congrArg some (by kernel_rfl))⟩
 f24:=⟨Tryz.f146.name,by decide,Tryz.func146.trans (congrArg some (by kernel_rfl))⟩
 f25:=⟨Tryz.f147.name,by decide,Tryz.func147.trans (congrArg some (by kernel_rfl))⟩
 f26:=⟨Tryz.f148.name,by decide,Tryz.func148.trans (congrArg some (by kernel_rfl))⟩
 f27:=⟨Tryz.f149.name,by decide,Tryz.func149.trans (congrArg some (by kernel_rfl))⟩
 f28:=⟨Tryz.f150.name,by decide,Tryz.func150.trans (congrArg some (by kernel_rfl))⟩
 f29:=⟨Tryz.f151.name,by decide,Tryz.func151.trans (congrArg some (by kernel_rfl))⟩
 f31:=Tryz.func168.trans (congrArg some (by kernel_rfl))
 f32:=Tryz.func169.trans (congrArg some (by kernel_rfl))
 f36:=⟨Tryz.f167.name,by decide,Tryz.func167.trans (congrArg some (by kernel_rfl))⟩
 f37:=⟨Tryz.f170.name,by decide,Tryz.func170.trans (congrArg some (by kernel_rfl))⟩
 f38:=⟨Tryz.f171.name,by decide,Tryz.func171.trans (congrArg some (by kernel_rfl))⟩
 f39:=⟨Tryz.f172.name,by decide,Tryz.func172.trans (congrArg some (by kernel_rfl))⟩
 f41:=⟨Tryz.f183.name,by decide,Tryz.func183.trans (congrArg some (by kernel_rfl))⟩
 t0:=Tryz.underlying0
 a0:=Tryz.isAgg0
 z0:=Tryz.sizeOf0
 v0:=Tryz.zeroValue0
 t3:=Tryz.underlying3
 a3:=Tryz.isAgg3
 z3:=Tryz.sizeOf3
 v3:=Tryz.zeroValue3
 t4:=Tryz.underlying4
 a4:=Tryz.isAgg4
 z4:=Tryz.sizeOf4
 v4:=Tryz.zeroValue4
 t5:=Tryz.underlying5
 a5:=Tryz.isAgg5
 z5:=Tryz.sizeOf5
 v5:=Tryz.zeroValue5
 t9:=Tryz.underlying9
 a9:=Tryz.isAgg9
 z9:=Tryz.sizeOf9
 v9:=Tryz.zeroValue9
 t26:=Tryz.underlying49
 a26:=Tryz.isAgg49
 z26:=Tryz.sizeOf49
 v26:=Tryz.zeroValue49
 t27:=Tryz.underlying49
 a27:=Tryz.isAgg49
 z27:=Tryz.sizeOf49
 v27:=Tryz.zeroValue49
 t29:=Tryz.underlying9
 a29:=Tryz.isAgg9
 z29:=Tryz.sizeOf9
 v29:=Tryz.zeroValue9
 t32:=Tryz.underlying134
 a32:=Tryz.isAgg134
 z32:=Tryz.sizeOf134
 v32:=Tryz.zeroValue134
 t35:=Tryz.underlying178
 a35:=Tryz.isAgg178
 z35:=Tryz.sizeOf178
 v35:=Tryz.zeroValue178
 t36:=Tryz.underlying179
 a36:=Tryz.isAgg179
 z36:=Tryz.sizeOf179
 v36:=Tryz.zeroValue179
 t41:=Tryz.underlying115
 a41:=Tryz.isAgg115
 z41:=Tryz.sizeOf115
 v41:=Tryz.zeroValue115
 t44:=Tryz.underlying186
 a44:=Tryz.isAgg186
 z44:=Tryz.sizeOf186
 v44:=Tryz.zeroValue186
 t46:=Tryz.underlying188
 a46:=Tryz.isAgg188
 z46:=Tryz.sizeOf188
 v46:=Tryz.zeroValue188
 t53:=Tryz.underlying198
 a53:=Tryz.isAgg198
 z53:=Tryz.sizeOf198
 v53:=Tryz.zeroValue198
 t57:=Tryz.underlying202
 a57:=Tryz.isAgg202
 z57:=Tryz.sizeOf202
 v57:=Tryz.zeroValue202
 t63:=Tryz.underlying215
 a63:=Tryz.isAgg215
 z63:=Tryz.sizeOf215
 v63:=Tryz.zeroValue215
 t64:=Tryz.underlying216
 a64:=Tryz.isAgg216
 z64:=Tryz.sizeOf216
 v64:=Tryz.zeroValue216 }
def Tryz.sorted56_ren:Go.Shelf.Ren:=⟨fun | 6=>56 | 8=>90 | 9=>91 | 11=>113 | 13=>115 | 12=>114 | 23=>152 | 24=>153 | 14=>143 | 15=>144 | 16=>145 | 17=>146 | 18=>147 | 19=>148 | 20=>149 | 21=>150 | 22=>151 | 25=>167 | 26=>168 | 27=>169 | 28=>170 | 29=>171 | 30=>172 | 31=>183 | n=>n,fun | 26=>9 | 28=>100 | 24=>49 | 0=>0 | 3=>3 | 37=>134 | 48=>186 | 50=>188 | 4=>4 | 40=>179 | 39=>178 | 45=>115 | 5=>5 | 9=>9 | 51=>198 | 55=>202 | 57=>215 | 58=>216 | 33=>117 | n=>n,fun | n=>n⟩
theorem Tryz.sorted56:Go.Proofs.SlLaysZ.n6 Tryz.prog Tryz.sorted56_ren:={
 mixed:=by kernel_rfl
 f6:=⟨Tryz.f56.name,by decide,Tryz.func56.trans (congrArg some (by kernel_rfl))⟩
 f8:=⟨Tryz.f90.name,by decide,Tryz.func90.trans (congrArg some (by kernel_rfl))⟩
 f11:=⟨Tryz.f113.name,by decide,Tryz.func113.trans (congrArg some (by kernel_rfl))⟩
 t0:=Tryz.underlying0
 a0:=Tryz.isAgg0
 z0:=Tryz.sizeOf0
 v0:=Tryz.zeroValue0
 t24:=Tryz.underlying49
 a24:=Tryz.isAgg49
 z24:=Tryz.sizeOf49
 v24:=Tryz.zeroValue49
 t26:=Tryz.underlying9
 a26:=Tryz.isAgg9
 z26:=Tryz.sizeOf9
 v26:=Tryz.zeroValue9
 t28:=Tryz.underlying100
 a28:=Tryz.isAgg100
 z28:=Tryz.sizeOf100
 v28:=Tryz.zeroValue100
 i26:=by kernel_rfl }
def Tryz.keys57_ren:Go.Shelf.Ren:=⟨fun | 7=>57 | 10=>92 | n=>n,fun | 23=>65 | 26=>9 | 3=>89 | 28=>100 | 0=>0 | 27=>99 | 33=>117 | 4=>4 | n=>n,fun | n=>n⟩
theorem Tryz.keys57:Go.Proofs.SlLaysZ.n7 Tryz.prog Tryz.keys57_ren:={
 mixed:=by kernel_rfl
 f7:=⟨Tryz.f57.name,by decide,Tryz.func57.trans (congrArg some (by kernel_rfl))⟩
 f10:=⟨Tryz.f92.name,by decide,Tryz.func92.trans (congrArg some (by kernel_rfl))⟩
 t0:=Tryz.underlying0
 a0:=Tryz.isAgg0
 z0:=Tryz.sizeOf0
 v0:=Tryz.zeroValue0
 t4:=Tryz.underlying4
 a4:=Tryz.isAgg4
 z4:=Tryz.sizeOf4
 v4:=Tryz.zeroValue4
 t23:=Tryz.underlying65
 a23:=Tryz.isAgg65
 z23:=Tryz.sizeOf65
 v23:=Tryz.zeroValue65
 t26:=Tryz.underlying9
 a26:=Tryz.isAgg9
 z26:=Tryz.sizeOf9
 v26:=Tryz.zeroValue9
 t27:=Tryz.underlying99
 a27:=Tryz.isAgg99
 z27:=Tryz.sizeOf99
 v27:=Tryz.zeroValue99
 t28:=Tryz.underlying100
 a28:=Tryz.isAgg100
 z28:=Tryz.sizeOf100
 v28:=Tryz.zeroValue100
 t33:=Tryz.underlying117
 a33:=Tryz.isAgg117
 z33:=Tryz.sizeOf117
 v33:=Tryz.zeroValue117 }
end Go.Proofs
namespace Go.Proofs.YtogdediiodmnbaaGreatDoor.Q
open Go Go.RowKit Go.Maps Go.Sort Go.Shelf Go.Proofs
set_option linter.unusedVariables false
set_option maxHeartbeats 1000000
theorem Sv {Z:Fz}{v:Value}{vs:List Value}(h:Bt Z [rv v] vs):vs=[v]:=Bt.eq_rv (us:=[v]) h
theorem UU {T:Type}(enc:T→Rp)(xs:List (Ae×T)):(Ba enc xs).map (·.1)=xs.map (·.1):=by simp[Ba]
theorem SN (b:Nat):Fn Tryz.prog GE 57 [rv (.map (some b))] [] (λR H=>∃k:Nat,R=rv (.func (.func 92) #[] #[.pointer (some ⟨k,0,none⟩)])∧H=[.blk k [rv (.map (some b))] 65]):=λw Z vs hv hs=>by
 have e:=Sv hv;subst e;have hc:Calls Tryz.prog 57 #[.map (some b)] w (λe w'=>e = .returned (.func (.func 92) #[] #[.pointer (some ⟨w.heap.size,0,none⟩)])∧w'=w.alloc (.cells #[.map (some b)] 65)):=callsIn_wide.1 (AnyZ.keys_in Tryz.keys57 Fence.wide 5 trivial rfl (some b) w);refine hc.mono ?_;rintro e w' ⟨rfl,rfl⟩;exact⟨_,_,_,Z,rfl,⟨w.heap.size,rfl,rfl⟩,rfl,hs.alloc _ ⟨[.map (some b)],by simpa using heap_alloc_new w _,rfl,trivial⟩ rfl⟩
theorem So (m:Nat):AnyZ.SortsIn Tryz.prog Tryz.sorted56_ren Fence.wide m:=
  ⟨λblk off cap ss W hH hblk hsz=>callsIn_wide.2 (AnyM.slices_Sort_string Tryz.sort91 blk off cap ss W hH hblk hsz),
   λp cap W=>callsIn_wide.2 (AnyM.slices_Sort_string_none Tryz.sort91 p cap W)⟩
theorem QO {T:Type}(enc:T→Rp)(xs:List (Ae×T))(k b:Nat)(hk:SQ xs=true):Fn Tryz.prog GE 56 [rv (.func (.func 92) #[] #[.pointer (some ⟨k,0,none⟩)])] [.blk k [rv (.map (some b))] 65,.map b (Ba enc xs)] (λR H=>∃v:Value,R=rv v∧H=[.row v 9 1 ((Ph xs).map eS),.blk k [rv (.map (some b))] 65,.map b (Ba enc xs)]):=λw Z vs hv hs=>by
 have e:=Sv hv;subst e;obtain⟨us,h1,h2⟩:=hs.ent (i:=0) rfl;have e2:=Sv h2;subst e2;obtain⟨es,ck,h3,h4⟩:=hs.ent (i:=1) rfl;unfold SQ at hk;simp only[Abk,Abd,AbO] at hk;have hlen:(Ba enc xs).length=xs.length:=JL enc xs;have hkl:∀p∈Ba enc xs,p.1.length≤maxLen:=λp hp=>by
  obtain⟨y,hy,rfl⟩:=List.mem_map.1 hp;have:=hk.2 y hy;have e:maxLen=9223372036854775807:=rfl;rw[e];simpa[XE] using this
 obtain⟨D0,d1,d2,d3⟩:=Yo (k:=9) Tryz.underlying9 h3 h4 hkl (by rw[hlen];have:=hk.1;have e:maxLen=9223372036854775807:=rfl;omega);have hkb:k<w.heap.size:=(Array.getElem?_eq_some_iff.1 h1).1;have hcell:w.cell? ⟨k,0,none⟩=some (.map (some b)):=by simp[World.cell?,h1]
 have hseq:SeqGives Fence.wide 2 Tryz.prog 92 #[.pointer (some ⟨k,0,none⟩)] encStr (λss=>ss.Perm (strKeys D0)) (Maps.size D0) w:=
  AnyZ.keys_gives (ρ:=Tryz.keys57_ren) { Tryz.keys57 with } Fence.wide _ trivial rfl (by omega) k b es.size D0 w hkb hcell d1
 have hc:=AnyZ.sorted_in Tryz.sorted56 Fence.wide 5 trivial trivial trivial trivial rfl (by omega) (So _) (enters_of Tryz.func91 (by kernel_rfl) rfl) 92 #[.pointer (some ⟨k,0,none⟩)] trivial (enters_of Tryz.func92 (by kernel_rfl) rfl) _ (Maps.size D0) (by rw[d3,hlen];have:=hk.1;have e:maxLen=9223372036854775807:=rfl;omega) (by rw[d3,hlen];exact hk.1) w hseq;refine(callsIn_wide.1 hc).mono ?_;rintro e w' ⟨v,ss,rfl,hS,hrow,hnil,hb⟩;have hp:ss.Perm (xs.map (·.1)):=hS.trans (by rw[← UU enc xs];exact d2);have e1:ss.mergeSort (λx y=>decide (x≤y))=Ph xs:=mergeSort_of_perm hp;have e3:ss.length=(Ph xs).length:=by rw[← e1,List.length_mergeSort]
 rw[e1,e3] at hrow;exact⟨_,v,_,Z,rfl,⟨v,rfl,rfl⟩,rfl,hs.newrow hb hrow⟩
end Go.Proofs.YtogdediiodmnbaaGreatDoor.Q
