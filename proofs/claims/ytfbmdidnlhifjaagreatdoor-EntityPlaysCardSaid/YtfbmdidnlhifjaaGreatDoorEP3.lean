/-
  Texts of the proof, put together: Q6, Q9, WNa, PNb, WNb, QK, PNc, Qw, Iter.
-/
import Derived.Test.YtfbmdidnlhifjaaGreatDoorEP2
import Derived.Sort.KeysCollected
import Derived.Shelf.SlIter.Nil
import Derived.Shelf.SortM.Plain
import Derived.Shelf.SortM.SortNone
import Derived.Test.YtfbmdidnlhifjaaGreatDoorProg
namespace Go.Proofs.YtfbmdidnlhifjaaGreatDoor.Q
open Go Go.RowKit
set_option linter.unusedVariables false
set_option linter.unusedSimpArgs false
def NF (k:Nat)(i:Int)(off:Nat)(Z:Fz)(v:Value):Prop:=if i<0 then v = .pointer none else ∃b,Z.nm k i.toNat=some b∧v = .pointer (some ⟨b,off,none⟩)
def Gp (k:Nat)(i:Int)(off:Nat):Rp:=⟨NF k i off,fun {Z Z' v} h hp=>by
 unfold NF at *
 split
 ·rename_i h0;rwa [Xr h0] at hp
 ·rename_i h0;rw[Xn h0] at hp;obtain⟨b,h1,h2⟩:=hp;exact⟨b,h.nm k _ b h1,h2⟩,true,λ_ Z v hp=>by
 change NF k i off Z v at hp
 unfold NF at hp
 split at hp
 ·rw[hp];rfl
 ·obtain⟨b,_,h2⟩:=hp;rw[h2];rfl⟩
@[reducible] def eP (k:Nat) (i:Int):List Rp:=[Gp k i 0]
theorem Om (k:Nat)(i:Int):(eP k i).length=1:=rfl
theorem TR (k:Nat)(i:Int):(eP k i).all (·.one)=true:=rfl
@[reducible] def mP (k:Nat) (i:Int):Rp:=Gp k i 0
theorem Sb (k:Nat)(Z:Fz):(mP k (-1)).p Z (.pointer none):=rfl
section
variable {P : Program} {n : Nat} {c : Cx} {ops : Array Oper} {Q : Exit → Act → World → Prop} {rest : List Oper} {l : Fr} {H H' : List Ent} {d : Nat} {d' : Option Nat} {x y : Operand} {ty t t' e : TypeId} {pos : String} {af : Array Edge} {g : Option (Nat × Bool)} {v u : Value} {r : Rp} {sz k : Nat} {pv : Value} {α : Type} [Inhabited α] {xs : List α} {enc : α → List Rp}
theorem LG {Z:Fz}{w:World}{j off:Nat}{i:Int}(hw:St c H Z w)(hi:H[j]? =some (.pool k pv e (xs.map enc)))(hg:Ct i (xs.length:Int)=true)(hp:(Gp k i off).p Z v) :
  ∃b us,v = .pointer (some ⟨b,off,none⟩)∧(GW pv)[i.toNat]? =some b∧w.heap[b]? =some (.cells us.toArray e (0,0))∧Bj Z (enc (Af xs i)) us:=by
 obtain⟨h0,hl,h⟩:=hw.ent hi;have hi0:=(BZ hg).1;have hi1:i.toNat<xs.length:=by have:=(BZ hg).2;omega
 have hb:i.toNat<(GW pv).length:=by rw[hl,Xo];exact hi1
 obtain⟨h1,us,h2,h3⟩:=h i.toNat (GW pv)[i.toNat] (enc xs[i.toNat]) (Xg hb) (by simp[hi1])
 change NF k i off Z v at hp
 unfold NF at hp;rw[Xn (by omega)] at hp;obtain⟨b,h4,h5⟩:=hp;rw[h1] at h4;obtain rfl:=Option.some.inj h4;exact⟨_,us,h5,Xg hb,h2,by rw[show Af xs i=xs[i.toNat] from by simp[Af,hi1]];exact h3⟩
theorem Tr {j off:Nat}{i:Int}(hag:∀w,(isAgg t).run P w = .ok false w)(hx:ev l x=some (Gp k i off))(hi:H[j]? =some (.pool k pv e (xs.map enc)))(hg:Ct i (xs.length:Int)=true)(hc:(enc (Af xs i))[off]? =some r) :
  Bw P n c l H { dst:=d',op:=.load t x,type:=ty,pos:=pos,after:=af,guard:=g } r:=λa w Z ha hw=>by
 obtain⟨b,us,e1,_,h1,h2⟩:=LG hw hi hg (ha.ev hx);obtain⟨u,hu,hp⟩:=h2.at hc;have hcell:w.cell? ⟨b,off,none⟩=some u:=by rw[cell_of_row w b off _ e (0,0) h1];simpa using hu
 exact⟨u,hp,by simp[execOp,e1,Instr.loadAt,Instr.sureAddr,loadVar,hag,hcell]⟩
theorem HC {j off:Nat}{i:Int}{rs:List Rp}(hag:∀w,(isAgg t).run P w = .ok true w)(hsz:∀w,(sizeOf t).run P w = .ok sz w)(hx:ev l x=some (Gp k i off))(hi:H[j]? =some (.pool k pv e (xs.map enc)))(hg:Ct i (xs.length:Int)=true)
  (hr:((enc (Af xs i)).drop off).take sz=rs) (hl:rs.length=sz):Bw P n c l H { dst:=d',op:=.load t x,type:=ty,pos:=pos,after:=af,guard:=g } (Bd rs):=λa w Z ha hw=>by
 obtain⟨b,us,e1,_,h1,h2⟩:=LG hw hi hg (ha.ev hx);have h3:=(h2.drop off).take sz;rw[hr] at h3;have hlen:=h3.length;have h4:=run_loadCells_list (P:=P) w ⟨b,off,none⟩ ((us.drop off).take sz) (λj u hj=>by
  rw[Ir,cell_of_row w b _ _ e (0,0) h1];rw[X3] at hj
  split at hj
  ·simpa using hj
  ·cases hj)
 rw[hlen,hl] at h4;exact⟨.agg ((us.drop off).take sz).toArray,⟨_,rfl,h3⟩,by simp[execOp,e1,Instr.loadAt,Instr.sureAddr,loadVar,hag,hsz,h4]⟩
theorem Dd {off:Nat}{i:Int}(hx:ev l x=some (Gp k i off))(hg:decide (0≤i)=true):Bw P n c l H { dst:=d',op:=.nilCheck x,type:=ty,pos:=pos,after:=af,guard:=g } (Gp k i off):=λa w Z ha hw=>by
 have h:=ha.ev hx;have h':=h
 change NF k i off Z _ at h
 unfold NF at h;rw[Xn (by have:=XE hg;omega)] at h;obtain⟨b,_,e1⟩:=h;exact⟨a.eval x,h',by simp[execOp,e1]⟩
theorem Mm {off off' i:Nat}{q:Int}{fs:Array Field}{f:Field}(hu:P.underlying t=some (.struct fs))(hf:fs[i]? =some f)(hsz:∀w,(sizeOf f.type).run P w = .ok (sz+1) w)
  (hx:ev l x=some (Gp k q off)) (hg:decide (0≤q)=true) (ho:off+f.offset=off'):Bw P n c l H { dst:=d',op:=.fieldAddr t x i,type:=ty,pos:=pos,after:=af,guard:=g } (Gp k q off'):=λa w Z ha hw=>by
 have h:=ha.ev hx
 change NF k q off Z _ at h
 unfold NF at h;have h0:=XE hg;rw[Xn (by omega)] at h;obtain⟨b,h1,e1⟩:=h;subst ho;refine⟨.pointer (some ⟨b,off+f.offset,none⟩),?_,by simp[execOp,e1,Instr.fieldAt,run_underlying hu,hf,Instr.sureAddr,fieldPlace,hsz,Ir]⟩;show NF k q (off+f.offset) Z _;unfold NF;rw[Xn (by omega)];exact⟨b,h1,rfl⟩
theorem St.poolset {β:Type}{xs:List β}{enc:β→List Rp}{Z:Fz}{w:World}{j b:Nat}{i:Int}{us us':List Value}{y':β}(hw:St c H Z w)(hi:H[j]? =some (.pool k pv e (xs.map enc)))(hb:(GW pv)[i.toNat]? =some b)(h1:w.heap[b]? =some (.cells us.toArray e (0,0)))(h2:Bj Z (enc y') us') :
  St c (H.set j (.pool k pv e ((xs.set i.toNat y').map enc))) Z (w.setRow b us'.toArray):=by
 obtain⟨h0,hl,h⟩:=hw.ent hi;have hbl:=(List.getElem?_eq_some_iff.1 hb).1;refine hw.setp hi rfl rfl rfl (by simp[World.setRow]) (λq _ hq=>?_) ⟨h0,by simpa using hl,λi' b' cs h3 h4=>?_⟩ (λq hq=>.inl hq) rfl rfl
 ·have:q≠b:=λe=>hq (by subst e;exact Xk hb);simp only[World.setRow,Array.getElem?_modify];rw[Xn (λe=>this e.symm)]
 ·rw[List.map_set,XQ] at h4
  split at h4
  ·rename_i hii
   subst hii
   split at h4
   ·rw[hb] at h3;obtain rfl:=Option.some.inj h3;obtain rfl:=Option.some.inj h4;obtain⟨g1,_⟩:=h i.toNat b _ hb (Xg (by omega));exact⟨g1,us',setRow_heap w b _ _ e (0,0) h1,h2⟩
   ·cases h4
  ·rename_i hii
   obtain⟨g1,vs,g2,g3⟩:=h i' b' cs h3 h4;have hne:b'≠b:=λe=>hii (by
    subst e;have e1:=(List.getElem?_eq_some_iff.1 h3)
    have e2:=(List.getElem?_eq_some_iff.1 hb)
    exact(List.getElem_inj h0).1 (e2.2.trans e1.2.symm))
   refine⟨g1,vs,?_,g3⟩;simp only[World.setRow,Array.getElem?_modify];rw[Xn (λe=>hne e.symm)];exact g2
theorem R3 {j off:Nat}{i:Int}{y':α}(hag:∀w,(sizeOf t).run P w = .ok 1 w)(hx:ev l x=some (Gp k i off))(hy:ev l y=some r)(hv:QF H r)(hi:H[j]? =some (.pool k pv e (xs.map enc)))(hg:Ct i (xs.length:Int)=true)
  (hy':(enc (Af xs i)).set off r=enc y') (hlt:Nat.blt off (enc (Af xs i)).length=true) (hH:H.set j (.pool k pv e ((xs.set i.toNat y').map enc))=H') (h:WL P n c ops Q rest l H') :
  WL P n c ops Q ({ dst:=none,op:=.store t x y,type:=ty,pos:=pos,after:=af,guard:=none }::rest) l H:=
 LS λa w Z ha hw=>by
  obtain⟨b,us,e1,hb,h1,h2⟩:=LG hw hi hg (ha.ev hx);have hr:=ha.ev hy;have hone:=hv c Z w _ hw hr;have hlen:=h2.length;have hlt':off<us.length:=by rw[hlen];simpa using hlt
  have h4:=run_storeCells_at P b off e [a.eval y] 0 us.toArray w h1 (by simp;omega) (by simpa using hone);have hcv:=BN hone;have h3:us.take off++[a.eval y]++us.drop (off+1)=us.set off (a.eval y):=by
   simp[List.set_eq_take_append_cons_drop,hlt']
  simp only[Nat.add_zero,Xj,XA,X0] at h4;rw[h3] at h4;refine⟨w.setRow b (us.set off (a.eval y)).toArray,H',?_,?_,h⟩
  ·simp[execOp,e1,Instr.storeAt,Instr.sureAddr,storeVar,hag,hcv,h4]
  ·subst hH;exact hw.poolset hi hb h1 (by rw[← hy'];exact h2.set off hr)
theorem PX {j off:Nat}{i:Int}{y':α}{rs:List Rp}(hsz:∀w,(sizeOf t).run P w = .ok sz w)(hx:ev l x=some (Gp k i off))(hy:ev l y=some (Bd rs))(hl:rs.length=sz)(hv:Be H rs)(hi:H[j]? =some (.pool k pv e (xs.map enc)))(hg:Ct i (xs.length:Int)=true)
  (hlt:Nat.ble (off+sz) (enc (Af xs i)).length=true) (hy':(enc (Af xs i)).take off++rs++(enc (Af xs i)).drop (off+sz)=enc y') (hH:H.set j (.pool k pv e ((xs.set i.toNat y').map enc))=H') (h:WL P n c ops Q rest l H') :
  WL P n c ops Q ({ dst:=none,op:=.store t x y,type:=ty,pos:=pos,after:=af,guard:=none }::rest) l H:=
 LS λa w Z ha hw=>by
  obtain⟨b,us,e1,hb,h1,h2⟩:=LG hw hi hg (ha.ev hx);obtain⟨vs,e2,h4⟩:=ha.ev hy;have hlen:=h2.length;have hvl:=h4.length;have hlt':off+sz≤us.length:=by rw[hlen];simpa using hlt
  have h5:=run_storeCells_at P b off e vs 0 us.toArray w h1 (by simp;omega) (λv hv'=>hv.at hw h4 v hv');simp only[Nat.add_zero] at h5;refine⟨w.setRow b (us.take off++vs++us.drop (off+sz)).toArray,H',?_,?_,h⟩
  ·have h6:vs.length=sz:=by omega
   rw[h6] at h5;simp only[Xw] at h5 ⊢;simp[execOp,e1,e2,Instr.storeAt,Instr.sureAddr,storeVar,hsz,Value.cells,h6,h5]
  ·subst hH;exact hw.poolset hi hb h1 (by rw[← hy'];exact((h2.take off).append h4).append (h2.drop (off+sz)))
theorem St.adopt0 {Z:Fz}{w:World}{b:Nat}{cs:List Rp}{ys:List (List Rp)}{Hr:List Ent}{pv':Value}(h:St c (.blk b cs e::.pool k pv e ys::Hr) Z w)(hpv:GW pv'=GW pv++[b]):∃Z',Fz.le Z Z'∧Z'.nm k ys.length=some b∧St c (.pool k pv' e (ys++[cs])::Hr) Z' w:=by
 obtain⟨us,hb1,hb2⟩:=h.has (.blk b cs e) (by simp);obtain⟨h0,hl,hp⟩:=h.has (.pool k pv e ys) (by simp);have hd:=List.pairwise_cons.1 h.dis;have hd2:=List.pairwise_cons.1 hd.2;have gd:=List.pairwise_cons.1 h.gst.dis;have gd2:=List.pairwise_cons.1 gd.2;have hcap:=h.gst.cap (.pool k pv e ys) (by simp) k (by simp[Ent.gk]);have hksz:=h.gst.sz (.pool k pv e ys) (by simp) k (by simp[Ent.gk]);have hkown:=h.gst.own (.pool k pv e ys) (by simp) k (by simp[Ent.gk])
 let Z':Fz:=⟨Z.f,λq i=>if q=k∧i=ys.length then some b else Z.nm q i⟩
 have hnew:Z'.nm k ys.length=some b:=by simp[Z']
 have hle:Fz.le Z Z':=⟨λ_ _ h=>h,λq i b' hq=>by
  by_cases hqi:q=k∧i=ys.length
  ·obtain⟨rfl,rfl⟩:=hqi;rw[hcap _ (by simp[Ent.gn,hl])] at hq;cases hq
  ·simpa[Z',hqi] using hq⟩
 have hbn:b ∉ GW pv:=λhbs=>hd.1 (.pool k pv e ys) (by simp) b (by simp[Ent.foot]) hbs;refine⟨Z',hle,hnew,h.os,h.tape,h.output,h.size,h.old,λen he=>?_,λen he q hq=>?_,?_,⟨λb o hb=>h.frz.f b o hb,λq i b' hq=>?_⟩,h.le.trans hle,λb o hb=>h.new b o hb,λen he q hq=>?_,h.emono hle h.env,h.emono,⟨λen he q hq=>?_,λen he q hq=>?_,?_,λq i b' hq=>?_,λen he q hq i hi=>?_⟩⟩
 ·rcases List.mem_cons.1 he with rfl | he
  ·refine⟨by rw[hpv];exact List.nodup_append.2 ⟨h0,by simp,λx hx y hy e=>by simp at hy;subst hy;exact hbn (e▸hx)⟩,by rw[hpv];simp[hl],λi b' cs' h1 h2=>?_⟩
   ·rw[hpv] at h1
    by_cases hi:i<(GW pv).length
    ·rw[X6 hi] at h1;rw[X6 (by omega)] at h2;obtain⟨g1,vs,g2,g3⟩:=hp i b' cs' h1 h2;exact⟨hle.nm k i b' g1,vs,g2,g3.mono hle⟩
    ·have hi2:i=(GW pv).length:=by have:=(List.getElem?_eq_some_iff.1 h1).1;simp at this;omega
     subst hi2;simp at h1;subst h1;rw[hl] at h2;simp at h2;subst h2;exact⟨by rw[hl];exact hnew,us,hb1,hb2.mono hle⟩
  ·exact Ent.keep (h.has en (by simp[he])) hle λ_ _=>rfl
 ·rcases List.mem_cons.1 he with rfl | he
  ·rcases List.mem_append.1 (hpv▸(show q∈GW pv' from hq)) with hq | hq
   ·exact h.own (.pool k pv e ys) (by simp) q hq
   ·simp at hq;subst hq;exact h.own (.blk q cs e) (by simp) q (by simp[Ent.foot])
  ·exact h.own en (by simp[he]) q hq
 ·refine List.pairwise_cons.2 ⟨λen he q hq hq'=>?_,hd2.2⟩;rcases List.mem_append.1 (hpv▸(show q∈GW pv' from hq)) with hq | hq
  ·exact hd2.1 en he q hq hq'
  ·simp at hq;subst hq;exact hd.1 en (by simp[he]) q (by simp[Ent.foot]) hq'
 ·by_cases hqi:q=k∧i=ys.length
  ·rw[hqi.1];exact hksz
  ·exact h.frz.nm q i b' (by simpa[Z',hqi] using hq)
 ·rcases List.mem_cons.1 he with rfl | he
  ·rcases List.mem_append.1 (hpv▸(show q∈GW pv' from hq)) with hq | hq
   ·exact h.zdis (.pool k pv e ys) (by simp) q hq
   ·simp at hq;subst hq;exact h.zdis (.blk q cs e) (by simp) q (by simp[Ent.foot])
  ·exact h.zdis en (by simp[he]) q hq
 ·rcases List.mem_cons.1 he with rfl | he
  ·simp[Ent.gk] at hq;subst hq;exact hkown
  ·exact h.gst.own en (by simp[he]) q hq
 ·rcases List.mem_cons.1 he with rfl | he
  ·simp[Ent.gk] at hq;subst hq;exact hksz
  ·exact h.gst.sz en (by simp[he]) q hq
 ·exact List.pairwise_cons.2 ⟨λen he q hq hq'=>gd2.1 en he q hq hq',gd2.2⟩
 ·by_cases hqi:q=k∧i=ys.length
  ·rw[hqi.1];exact .inr hkown
  ·exact h.gst.new q i b' (by simpa[Z',hqi] using hq)
 ·rcases List.mem_cons.1 he with rfl | he
  ·simp[Ent.gk] at hq;subst hq;simp[Ent.gn,hpv] at hi;have : ¬ i=ys.length:=by omega
   simp only[Z',this,and_false,XV];exact hcap i (by simp[Ent.gn];omega)
  ·have hqk:q≠k:=λe1=>gd2.1 en he k (by simp[Ent.gk]) (e1▸hq);simp only[Z',hqk,false_and,XV];exact h.gst.cap en (by simp[he]) q hq i hi
theorem St.adopt {Z:Fz}{w:World}{b:Nat}{cs:List Rp}{ys:List (List Rp)}{Hr:List Ent}(h:St c (.blk b cs e::.pool k pv e ys::Hr) Z w):∃Z',Fz.le Z Z'∧Z'.nm k ys.length=some b∧St c (.pool k (V7 (GW pv++[b])) e (ys++[cs])::Hr) Z' w:=St.adopt0 h (UZ _)
theorem CE.re {a:Act}{Z:Fz}{d:Nat}{q r:Rp}(h:CE n l a Z)(hl:look l d=some q)(hq:∀v,q.p Z v→r.p Z v):CE n ((d,r)::l) a Z:=⟨h.size,h.defers,λi u hi=>by
 rw[BX] at hi
 split at hi
 ·rename_i e;subst e;simp at hi;subst hi
  obtain⟨v,h1,h2⟩:=h.tm d q hl;exact⟨v,h1,hq v h2⟩
 ·exact h.tm i u hi⟩
theorem NF.of {Z:Fz}{b N:Nat}(h:Z.nm k N=some b):∀v,(rv (.pointer (some ⟨b,0,none⟩))).p Z v→(Gp k (N:Int) 0).p Z v:=λv hv=>by
 show NF k N 0 Z v;unfold NF;rw[Xn (by omega)];exact⟨b,by simpa using h,hv⟩
def K9 (l:Fr)(b:Nat):List Nat→Prop
 | []=>True
 | d::ds=>look l d=some (rv (.pointer (some ⟨b,0,none⟩)))∧K9 l b ds
def Vp (k N:Nat):List Nat→Fr→Fr
 | [],l=>l
 | d::ds,l=>(d,Gp k (N:Int) 0)::Vp k N ds l
theorem Le {Z:Fz}{a:Act}{b N:Nat}{l:Fr}(ha:CE n l a Z)(hn:Z.nm k N=some b):∀{ds:List Nat},K9 l b ds→CE n (Vp k N ds l) a Z
 | [],_=>ha
 | d::ds,⟨h1,h2⟩=>by
  have h3:=Le ha hn h2;refine⟨h3.size,h3.defers,λi u hi=>?_⟩;rw[Vp,BX] at hi
  split at hi
  ·rename_i e;subst e;simp at hi;subst hi
   obtain⟨v,h4,h5⟩:=ha.tm d _ h1;exact⟨v,h4,NF.of hn v h5⟩
  ·exact h3.tm i u hi
theorem St.adoptE {β:Type}{xs:List β}{enc:β→List Rp}{Z:Fz}{w:World}{b:Nat}{y:β}{Hr:List Ent}{cs:List Rp}(hw:St c H Z w)(hp:H.Perm (.blk b cs e::.pool k pv e (xs.map enc)::Hr))(hcs:cs=enc y) :
  ∃Z' pv',Fz.le Z Z'∧Z'.nm k xs.length=some b∧St c (.pool k pv' e ((xs++[y]).map enc)::Hr) Z' w:=by
 obtain⟨Z',h1,h2,h3⟩:=(hw.perm hp).adopt;subst hcs;rw[Xo] at h2;exact⟨Z',_,h1,h2,by rw[XM];exact h3⟩
theorem WL.adopt {β:Type}{xs:List β}{enc:β→List Rp}{b:Nat}{y:β}{Hr:List Ent}{cs:List Rp}(hp:H.Perm (.blk b cs e::.pool k pv e (xs.map enc)::Hr))(ds:List Nat)(hd:K9 l b ds)(hcs:cs=enc y)
  (h:∀pv',WL P n c ops Q rest (Vp k xs.length ds l) (.pool k pv' e ((xs++[y]).map enc)::Hr)):WL P n c ops Q rest l H:=λa w Z ha hw=>by
 obtain⟨Z',pv',h1,h2,h3⟩:=St.adoptE hw hp hcs;exact h pv' a w Z' (Le (ha.mono h1) h2 hd) h3
theorem WC.adopt {β:Type}{xs:List β}{enc:β→List Rp}{b:Nat}{y:β}{Hr:List Ent}{cs:List Rp}{xx:Code}(hp:H.Perm (.blk b cs e::.pool k pv e (xs.map enc)::Hr))(ds:List Nat)(hd:K9 l b ds)(hcs:cs=enc y)
  (h:∀pv',WC P n c xx Q (Vp k xs.length ds l) (.pool k pv' e ((xs++[y]).map enc)::Hr)):WC P n c xx Q l H:=λa w Z ha hw=>by
 obtain⟨Z',pv',h1,h2,h3⟩:=St.adoptE hw hp hcs;exact h pv' a w Z' (Le (ha.mono h1) h2 hd) h3
theorem WK.adopt {β:Type}{xs:List β}{enc:β→List Rp}{b:Nat}{y:β}{Hr:List Ent}{cs:List Rp}{K:Act→World→Prop}(hp:H.Perm (.blk b cs e::.pool k pv e (xs.map enc)::Hr))(ds:List Nat)(hd:K9 l b ds)(hcs:cs=enc y)
  (h:∀pv',WK n c K (Vp k xs.length ds l) (.pool k pv' e ((xs++[y]).map enc)::Hr)):WK n c K l H:=λa w Z ha hw=>by
 obtain⟨Z',pv',h1,h2,h3⟩:=St.adoptE hw hp hcs;exact h pv' a w Z' (Le (ha.mono h1) h2 hd) h3
theorem IF:GW (.tuple #[])=[]:=rfl
theorem LU (hn:Nat.blt d n=true)(h:∀b,WL P n c ops Q rest ((d,rv (.map (some b)))::l) (.pool b (.tuple #[]) e []::.map b []::H)) :
  WL P n c ops Q ({ dst:=some d,op:=.makeMap t none,type:=ty,pos:=pos,after:=af,guard:=none }::rest) l H:=
 KC (λa w Z ha hw=>by
  have h1:=hw.alloc (.map #[] 0) (e:=.map w.heap.size []) ⟨#[],0,by simpa using heap_alloc_new w _,by simp,by simp,by simp,[],Xd _,trivial⟩ rfl;refine⟨_,w.alloc (.map #[] 0),_,_,Z,by simp[execOp,run_makeMap],Fz.le.refl _,rfl,?_,h w.heap.size⟩;have hz:∀i,Z.nm w.heap.size i=none:=λi=>by
   cases hq:Z.nm w.heap.size i with
   | none=>rfl
   | some b=>have:=hw.frz.nm _ _ _ hq;omega
  have hold:∀en∈(Ent.map w.heap.size []::H),∀q∈en.gk,q<w.heap.size:=λen he q hq=>by
   rcases List.mem_cons.1 he with rfl | he
   ·simp[Ent.gk] at hq
   ·exact hw.gst.sz en he q hq
  refine { h1 with has:=λen he=>?_,own:=λen he q hq=>?_,dis:=List.pairwise_cons.2 ⟨λen he q hq=>by simp[Ent.foot,IF] at hq,h1.dis⟩,zdis:=λen he q hq=>?_,gst:=⟨λen he q hq=>?_,λen he q hq=>?_,List.pairwise_cons.2 ⟨λen he q hq hq'=>?_,h1.gst.dis⟩,h1.gst.new,λen he q hq i hi=>?_⟩ }
  ·rcases List.mem_cons.1 he with rfl | he
   ·exact⟨by simp[IF],by simp[IF],by simp⟩
   ·exact h1.has en he
  ·rcases List.mem_cons.1 he with rfl | he
   ·simp[Ent.foot,IF] at hq
   ·exact h1.own en he q hq
  ·rcases List.mem_cons.1 he with rfl | he
   ·simp[Ent.foot,IF] at hq
   ·exact h1.zdis en he q hq
  ·rcases List.mem_cons.1 he with rfl | he
   ·simp[Ent.gk] at hq;subst hq;exact .inl hw.size
   ·exact h1.gst.own en he q hq
  ·rcases List.mem_cons.1 he with rfl | he
   ·simp[Ent.gk] at hq;subst hq;simp
   ·exact h1.gst.sz en he q hq
  ·simp[Ent.gk] at hq;subst hq;have:=hold en he _ hq';omega
  ·rcases List.mem_cons.1 he with rfl | he
   ·simp[Ent.gk] at hq;subst hq;exact hz i
   ·exact h1.gst.cap en he q hq i hi) hn
end
def WI (m:List (List UInt8×Rp))(Z:Fz)(v:Value):Prop:=∃b es ck,v = .map (some b)∧Z b=some (.map es ck)∧Gm Z m es.toList ck
def RB (m:List (List UInt8×Rp)):Rp:=⟨WI m,λh ⟨b,es,ck,h1,h2,h3⟩=>⟨b,es,ck,h1,h.f b _ h2,h3.mono h⟩,true,λ_ Z v ⟨b,es,ck,h1,_⟩=>by rw[h1];rfl⟩
@[reducible] def mF (f:Nat):Rp:=rv (.func (.func f) #[] #[])
section
variable {P : Program} {n : Nat} {c : Cx} {ops opsA : Array Oper} {Q : Exit → Act → World → Prop} {rest : List Oper} {l : Fr} {H : List Ent} {d : Nat} {d' : Option Nat} {ty t kt et rty : TypeId} {pos : String} {af : Array Edge} {g : Option (Nat × Bool)} {x y u : Operand} {K : Act → World → Prop} {cx : Code} {r : Rp}
variable {T : Type} {enc : T → Rp} {xs : List (Aq × T)} {z : T} {k : Aq} {zv : Value} {i b : Nat}
theorem St.freezeM {Z:Fz}{w:World}(h:St c H Z w){m:List (List UInt8×Rp)}(hi:H[i]? =some (.map b m)):∃Z',Fz.le Z Z'∧St c (.fact (.map (some b)) (RB m)::H.eraseIdx i) Z' w:=by
 obtain⟨es,ck,hg,hm⟩:=h.ent hi;have hmem:=Xk hi;have hgz:Z b=none:=h.zdis _ hmem b (by simp[Ent.foot])
 let Z':Fz:=⟨λq=>if q=b then some (.map es ck) else Z q,Z.nm⟩
 have hle:Fz.le Z Z':=⟨λq o hb=>by
  have:q≠b:=λe=>by subst e;rw[hgz] at hb;cases hb
  simpa[Z',this] using hb,λ_ _ _ h=>h⟩
 have hfr:=h.front hi;have hd:=List.pairwise_cons.1 hfr.dis;have hs:=hfr.sub (List.sublist_cons_self _ _);have hs':St c (H.eraseIdx i) Z' w:=by
  refine { hs with has:=λen he=>Ent.keep (hs.has en he) hle λ_ _=>rfl,frz:=⟨λq o hb=>?_,h.frz.nm⟩,gst:=hs.gst.names rfl,le:=hs.le.trans hle,new:=λq o hb=>?_,zdis:=λen he k hk=>?_,env:=hs.emono hle hs.env }
  ·by_cases hbg:q=b
   ·subst hbg;simp[Z'] at hb;rw[← hb];exact hg
   ·simp[Z',hbg] at hb;exact h.frz q o hb
  ·by_cases hbg:q=b
   ·subst hbg;exact .inr (h.own _ hmem q (by simp[Ent.foot]))
   ·simp[Z',hbg] at hb;exact h.new q o hb
  ·have hkg:k≠b:=λe=>hd.1 en he b (by simp[Ent.foot]) (e▸hk);simp only[Z',hkg,XV];exact hs.zdis en he k hk
 exact⟨Z',hle,hs'.add rfl rfl rfl (Xq _) (λ_ _=>rfl) (e':=.fact (.map (some b)) (RB m)) ⟨b,es,ck,rfl,by simp[Z'],hm.mono hle⟩ (by simp[Ent.foot])⟩
theorem WK.freezeM {m:List (List UInt8×Rp)}(hi:H[i]? =some (.map b m))(h:WK n c K l (.fact (.map (some b)) (RB m)::H.eraseIdx i)):WK n c K l H:=λa w Z ha hw=>by
 obtain⟨Z',hz,hs⟩:=St.freezeM hw hi;exact h a w Z' (ha.mono hz) hs
theorem WC.freezeM {m:List (List UInt8×Rp)}(hi:H[i]? =some (.map b m))(h:WC P n c cx Q l (.fact (.map (some b)) (RB m)::H.eraseIdx i)):WC P n c cx Q l H:=λa w Z ha hw=>by
 obtain⟨Z',hz,hs⟩:=St.freezeM hw hi;exact h a w Z' (ha.mono hz) hs
theorem WL.freezeM {m:List (List UInt8×Rp)}(hi:H[i]? =some (.map b m))(h:WL P n c ops Q rest l (.fact (.map (some b)) (RB m)::H.eraseIdx i)):WL P n c ops Q rest l H:=λa w Z ha hw=>by
 obtain⟨Z',hz,hs⟩:=St.freezeM hw hi;exact h a w Z' (ha.mono hz) hs
theorem WI.heap {Z:Fz}{w:World}(hf:Ru Z w){m:List (List UInt8×Rp)}{v:Value}(h:(RB m).p Z v):∃b,v = .map (some b)∧(Ent.map b m).holds Z w:=by
 obtain⟨b,es,ck,h1,h2,h3⟩:=h;exact⟨b,h1,es,ck,hf b _ h2,h3⟩
theorem HU {q:T}(ht:P.underlying t=some (.map kt et))(hk:P.underlying kt=some .string)(hx:ev l x=some (RB (AG enc xs)))(hy:ev l y=some (rS k))(hq:BA xs k=some q) :
  Bw P n c l H { dst:=d',op:=.lookup t x y false,type:=ty,pos:=pos,after:=af,guard:=g } (enc q):=λa w Z ha hw=>by
 obtain⟨b,e1,es,ck,h1,h2⟩:=WI.heap hw.frz (ha.ev hx);have hq':BA (AG enc xs) k=some (enc q):=by rw[I6,hq];rfl
 rcases Ol h2 k with⟨q1,q2,_⟩ | ⟨j,e,r,q1,_,_,q2,q3⟩
 ·rw[hq'] at q2;cases q2
 ·rw[hq'] at q2;obtain rfl:=Option.some.inj q2;exact⟨e.val,q3,by simp[execOp,e1,ha.eval hy,Instr.lookup,run_underlying ht,MapKept.run_getObj_map h1,MapKept.run_checkKey hk (Ge _),MapKept.run_findKey hk q1]⟩
theorem Ob {f:FuncId}{args:List Operand}{ats:Array TypeId}{rs:List Rp}(hcall:∀(as1:Array Value) (w:World),(callFunc f as1).run P w = .ok (.enter f as1) w)(hc:MX P c.E f rs r)(hx:ev l x=some (mF f))(hv:MV l args=some rs) :
  DA P n c opsA Q l H { dst:=some d,op:=.call { callee:=.value x,args:=args.toArray,argTypes:=ats },type:=ty,pos:=pos,after:=af,guard:=none } r H:=λa w Z K ha hw hK=>
 ⟨λ_=>by
  unfold Oper.wp;rw[Lm (caps:=[]) rfl (ha.eval hx) hcall w];refine(hc w Z _ (by have:=(Hh ha hv);simpa using this) (St.enter (Hin:=[]) (Hr:=H) hw)).mono ?_;rintro e w' ⟨r2,v,Ho,Z',rfl,⟨rfl,rfl⟩,hr2,hs⟩;exact hK v w' Z' hs.le hr2 (by simpa using hw.call0 hs),λh=>by simp[Region.wanted] at h⟩
end
set_option maxRecDepth 100000
set_option maxHeartbeats 4000000
@[reducible] def Ju (x:Int):Rp:=Aj x
theorem UF (Z:Fz):(Ju 0).p Z (.int .i64 0):=rfl
@[reducible] def Ai (x:(List Ac)):List Rp:=[AD 4 (Ap Ab x)]
theorem Er (x:(List Ac)):(Ai x).length=1:=rfl
theorem L6 (x:(List Ac)):(Ai x).all (·.one)=true:=rfl
@[reducible] def Am (x:A6):List Rp:=[rS x.fEntity,rS x.fID,rS x.fOp,AD 1 (Ap Ai x.fArgs)]
@[reducible] def Ao (x:A8):List Rp:=[Aj x.fErr,AD 4 (Ap Ab x.fValue)]
@[reducible] def Ad (x:Al):List Rp:=[rS x.fOp.fEntity,rS x.fOp.fID,rS x.fOp.fOp,AD 1 (Ap Ai x.fOp.fArgs),Aj x.fAnswer.fErr,AD 4 (Ap Ab x.fAnswer.fValue),Aj x.fFrom,Aj x.fTo]
theorem CL (x:Al):(Ad x).length=8:=rfl
theorem Hq (x:Al):(Ad x).all (·.one)=true:=rfl
theorem Nx:∃inf,Tryz.prog.info? 9=some inf∧inf.zero=some (.string ⟨#[]⟩)∧inf.size=1∧inf.bytes=16:=by
  have key:(Tryz.prog.info? 9).map (λi=>(i.zero,i.size,i.bytes))=some (some (.string ⟨#[]⟩),1,16):=by kernel_rfl
  obtain⟨inf,h1,h2⟩:=Option.map_eq_some_iff.1 key;simp only[Prod.mk.injEq] at h2;exact⟨inf,h1,h2.1,h2.2.1,h2.2.2⟩
theorem VB:∃inf,Tryz.prog.info? 22=some inf∧inf.zero=some (.slice none 0 0)∧inf.size=1∧inf.bytes=24:=by
  have key:(Tryz.prog.info? 22).map (λi=>(i.zero,i.size,i.bytes))=some (some (.slice none 0 0),1,24):=by kernel_rfl
  obtain⟨inf,h1,h2⟩:=Option.map_eq_some_iff.1 key;simp only[Prod.mk.injEq] at h2;exact⟨inf,h1,h2.1,h2.2.1,h2.2.2⟩
theorem VA:∃inf,Tryz.prog.info? 63=some inf∧inf.zero=some (.agg #[(.int .i64 0),(.int .i64 0),(.string ⟨#[]⟩),(.int .i64 0)])∧inf.size=4∧inf.bytes=40:=by
  have key:(Tryz.prog.info? 63).map (λi=>(i.zero,i.size,i.bytes))=some (some (.agg #[(.int .i64 0),(.int .i64 0),(.string ⟨#[]⟩),(.int .i64 0)]),4,40):=by kernel_rfl
  obtain⟨inf,h1,h2⟩:=Option.map_eq_some_iff.1 key;simp only[Prod.mk.injEq] at h2;exact⟨inf,h1,h2.1,h2.2.1,h2.2.2⟩
theorem Oo (parts:List (Nat×Value)):Tryz.prog.built 31 parts=Instr.fill (λi=>(#[(0,1),(1,1)]:Array (Nat×Nat))[i]?) #[(.int .i64 0),((.slice none 0 0))] parts:=by kernel_rfl
theorem Gc {n:Nat}{c:Cx}{l:Fr}{H:List Ent}{d:Option Nat}{ty:TypeId}{pos:String}{af:Array Edge}{g:Option (Nat×Bool)}:Bw Tryz.prog n c l H { dst:=d,op:=.build 31 #[],type:=ty,pos:=pos,after:=af,guard:=g } (Bd [Aj 0,rv (.slice none 0 0)]):=λa w Z ha _=>by
  have hb:Tryz.prog.built 31 []=some #[(.int .i64 0),((.slice none 0 0))]:=by
    rw[Oo];simp[Instr.fill,Value.cells]
  refine⟨.agg #[(.int .i64 0),((.slice none 0 0))],⟨[(.int .i64 0),((.slice none 0 0))],rfl,rfl,rfl,trivial⟩,?_⟩;have:=run_build w 31 #[] _ (by simpa using hb);simp[execOp,this]
theorem DR {n:Nat}{c:Cx}{l:Fr}{H:List Ent}{d:Option Nat}{ty:TypeId}{pos:String}{af:Array Edge}{g:Option (Nat×Bool)}{x0:Operand}{r0:Rp}(h0:ev l x0=some r0)(u0:r0.one=true):Bw Tryz.prog n c l H { dst:=d,op:=.build 31 #[(0,x0)],type:=ty,pos:=pos,after:=af,guard:=g } (Bd [r0,rv (.slice none 0 0)]):=λa w Z ha _=>by
  have p0:=ha.ev h0;have c0:=BN (r0.hone u0 Z _ p0);have hb:Tryz.prog.built 31 [(0,a.eval x0)]=some #[a.eval x0,((.slice none 0 0))]:=by
    rw[Oo];generalize a.eval x0=v0 at *;simp[Instr.fill,c0]
  refine⟨.agg #[a.eval x0,((.slice none 0 0))],⟨[a.eval x0,((.slice none 0 0))],rfl,p0,rfl,trivial⟩,?_⟩;have:=run_build w 31 #[(0,a.eval x0)] _ (by simpa using hb);simp[execOp,this]
theorem Cb {n:Nat}{c:Cx}{l:Fr}{H:List Ent}{d:Option Nat}{ty:TypeId}{pos:String}{af:Array Edge}{g:Option (Nat×Bool)}{x1:Operand}{r1:Rp}(h1:ev l x1=some r1)(u1:r1.one=true):Bw Tryz.prog n c l H { dst:=d,op:=.build 31 #[(1,x1)],type:=ty,pos:=pos,after:=af,guard:=g } (Bd [Aj 0,r1]):=λa w Z ha _=>by
  have p1:=ha.ev h1;have c1:=BN (r1.hone u1 Z _ p1);have hb:Tryz.prog.built 31 [(1,a.eval x1)]=some #[(.int .i64 0),a.eval x1]:=by
    rw[Oo];generalize a.eval x1=v1 at *;simp[Instr.fill,c1]
  refine⟨.agg #[(.int .i64 0),a.eval x1],⟨[(.int .i64 0),a.eval x1],rfl,rfl,p1,trivial⟩,?_⟩;have:=run_build w 31 #[(1,a.eval x1)] _ (by simpa using hb);simp[execOp,this]
theorem D1 (ys:(List Ac))(r:(List Ac))(h:Dr ys=some r):Fn Tryz.prog GE 39 [AD 4 (Ap Ab ys)] [] (λR H=>R=AD 4 (Ap Ab r)∧H=[]):=by
 refine enter (n:=8) Tryz.func39 Aa Tryz.ntmps39 Aa (λw Z=>?_);unfold Dr at h;refine An (wa Aa (Ax (Av (An (wm Aa (wv (RK Ci Aa) (Ax (SN Aa (λc1=>?_) (λc1=>?_)))))))))
 ·have e2:ys=[]:=List.map_eq_nil_iff.1 (c1 rfl);have h3:some ([]:List Ac)=some r:=by rw[e2] at h;exact(TT h).2
  refine An (wa Aa (Ax (A0 (Ah (WK.up (d:=2) (r:=AD 4 (Ap Ab ([]:List Ac))) Aa (Up.le (Gx.nil _)) ?_)))));obtain rfl:=A2 h3;exact Az (BI Tryz.results39 (AR Aa)) sN ⟨Aa,Aa⟩
 ·refine A1 (AT (An (Bl (ys:=([]:List Ac)) (enc:=Ab) (css:=[]) (xs:=[]) Ci Cp Jn Aa Aa Aa trivial Aa BT Aa Aa Aa (λb4=>?_))));refine wm Aa (ck h λg6 h7=>Exists.elim VA λinf hinf=>Da (xs:=([]:List Ac)) (ys:=ys) (enc:=Ab) (i:=0) Ci hinf.1 hinf.2.1 hinf.2.2.1 hinf.2.2.2 Aa Aa Aa Aa Aa (MK.z Aa Aa) BT MW g6 Aa (λv5=>?_));refine wa Aa (Ax (A0 (WK.freeze (i:=0) Aa (WK.up (d:=2) (r:=AD 4 (Ap Ab (([]:List Ac)++ys))) Aa (Up.fact (i:=0) Aa) ?_))));obtain rfl:=A2 h7;exact Az (BI Tryz.results39 (AR Aa)) (sS sN) ⟨Aa,Aa⟩
theorem Si (c:Int)(r:Bool)(h:Oi c=some r):Fn Tryz.prog GE 97 [rI .u8 c] [] (λR H=>R=rB r∧H=[]):=by
 refine enter (n:=9) Tryz.func97 Aa Tryz.ntmps97 Aa (λw Z=>?_);unfold Oi at h;refine An (wa Aa (Ax (AU [(2,rB ((decide (97≤c))&&(decide (c≤122))))] [] ?_ ?_)))
 ·refine Au (wm Aa (wv (Iq Aa Aa) (wm Aa (AY (decide (97≤c)) (λc1=>?_) (λc1=>?_)))))
  ·refine wo c1 (wm Aa (wo c1 (wv (MP Aa Aa) (EP Aa c1 Aa (wa Aa (At ?_))))));exact Cg c1
  ·refine wf c1 (wf c1 (wv (r:=rB false) (AH Aa c1 Aa) (wa Aa (At ?_))));exact Cg c1
 refine A0 ?_;obtain rfl:=A2 h;exact Az (BI Tryz.results97 (AR Aa)) sN ⟨Aa,Aa⟩
theorem Nz (c:Int)(r:Bool)(h:LL c=some r):Fn Tryz.prog GE 98 [rI .u8 c] [] (λR H=>R=rB r∧H=[]):=by
 refine enter (n:=9) Tryz.func98 Aa Tryz.ntmps98 Aa (λw Z=>?_);unfold LL at h;refine An (wa Aa (Ax (AU [(2,rB ((decide (48≤c))&&(decide (c≤57))))] [] ?_ ?_)))
 ·refine Au (wm Aa (wv (Iq Aa Aa) (wm Aa (AY (decide (48≤c)) (λc1=>?_) (λc1=>?_)))))
  ·refine wo c1 (wm Aa (wo c1 (wv (MP Aa Aa) (EP Aa c1 Aa (wa Aa (At ?_))))));exact Cg c1
  ·refine wf c1 (wf c1 (wv (r:=rB false) (AH Aa c1 Aa) (wa Aa (At ?_))));exact Cg c1
 refine A0 ?_;obtain rfl:=A2 h;exact Az (BI Tryz.results98 (AR Aa)) sN ⟨Aa,Aa⟩
theorem TG (c:Int)(r:Bool)(h:Oj c=some r):Fn Tryz.prog GE 82 [rI .u8 c] [] (λR H=>R=rB r∧H=[]):=by
 refine enter (n:=37) Tryz.func82 Aa Tryz.ntmps82 Aa (λw Z=>?_);unfold Oj at h;refine An (wa Aa (Ax (Co (S:=(Bool)×(Unit)) (λσ=>Cr σ.1=some r) (λσ=>[(2,rB σ.1)]) (λσ=>[]) ?_ ?_)))
 ·refine Au (wm Aa (ob h λhr hs ht=>Cl Tryz.call97 (Si c hr hs) Aa (wm Aa (bz ht (λha hu=>?_) (λha hw=>?_)))))
  ·refine wf ha (wf ha (wf ha (wu (wu (wf ha (wv (r:=rB true) (Ar Aa ha Aa) (wm Aa (wz Aa Aa (wz Aa Aa (wv (r:=rB true) (Ar (b:=true) Aa Aa Aa) (wm Aa (wz Aa Aa (wz Aa Aa (wv (r:=rB true) (Ar (b:=true) Aa Aa Aa) (wm Aa (wz Aa Aa (wz Aa Aa (wv (r:=rB true) (Ar (b:=true) Aa Aa Aa) (wm Aa (wz Aa Aa (wz Aa Aa (wv (r:=rB true) (Ar (b:=true) Aa Aa Aa) (wm Aa ?_)))))))))))))))))))))));exact wz Aa Aa (wz Aa Aa (wv (r:=rB true) (Ar (b:=true) Aa Aa Aa) (wm Aa (wz Aa Aa (wz Aa Aa (wv (r:=rB true) (Ar (b:=true) Aa Aa Aa) (wa Aa (At (AC (AA (true,()) hu (AJ.c Aa AJ.nil) sN))))))))))
  ·refine wo ha (wm Aa (wo ha (wv (Iq Aa Aa) (wo ha (wm Aa (bz hw (λhb hx=>?_) (λhb hy=>?_)))))))
   ·refine wo hb (wm Aa (wo hb (wv (MP Aa Aa) (wo ha (EP Aa hb Aa (DB Aa ha Aa (wm Aa (bz hx (λhd hz=>?_) (λhd h0=>?_)))))))))
    ·refine wf hd (wf hd (wv (r:=rB true) (Ar Aa hd Aa) (wm Aa (wz Aa Aa (wz Aa Aa (wv (r:=rB true) (Ar (b:=true) Aa Aa Aa) (wm Aa (wz Aa Aa (wz Aa Aa (wv (r:=rB true) (Ar (b:=true) Aa Aa Aa) (wm Aa (wz Aa Aa (wz Aa Aa (wv (r:=rB true) (Ar (b:=true) Aa Aa Aa) (wm Aa (wz Aa Aa (wz Aa Aa (wv (r:=rB true) (Ar (b:=true) Aa Aa Aa) (wm Aa (wz Aa Aa (wz Aa Aa (wv (r:=rB true) (Ar (b:=true) Aa Aa Aa) (wa Aa ?_)))))))))))))))))))))));exact At (AC (AA (true,()) hz (AJ.c Aa AJ.nil) sN))
    ·refine wo hd (wm Aa (wo hd (ob h0 λh1 h2 h3=>Cl Tryz.call98 (Nz c h1 h2) Aa (DB Aa hd Aa (wm Aa (bz h3 (λhe h4=>?_) (λhe h5=>?_)))))))
     ·exact wf he (wf he (wv (r:=rB true) (Ar Aa he Aa) (wm Aa (wz Aa Aa (wz Aa Aa (wv (r:=rB true) (Ar (b:=true) Aa Aa Aa) (wm Aa (wz Aa Aa (wz Aa Aa (wv (r:=rB true) (Ar (b:=true) Aa Aa Aa) (wm Aa (wz Aa Aa (wz Aa Aa (wv (r:=rB true) (Ar (b:=true) Aa Aa Aa) (wm Aa (wz Aa Aa (wz Aa Aa (wv (r:=rB true) (Ar (b:=true) Aa Aa Aa) (wa Aa (At (AC (AA (true,()) h4 (AJ.c Aa AJ.nil) sN))))))))))))))))))))))
     ·refine wo he (wm Aa (wo he (wv (B5 Aa Aa) (DB Aa he Aa (wm Aa (bz h5 (λhf h6=>?_) (λhf h7=>?_)))))))
      ·exact wf hf (wf hf (wv (r:=rB true) (Ar Aa hf Aa) (wm Aa (wz Aa Aa (wz Aa Aa (wv (r:=rB true) (Ar (b:=true) Aa Aa Aa) (wm Aa (wz Aa Aa (wz Aa Aa (wv (r:=rB true) (Ar (b:=true) Aa Aa Aa) (wm Aa (wz Aa Aa (wz Aa Aa (wv (r:=rB true) (Ar (b:=true) Aa Aa Aa) (wa Aa (At (AC (AA (true,()) h6 (AJ.c Aa AJ.nil) sN))))))))))))))))))
      ·refine wo hf (wm Aa (wo hf (wv (B5 Aa Aa) (DB Aa hf Aa (wm Aa (bz h7 (λhg h8=>?_) (λhg h9=>?_)))))))
       ·exact wf hg (wf hg (wv (r:=rB true) (Ar Aa hg Aa) (wm Aa (wz Aa Aa (wz Aa Aa (wv (r:=rB true) (Ar (b:=true) Aa Aa Aa) (wm Aa (wz Aa Aa (wz Aa Aa (wv (r:=rB true) (Ar (b:=true) Aa Aa Aa) (wa Aa (At (AC (AA (true,()) h8 (AJ.c Aa AJ.nil) sN))))))))))))))
       ·refine wo hg (wm Aa (wo hg (wv (B5 Aa Aa) (DB Aa hg Aa (wm Aa (bz h9 (λhh hA=>?_) (λhh hB=>?_)))))))
        ·exact wf hh (wf hh (wv (r:=rB true) (Ar Aa hh Aa) (wm Aa (wz Aa Aa (wz Aa Aa (wv (r:=rB true) (Ar (b:=true) Aa Aa Aa) (wa Aa (At (AC (AA (true,()) hA (AJ.c Aa AJ.nil) sN))))))))))
        ·refine wo hh (wm Aa (wo hh (wv (B5 Aa Aa) (DB Aa hh Aa (wm Aa (bz hB (λhi hC=>?_) (λhi hD=>?_)))))))
         ·exact wf hi (wf hi (wv (r:=rB true) (Ar Aa hi Aa) (wa Aa (At (AC (AA (true,()) hC (AJ.c Aa AJ.nil) sN))))))
         ·exact wo hi (wm Aa (wo hi (wv (B5 Aa Aa) (DB Aa hi Aa (wa Aa (At (AC (AA (decide (c=47),()) hD (AJ.c Aa AJ.nil) sN))))))))
   ·refine wf hb (wf hb (wo ha (wv (r:=rB false) (AH Aa hb Aa) (DB Aa ha Aa (wm Aa (Bz (b:=false) Aa Aa Aa (wm Aa (Bz (b:=false) Aa Aa Aa (ob hy λhp hE hG=>Cl Tryz.call98 (Nz c hp hE) Aa (wv (r:=rB hp) (AH (b:=false) Aa Aa Aa) (wm Aa (bz hG (λhj hH=>?_) (λhj hI=>?_)))))))))))))
    ·exact wf hj (wf hj (wv (r:=rB true) (Ar Aa hj Aa) (wm Aa (wz Aa Aa (wz Aa Aa (wv (r:=rB true) (Ar (b:=true) Aa Aa Aa) (wm Aa (wz Aa Aa (wz Aa Aa (wv (r:=rB true) (Ar (b:=true) Aa Aa Aa) (wm Aa (wz Aa Aa (wz Aa Aa (wv (r:=rB true) (Ar (b:=true) Aa Aa Aa) (wm Aa (wz Aa Aa (wz Aa Aa (wv (r:=rB true) (Ar (b:=true) Aa Aa Aa) (wa Aa (At (AC (AA (true,()) hH (AJ.c Aa AJ.nil) sN))))))))))))))))))))))
    ·refine wo hj (wm Aa (wo hj (wv (B5 Aa Aa) (DB Aa hj Aa (wm Aa (bz hI (λhk hJ=>?_) (λhk hK=>?_)))))))
     ·exact wf hk (wf hk (wv (r:=rB true) (Ar Aa hk Aa) (wm Aa (wz Aa Aa (wz Aa Aa (wv (r:=rB true) (Ar (b:=true) Aa Aa Aa) (wm Aa (wz Aa Aa (wz Aa Aa (wv (r:=rB true) (Ar (b:=true) Aa Aa Aa) (wm Aa (wz Aa Aa (wz Aa Aa (wv (r:=rB true) (Ar (b:=true) Aa Aa Aa) (wa Aa (At (AC (AA (true,()) hJ (AJ.c Aa AJ.nil) sN))))))))))))))))))
     ·refine wo hk (wm Aa (wo hk (wv (B5 Aa Aa) (DB Aa hk Aa (wm Aa (bz hK (λhl hL=>?_) (λhl hN=>?_)))))))
      ·exact wf hl (wf hl (wv (r:=rB true) (Ar Aa hl Aa) (wm Aa (wz Aa Aa (wz Aa Aa (wv (r:=rB true) (Ar (b:=true) Aa Aa Aa) (wm Aa (wz Aa Aa (wz Aa Aa (wv (r:=rB true) (Ar (b:=true) Aa Aa Aa) (wa Aa (At (AC (AA (true,()) hL (AJ.c Aa AJ.nil) sN))))))))))))))
      ·refine wo hl (wm Aa (wo hl (wv (B5 Aa Aa) (DB Aa hl Aa (wm Aa (bz hN (λhm hO=>?_) (λhm hP=>?_)))))))
       ·exact wf hm (wf hm (wv (r:=rB true) (Ar Aa hm Aa) (wm Aa (wz Aa Aa (wz Aa Aa (wv (r:=rB true) (Ar (b:=true) Aa Aa Aa) (wa Aa (At (AC (AA (true,()) hO (AJ.c Aa AJ.nil) sN))))))))))
       ·refine wo hm (wm Aa (wo hm (wv (B5 Aa Aa) (DB Aa hm Aa (wm Aa (bz hP (λhn hQ=>?_) (λhn hR=>?_)))))))
        ·exact wf hn (wf hn (wv (r:=rB true) (Ar Aa hn Aa) (wa Aa (At (AC (AA (true,()) hQ (AJ.c Aa AJ.nil) sN))))))
        ·exact wo hn (wm Aa (wo hn (wv (B5 Aa Aa) (DB Aa hn Aa (wa Aa (At (AC (AA (decide (c=47),()) hR (AJ.c Aa AJ.nil) sN))))))))
 ·rintro⟨hq,⟨⟩⟩ ho;refine BM (l':=[(2,rB hq)]) (H':=[]) Aa Aa ?_;replace ho:Cr hq=some r:=ho;unfold Cr at ho;refine A0 ?_;obtain rfl:=A2 ho;exact Az (BI Tryz.results82 (AR Aa)) sN ⟨Aa,Aa⟩
theorem TH (F:Nat)(s:Aq)(r:Bool)(h:JE F s=some r):Fn Tryz.prog GE 64 [rS s] [] (λR H=>R=rB r∧H=[]):=by
 refine enter (n:=23) Tryz.func64 Aa Tryz.ntmps64 Aa (λw Z=>?_);unfold JE at h;refine An (wa Aa (Ax (Av (AU [(0,rS s),(11,rB ((decide ((s.length:Int)<1))||(decide (64<(s.length:Int)))))] [] ?_ ?_))))
 ·refine Au (wm Aa (wv (CJ Gn Aa) (wv (C2 Aa Aa) (wm Aa (AY (decide ((s.length:Int)<1)) (λc1=>?_) (λc1=>?_))))))
  ·refine wf c1 (wf c1 (wf c1 (wv (r:=rB true) (Ar Aa c1 Aa) (At ?_))));exact Cg c1
  ·refine wo c1 (wm Aa (wo c1 (wv (CJ Gn Aa) (wo c1 (wv (DQ Aa Aa) (DB Aa c1 Aa (At ?_)))))));exact Cg c1
 refine cz h Aa (λc2 h3=>?_) (λc2 h4=>?_)
 ·refine An (wa Aa (Ax (A0 (Ah ?_))));obtain rfl:=A2 h3;exact Az (BI Tryz.results64 (AR Aa)) sN ⟨Aa,Aa⟩
 ·refine A1 (AT (Av (An (wa Aa (Ax (AN (ob h4 λhg hh hf=>Bv (S:=Nat×(Int)×(Unit)) (V:=(Unit)×(Unit)) 0 (λσ=>BW (λσ=>Ji s σ) σ.1 σ.2.1=some hg) (λσ=>[(0,rS s),(3,Aj σ.2.1)]) (λσ=>[]) (λσ=>σ.1) (F,0,()) hh (AJ.c Aa (AJ.c Aa AJ.nil)) sN (λσ=>LK =some r) (λσ=>[]) (λσ=>[]) ?_ ?_)))))))
  ·rintro⟨h2,ha,⟨⟩⟩ hi;refine BM (l':=[(0,rS s),(3,Aj ha)]) (H':=[]) Aa Aa ?_;obtain⟨hj,rfl,hk,hb,he⟩:=Cz hi;replace hb:Ji s ha=some hk:=hb;unfold Ji at hb;refine Av (An (wm Aa (wm Aa (wv (CJ Gn Aa) (wv (C2 Aa Aa) (Ax (cz hb Aa (λhl hm=>?_) (λhl hn=>?_))))))))
   ·refine A1 (AT (Av (AN (An (wm Aa (wm Aa (ck hm λho hp=>wv (E2 Gn Aa Aa ho) (ob hp λhq hr hs=>Cl Tryz.call82 (TG (K7 s ha) hq hr) Aa (wv (B8 Aa) (Ax (cz hs Aa (λht hu=>?_) (λht hw=>?_))))))))))))
    ·refine An (wa Aa (Ax (A0 (A9 (Ah (Ah (Bm ?_)))))));have hx:=B9 hu he hf;refine A9 (Ah ?_);obtain rfl:=A2 hx;exact Az (BI Tryz.results64 (AR Aa)) sN ⟨Aa,Aa⟩
    ·refine A1 (AL (AT (Au (wm Aa (ck hw λhy hz=>wv (B0 Aa Aa hy) (wa Aa (At ?_)))))));have h0:=Bn hz he;exact AC (AA (hj,ha+1,()) ⟨h0,Xi _⟩ (AJ.c Aa (AJ.c Aa AJ.nil)) sN)
   ·refine By (A4 ?_);have h1:=BQ hn he hf;exact A4 (Bi (AA ((),()) h1 AJ.nil sN))
  ·rintro⟨⟨⟩,⟨⟩⟩ hd;refine Cy (l':=[]) (H':=[]) Aa Aa ?_;replace hd:LK =some r:=hd;unfold LK at hd;refine Bk (AT (An (wa Aa (Ax (A0 ?_)))));obtain rfl:=A2 hd;exact Az (BI Tryz.results64 (AR Aa)) sN ⟨Aa,Aa⟩
theorem UO (F:Nat)(ha:Value)(l:(List Aq))(s:Aq)(r:Bool)(h:P4 F l s=some r):Fn Tryz.prog GE 52 [rv ha,rS s] [.row ha 9 1 (Ap eS l)] (λR H=>R=rB r∧H=[.row ha 9 1 (Ap eS l)]):=by
 refine enter (n:=18) Tryz.func52 Aa Tryz.ntmps52 Aa (λw Z=>?_);unfold P4 at h;refine An (wa Aa (Ax (Av (An (wa Aa (Ax (AN (ob h λhi hj hg=>Bv (S:=Nat×(Int)×(Unit)) (V:=(Unit)×(Unit)) 0 (λσ=>BW (λσ=>HE l s σ) σ.1 σ.2.1=some hi) (λσ=>[(0,rv ha),(1,rS s),(5,Aj σ.2.1)]) (λσ=>[.row ha 9 1 (Ap eS l)]) (λσ=>σ.1) (F,0,()) hj (AJ.c Aa (AJ.c Aa (AJ.c Aa AJ.nil))) (sC sN) (λσ=>Ky =some r) (λσ=>[]) (λσ=>[.row ha 9 1 (Ap eS l)]) ?_ ?_))))))))
 ·rintro⟨h0,hb,⟨⟩⟩ hk;refine BM (l':=[(0,rv ha),(1,rS s),(5,Aj hb)]) (H':=[.row ha 9 1 (Ap eS l)]) Aa Aa ?_;obtain⟨hl,rfl,hm,hd,hf⟩:=Cz hk;replace hd:HE l s hb=some hm:=hd;unfold HE at hd;refine Av (An (wm Aa (wm Aa (wv (Ca (ys:=l) (enc:=eS) (i:=0) DX Aa Aa) (wv (C2 Aa Aa) (Ax (cz hd Aa (λhn ho=>?_) (λhn hp=>?_))))))))
  ·refine A1 (AT (Av (AN (An (wm Aa (wm Aa (ck ho λhh hq=>wv (r:=rv (C0 1 ha (BU hb) 0)) (Cd (i:=0) DX CF Aa Aa Aa (AX hh)) (wv (r:=rS (Af l hb)) (Cs (enc:=eS) (ys:=l) (i:=0) (j:=hb) CZ Aa Aa hh Aa) (wm Aa (wv (CC Aa Aa) (Ax (cz hq Aa (λhr hs=>?_) (λhr ht=>?_)))))))))))))
   ·refine An (wa Aa (Ax (A0 (A9 (Ah (Ah (Bm ?_)))))));have hu:=B9 hs hf hg;refine A9 (Ah ?_);obtain rfl:=A2 hu;exact Az (BI Tryz.results52 (AR Aa)) (sC sN) ⟨Aa,Aa⟩
   ·refine A1 (AL (AT (Au (wm Aa (ck ht λhw hx=>wv (B0 Aa Aa hw) (wa Aa (At ?_)))))));have hy:=Bn hx hf;exact AC (AA (hl,hb+1,()) ⟨hy,Xi _⟩ (AJ.c Aa (AJ.c Aa (AJ.c Aa AJ.nil))) (sC sN))
  ·refine By (A4 ?_);have hz:=BQ hp hf hg;exact A4 (Bi (AA ((),()) hz AJ.nil (sC sN)))
 ·rintro⟨⟨⟩,⟨⟩⟩ he;refine Cy (l':=[]) (H':=[.row ha 9 1 (Ap eS l)]) Aa Aa ?_;replace he:Ky =some r:=he;unfold Ky at he;refine Bk (AT (An (wa Aa (Ax (A0 ?_)))));obtain rfl:=A2 he;exact Az (BI Tryz.results52 (AR Aa)) (sC sN) ⟨Aa,Aa⟩
theorem Q3 (F:Nat)(hd:Value)(l:(List Aq))(r:(List Aq))(h:IC F l=some r):Fn Tryz.prog GE 53 [rv hd] [.row hd 9 1 (Ap eS l)] (λR H=>∃u0:Value,R=rv u0∧H=[.row u0 9 1 (Ap eS r),.row hd 9 1 (Ap eS l)]):=by
 refine enter (n:=64) Tryz.func53 Aa Tryz.ntmps53 Aa (λw Z=>?_);unfold IC at h;refine An (wa Aa (B4 (Bl (ys:=([]:List Aq)) (enc:=eS) (css:=[]) (xs:=[]) DX CF Vh Aa Aa Aa trivial Aa EN Aa Aa Aa (λb1=>?_))));refine wa Aa (Ax (Av (An (wa Aa (Ax (AN (Gy (H2:=[.row hd 9 1 (Ap eS l),.row (.slice (some ⟨b1,0,none⟩) 0 0) 9 1 (Ap eS ([]:List Aq))]) ((Ae (i:=1) Aa).trans (WZ _ (Xd _))) (ob h λh4 h5 h6=>Bv (S:=Nat×((List Aq)×Int)×(Value)) (V:=((List Aq))×(Value)) 0 (λσ=>BW (λσ=>EC F l σ.1 σ.2) σ.1 σ.2.1=some h4) (λσ=>[(0,rv hd),(3,rv σ.2.2),(4,Aj σ.2.1.2)]) (λσ=>[.row hd 9 1 (Ap eS l),.row σ.2.2 9 1 (Ap eS σ.2.1.1)]) (λσ=>σ.1) (F,(([]:List Aq),0),(.slice (some ⟨b1,0,none⟩) 0 0)) h5 (AJ.c Aa (AJ.c Aa (AJ.c Aa AJ.nil))) (sC (sC sN)) (λσ=>Hg σ.1=some r) (λσ=>[(3,rv σ.2)]) (λσ=>[.row hd 9 1 (Ap eS l),.row σ.2 9 1 (Ap eS σ.1)]) ?_ ?_))))))))
 ·rintro⟨gm,⟨ha,hb⟩,hh⟩ h7;refine BM (l':=[(0,rv hd),(3,rv hh),(4,Aj hb)]) (H':=[.row hd 9 1 (Ap eS l),.row hh 9 1 (Ap eS ha)]) Aa Aa ?_;obtain⟨h8,rfl,hj,hk,ht⟩:=Cz h7;replace hk:EC F l ha hb=some hj:=hk;unfold EC at hk;refine Av (An (wm Aa (wm Aa (wv (Ca (ys:=l) (enc:=eS) (i:=0) DX Aa Aa) (wv (C2 Aa Aa) (Ax (cz hk Aa (λh9 hA=>?_) (λh9 hB=>?_))))))))
  ·refine A1 (AT (Co (S:=((List Aq))×(Value)) (λσ=>EB hb σ.1=some hj) (λσ=>[(0,rv hd),(3,rv σ.2),(4,Aj hb)]) (λσ=>[.row hd 9 1 (Ap eS l),.row σ.2 9 1 (Ap eS σ.1)]) ?_ ?_))
   ·refine AN (An (wa Aa (Ax (Av (AN (ob hA λhC hD hE=>Bv (S:=Nat×(Int)×(Unit)) (V:=(Int×Bool)×(Unit)) 2 (λσ=>BW (λσ=>DU l ha hb σ) σ.1 σ.2.1=some hC) (λσ=>[(0,rv hd),(3,rv hh),(4,Aj hb),(5,Aj σ.2.1)]) (λσ=>[.row hd 9 1 (Ap eS l),.row hh 9 1 (Ap eS ha)]) (λσ=>σ.1) (F,0,()) hD (AJ.c Aa (AJ.c Aa (AJ.c Aa (AJ.c Aa AJ.nil)))) (sC (sC sN)) (λσ=>EA l ha hb σ.1.1 σ.1.2=some hj) (λσ=>[(0,rv hd),(3,rv hh),(4,Aj hb),(5,Aj σ.1.1),(28,rB σ.1.2)]) (λσ=>[.row hd 9 1 (Ap eS l),.row hh 9 1 (Ap eS ha)]) ?_ ?_))))))
    ·rintro⟨gp,hi,⟨⟩⟩ hG;refine BM (l':=[(0,rv hd),(3,rv hh),(4,Aj hb),(5,Aj hi)]) (H':=[.row hd 9 1 (Ap eS l),.row hh 9 1 (Ap eS ha)]) Aa Aa ?_;obtain⟨hH,rfl,hI,hl,hu⟩:=Cz hG;replace hl:DU l ha hb hi=some hI:=hl;unfold DU at hl;refine Av (ck hl λhw hJ=>ck hJ λhx hK=>AU [(0,rv hd),(3,rv hh),(4,Aj hb),(5,Aj hi),(28,rB ((decide (hi<(ha.length:Int)))&&(Ce (Af ha hi) (Af l hb))))] [.row hd 9 1 (Ap eS l),.row hh 9 1 (Ap eS ha)] ?_ ?_)
     ·refine AY (decide (hi<(ha.length:Int))) (λhf=>?_) (λhf=>?_)
      ·refine Df [0,3,4,5] [⟨[],Aj hi,0⟩,⟨[],rv hh,0⟩,⟨[1],Aj (ha.length:Int),1⟩,⟨[0,2],rB (decide (hi<(ha.length:Int))),0⟩,⟨[3],rB (decide (hi<(ha.length:Int))),0⟩,⟨[4],rv hh,0⟩,⟨[4],Aj hi,0⟩,⟨[5,6,4],rv (C0 1 hh (BU hi) 0),1⟩,⟨[7,4],rS (Af ha hi),1⟩,⟨[4],rv hd,0⟩,⟨[4],Aj hb,0⟩,⟨[9,10,4],rv (C0 1 hd (BU hb) 0),1⟩,⟨[11,4],rS (Af l hb),1⟩,⟨[8,12,4],rB (Ce (Af ha hi) (Af l hb)),0⟩,⟨[4,13],rB (Ce (Af ha hi) (Af l hb)),0⟩] [28,0,3,4,5] ?_ ?_
       ·refine oq (Ay Aa) (oq (Ay Aa) (of (Ca (ys:=ha) (enc:=eS) (i:=1) DX Aa Aa) (oq (C2 Aa Aa) (oq (Ay Aa) (on hf (oq (Ay Aa) (on hf (oq (Ay Aa) (on hf (of (Cd (i:=1) DX CF Aa Aa Aa (AX (CW hw hf))) (on hf (of (Cs (enc:=eS) (ys:=ha) (i:=1) (j:=hi) CZ Aa Aa (CW hw hf) Aa) (on hf (oq (Ay Aa) (on hf (oq (Ay Aa) (on hf (of (Cd (i:=0) DX CF Aa Aa Aa (AX (CW hx hf))) (on hf (of (Cs (enc:=eS) (ys:=l) (i:=0) (j:=hb) CZ Aa Aa (CW hx hf) Aa) (on hf (oq (Vk Aa Aa) (oq (Ar Aa hf Aa) ?_)))))))))))))))))))))));exact Di
       exact Cg hf
      ·refine Df [0,3,4,5] [⟨[],Aj hi,0⟩,⟨[],rv hh,0⟩,⟨[1],Aj (ha.length:Int),1⟩,⟨[0,2],rB (decide (hi<(ha.length:Int))),0⟩,⟨[3],rB (decide (hi<(ha.length:Int))),0⟩,⟨[4],rv undef,0⟩,⟨[4],rv undef,0⟩,⟨[5,6,4],rv undef,0⟩,⟨[7,4],rv undef,0⟩,⟨[4],rv undef,0⟩,⟨[4],rv undef,0⟩,⟨[9,10,4],rv undef,0⟩,⟨[11,4],rv undef,0⟩,⟨[8,12,4],rv undef,0⟩,⟨[4,13],rB false,0⟩] [28,0,3,4,5] ?_ ?_
       ·refine oq (Ay Aa) (oq (Ay Aa) (of (Ca (ys:=ha) (enc:=eS) (i:=1) DX Aa Aa) (oq (C2 Aa Aa) (oq (Ay Aa) (oz hf (oz hf (oz hf (oz hf (oz hf (oz hf (oz hf (oz hf (oz hf (oq (AH (b:=decide (hi<(ha.length:Int))) Aa hf Aa) ?_))))))))))))));exact Di
       exact Cg hf
     refine cz hK Aa (λhL hN=>?_) (λhL hO=>?_)
     ·refine A1 (AT (AN (Au (wm Aa (ck hN λhP hQ=>wv (B0 Aa Aa hP) (wa Aa (At (AL ?_))))))));have hR:=Bn hQ hu;exact AC (AA (hH,hi+1,()) ⟨hR,Xi _⟩ (AJ.c Aa (AJ.c Aa (AJ.c Aa (AJ.c Aa AJ.nil)))) (sC (sC sN)))
     ·refine By (A4 ?_);have hS:=BQ hO hu hE;exact A4 (Bi (AA ((hi,((decide (hi<(ha.length:Int)))&&(Ce (Af ha hi) (Af l hb)))),()) hS (AJ.c5 Aa Aa Aa Aa Aa AJ.nil) (sC (sC sN))))
    ·rintro⟨⟨he,hy⟩,⟨⟩⟩ hm;refine Cy (l':=[(0,rv hd),(3,rv hh),(4,Aj hb),(5,Aj he),(28,rB hy)]) (H':=[.row hd 9 1 (Ap eS l),.row hh 9 1 (Ap eS ha)]) Aa Aa ?_;replace hm:EA l ha hb he hy=some hj:=hm;unfold EA at hm;refine Bk (AT (ck hm λhz hT=>ck hT λh0 hU=>AU [(0,rv hd),(3,rv hh),(4,Aj hb),(5,Aj he),(45,rB ((decide (he=(ha.length:Int)))||(!decide ((Af ha he)=(Af l hb)))))] [.row hd 9 1 (Ap eS l),.row hh 9 1 (Ap eS ha)] ?_ ?_))
     ·refine AY (decide (he=(ha.length:Int))) (λhg=>?_) (λhg=>?_)
      ·refine Df [0,3,4,5] [⟨[],Aj he,0⟩,⟨[],rv hh,0⟩,⟨[1],Aj (ha.length:Int),1⟩,⟨[0,2],rB (decide (he=(ha.length:Int))),0⟩,⟨[3],rB (decide (he=(ha.length:Int))),0⟩,⟨[4],rv undef,0⟩,⟨[4],rv undef,0⟩,⟨[5,6,4],rv undef,0⟩,⟨[7,4],rv undef,0⟩,⟨[4],rv undef,0⟩,⟨[4],rv undef,0⟩,⟨[9,10,4],rv undef,0⟩,⟨[11,4],rv undef,0⟩,⟨[8,12,4],rv undef,0⟩,⟨[4,13],rB true,0⟩] [45,0,3,4,5] ?_ ?_
       ·refine oq (Ay Aa) (oq (Ay Aa) (of (Ca (ys:=ha) (enc:=eS) (i:=1) DX Aa Aa) (oq (B5 Aa Aa) (oq (Ay Aa) (oz hg (oz hg (oz hg (oz hg (oz hg (oz hg (oz hg (oz hg (oz hg (oq (Ar (b:=decide (he=(ha.length:Int))) Aa hg Aa) ?_))))))))))))));exact Di
       exact Cg hg
      ·refine Df [0,3,4,5] [⟨[],Aj he,0⟩,⟨[],rv hh,0⟩,⟨[1],Aj (ha.length:Int),1⟩,⟨[0,2],rB (decide (he=(ha.length:Int))),0⟩,⟨[3],rB (decide (he=(ha.length:Int))),0⟩,⟨[4],rv hh,0⟩,⟨[4],Aj he,0⟩,⟨[5,6,4],rv (C0 1 hh (BU he) 0),1⟩,⟨[7,4],rS (Af ha he),1⟩,⟨[4],rv hd,0⟩,⟨[4],Aj hb,0⟩,⟨[9,10,4],rv (C0 1 hd (BU hb) 0),1⟩,⟨[11,4],rS (Af l hb),1⟩,⟨[8,12,4],rB (!decide ((Af ha he)=(Af l hb))),0⟩,⟨[4,13],rB (!decide ((Af ha he)=(Af l hb))),0⟩] [45,0,3,4,5] ?_ ?_
       ·refine oq (Ay Aa) (oq (Ay Aa) (of (Ca (ys:=ha) (enc:=eS) (i:=1) DX Aa Aa) (oq (B5 Aa Aa) (oq (Ay Aa) (on hg (oq (Ay Aa) (on hg (oq (Ay Aa) (on hg (of (Cd (i:=1) DX CF Aa Aa Aa (AX (Dj hz hg))) (on hg (of (Cs (enc:=eS) (ys:=ha) (i:=1) (j:=he) CZ Aa Aa (Dj hz hg) Aa) (on hg (oq (Ay Aa) (on hg (oq (Ay Aa) (on hg (of (Cd (i:=0) DX CF Aa Aa Aa (AX (Dj h0 hg))) (on hg (of (Cs (enc:=eS) (ys:=l) (i:=0) (j:=hb) CZ Aa Aa (Dj h0 hg) Aa) (on hg (oq (Nq Aa Aa) (oq (AH Aa hg Aa) ?_)))))))))))))))))))))));exact Di
       exact Cg hg
     refine cz hU Aa (λhV hW=>?_) (λhV hX=>?_)
     ·refine An (Bl (ys:=([]:List Aq)) (enc:=eS) (css:=[]) (xs:=[]) DX CF Vh Aa Aa Aa trivial Aa EN Aa Aa Aa (λgq=>?_));refine wm Aa (wm Aa (WL.freeze (i:=2) Aa (WL.up (d:=47) (r:=AD 1 (Ap eS ha)) Aa (Up.fact (i:=0) Aa) (ck hW λh1 hY=>wv (r:=AD 1 (Ap eS (List.take (BU he) ha))) (Qs DX CF Aa Aa h1) (ck hY λhZ ga=>Exists.elim Nx λinf hinf=>Da (xs:=([]:List Aq)) (ys:=List.take (BU he) ha) (enc:=eS) (i:=1) DX hinf.1 hinf.2.1 hinf.2.2.1 hinf.2.2.2 Aa Aa Aa Aa Aa (MK.z Aa Aa) EN Lb hZ Aa (λgr=>?_))))));refine wa Aa (B4 (wm Aa (wm Aa (wm Aa (ck ga λh2 gb=>wv (r:=rv (C0 1 hd (BU hb) 0)) (Cd (i:=2) DX CF Aa Aa Aa (AX h2)) (wv (r:=rS (Af l hb)) (Cs (enc:=eS) (ys:=l) (i:=2) (j:=hb) CZ Aa Aa h2 Aa) (Bl (ys:=([Af l hb]:List Aq)) (enc:=eS) (css:=[[rS (Af l hb)]]) (xs:=[.tmp 55]) DX CF Vh Aa Aa Aa ⟨Jm.one Aa (Up.refl _),trivial⟩ Aa EN Aa Aa Aa (λgc=>?_))))))));refine ck gb λgd ge=>Exists.elim Nx λinf hinf=>Da (xs:=([]:List Aq)++(List.take (BU he) ha)) (ys:=([Af l hb]:List Aq)) (enc:=eS) (i:=1) DX hinf.1 hinf.2.1 hinf.2.2.1 hinf.2.2.2 Aa Aa Aa Aa Aa (MK.w (i:=0) Aa Aa) EN Lb gd Aa (λgs=>?_);refine wa Aa (Ax (Au (wm Aa (wm Aa (wm Aa (WL.up (d:=59) (r:=AD 1 (Ap eS ha)) Aa (Up.fact (i:=2) Aa) (wv (r:=AD 1 (Ap eS (List.drop (BU he) ha))) (Qr DX CF Aa Aa h1) (ck ge λgf gg=>Exists.elim Nx λinf hinf=>Da (xs:=(([]:List Aq)++(List.take (BU he) ha))++([Af l hb]:List Aq)) (ys:=List.drop (BU he) ha) (enc:=eS) (i:=0) DX hinf.1 hinf.2.1 hinf.2.2.1 hinf.2.2.2 Aa Aa Aa Aa Aa (MK.z Aa Aa) EN Lb gf Aa (λh3=>?_)))))))));exact wa Aa (At (AL (BV (H2:=[.row hd 9 1 (Ap eS l),.row h3 9 1 (Ap eS (((([]:List Aq)++(List.take (BU he) ha))++([Af l hb]:List Aq))++(List.drop (BU he) ha))),.row (.slice (some ⟨gc,0,none⟩) 1 1) 9 1 (Ap eS ([Af l hb]:List Aq)),.fact hh (AD 1 (Ap eS ha))]) ((Ae (i:=3) Aa).trans (WZ _ (Xd _))) (AC (AA (((([]:List Aq)++(List.take (BU he) ha))++([Af l hb]:List Aq))++(List.drop (BU he) ha),h3) gg (AJ.c Aa (AJ.c Aa (AJ.c Aa AJ.nil))) (sC (sC (sS (sS sN)))))))))
     ·exact A1 (AL (AC (AA (ha,hh) hX (AJ.c Aa (AJ.c Aa (AJ.c Aa AJ.nil))) (sC (sC sN)))))
   ·rintro⟨hq,hr⟩ hn;refine BM (l':=[(0,rv hd),(3,rv hr),(4,Aj hb)]) (H':=[.row hd 9 1 (Ap eS l),.row hr 9 1 (Ap eS hq)]) Aa Aa ?_;replace hn:EB hb hq=some hj:=hn;unfold EB at hn;refine Au (wm Aa (ck hn λgh gi=>wv (B0 Aa Aa gh) (wa Aa (At ?_))));have gj:=Bn gi ht;exact AC (AA (h8,(hq,hb+1),hr) ⟨gj,Xi _⟩ (AJ.c Aa (AJ.c Aa (AJ.c Aa AJ.nil))) (sC (sC sN)))
  ·refine By (A4 ?_);have gl:=BQ hB ht h6;exact A4 (Bi (AA (ha,hh) gl (AJ.c Aa AJ.nil) (sC (sC sN))))
 ·rintro⟨hs,ho⟩ hp;refine Cy (l':=[(3,rv ho)]) (H':=[.row hd 9 1 (Ap eS l),.row ho 9 1 (Ap eS hs)]) Aa Aa ?_;replace hp:Hg hs=some r:=hp;unfold Hg at hp;refine Bk (AT (An (wm Aa (wa Aa (Ax (A0 (BV (H2:=[.row ho 9 1 (Ap eS hs),.row hd 9 1 (Ap eS l)]) ((Ae (i:=1) Aa).trans (WZ _ (Xd _))) ?_)))))));obtain rfl:=A2 hp;exact Az (BI Tryz.results53 (AR Aa)) (sC (sC sN)) ⟨ho,Aa,Aa⟩
theorem Tw (op:Aq)(r:Int×Bool)(h:Mp op=some r):Fn Tryz.prog GE 54 [rS op] [] (λR H=>R=Dk [Aj r.1,rB r.2]∧H=[]):=by
 refine enter (n:=15) Tryz.func54 Aa Tryz.ntmps54 Aa (λw Z=>?_);unfold Mp at h;refine An (wa Aa (wa Aa (B4 (MY Aa (λb1=>?_)))));refine DE (enc:=Ju) (xs:=([]:List (Aq×Int))) (v:=0) (i:=0) O8 Gn Aa Aa Aa Aa (H':=[.map b1 (AG Ju (mset ([]:List (Aq×Int)) ([114,101,97,100]:Aq) 0))]) Aa (DE (enc:=Ju) (xs:=mset ([]:List (Aq×Int)) ([114,101,97,100]:Aq) 0) (v:=1) (i:=0) O8 Gn Aa Aa Aa Aa (H':=[.map b1 (AG Ju (mset (mset ([]:List (Aq×Int)) ([114,101,97,100]:Aq) 0) ([119,114,105,116,101]:Aq) 1))]) Aa (DE (enc:=Ju) (xs:=mset (mset ([]:List (Aq×Int)) ([114,101,97,100]:Aq) 0) ([119,114,105,116,101]:Aq) 1) (v:=1) (i:=0) O8 Gn Aa Aa Aa Aa (H':=[.map b1 (AG Ju (mset (mset (mset ([]:List (Aq×Int)) ([114,101,97,100]:Aq) 0) ([119,114,105,116,101]:Aq) 1) ([97,100,100]:Aq) 1))]) Aa (DE (enc:=Ju) (xs:=mset (mset (mset ([]:List (Aq×Int)) ([114,101,97,100]:Aq) 0) ([119,114,105,116,101]:Aq) 1) ([97,100,100]:Aq) 1) (v:=2) (i:=0) O8 Gn Aa Aa Aa Aa (H':=[.map b1 (AG Ju (mset (mset (mset (mset ([]:List (Aq×Int)) ([114,101,97,100]:Aq) 0) ([119,114,105,116,101]:Aq) 1) ([97,100,100]:Aq) 1) ([99,97,115]:Aq) 2))]) Aa (wm Aa (wm Aa (wv (r:=Dk [Aj (AE (mset (mset (mset (mset ([]:List (Aq×Int)) ([114,101,97,100]:Aq) 0) ([119,114,105,116,101]:Aq) 1) ([97,100,100]:Aq) 1) ([99,97,115]:Aq) 2) op 0),rB (BB (mset (mset (mset (mset ([]:List (Aq×Int)) ([114,101,97,100]:Aq) 0) ([119,114,105,116,101]:Aq) 1) ([97,100,100]:Aq) 1) ([99,97,115]:Aq) 2) op)]) (HT (enc:=Ju) (xs:=mset (mset (mset (mset ([]:List (Aq×Int)) ([114,101,97,100]:Aq) 0) ([119,114,105,116,101]:Aq) 1) ([97,100,100]:Aq) 1) ([99,97,115]:Aq) 2) (z:=0) (i:=0) O8 Gn Tryz.zeroValue3 UF Aa Aa Aa) (wm Aa (wv (AO Aa Aa) (wv (AO Aa Aa) (wa Aa (wa Aa (B4 (wm Aa (wm Aa (wa Aa (wa Aa (Ax (A0 ?_))))))))))))))))));obtain rfl:=A2 h;exact Az (Ix Tryz.results54 (AR Aa) (AR Aa)) (sS sN) ⟨Aa,Aa⟩
theorem Pp (F:Nat)(op:A6)(r:Int)(h:KT F op=some r):Fn Tryz.prog GE 36 [Bd (Am op)] [] (λR H=>R=Aj r∧H=[]):=by
 refine enter (n:=46) Tryz.func36 Aa Tryz.ntmps36 Aa (λw Z=>?_);unfold KT at h;refine An (BH Aa Aa (λb1=>?_));refine wa Aa (B4 (vF BG Aa CF (vL 0 CZ Aa (ob h λr2 e4 h3=>Cl Tryz.call54 (Tw op.fOp r2 e4) Aa (wm Aa (wv (AO Aa Aa) (wv (AO Aa Aa) (wa Aa (wa Aa (Ax (Av (AU [(1,rP b1 0),(3,Aj r2.1),(27,rB ((!(Is op.fEntity))||((!(Is op.fID))||(!r2.2))))] [.blk b1 (Am op) 25] ?_ ?_))))))))))))
 ·refine Au (vF BG Aa CF (vL 0 CZ Aa (HI (rs:=[rS op.fEntity]) (r:=rB (Is op.fEntity)) Tryz.call55 Aa (Wh op.fEntity) Aa Aa (wv (B8 Aa) (wm Aa (AY (!(Is op.fEntity)) (λc5=>?_) (λc5=>?_)))))))
  ·refine wf c5 (wf c5 (wf c5 (wf c5 (wv (r:=rB true) (Ar Aa c5 Aa) (wm Aa (wz Aa Aa (wz Aa Aa (wv (r:=rB true) (Ar (b:=true) Aa Aa Aa) (At ?_)))))))));exact Cg c5
  ·refine wo c5 (vF BG Aa CF (wo c5 (vL 0 CZ Aa (wo c5 (HI (rs:=[rS op.fID]) (r:=rB (Is op.fID)) Tryz.call55 Aa (Wh op.fID) Aa Aa (wo c5 (wv (B8 Aa) (DB Aa c5 Aa (wm Aa (AY (!(Is op.fID)) (λc6=>?_) (λc6=>?_)))))))))))
   ·refine wf c6 (wf c6 (wv (r:=rB true) (Ar Aa c6 Aa) (At ?_)));exact Cg (And.intro c5 c6)
   ·refine wo c6 (wm Aa (wo c6 (wv (B8 Aa) (DB Aa c6 Aa (At ?_)))));exact Cg (And.intro c5 c6)
 refine cz h3 Aa (λc7 h8=>?_) (λc7 h9=>?_)
 ·refine An (wa Aa (Ax (A0 (Ah ?_))));obtain rfl:=A2 h8;exact Az (BI Uk (AR Aa)) (sS sN) ⟨Aa,Aa⟩
 ·refine A1 (AT (Av (An (vF BG Aa Ei (vL 0 EG Aa (wv (Bo (ys:=op.fArgs) (enc:=Ai) Du Aa) (wm Aa (wv (Dp Aa Aa) (Ax (cz h9 Aa (λhg hh=>?_) (λhg hi=>?_)))))))))))
  ·refine An (wa Aa (Ax (A0 (Ah ?_))));obtain rfl:=A2 hh;exact Az (BI Uk (AR Aa)) (sS sN) ⟨Aa,Aa⟩
  ·refine A1 (AT (Av (An (vF BG Aa Ei (vL 0 EG Aa (wv (Bo (ys:=op.fArgs) (enc:=Ai) Du Aa) (wv (r:=Aj 0) (Ay Aa) (Ax (AN (ob hi λhj hk hf=>Bv (S:=Nat×(Int)×(Unit)) (V:=(Unit)×(Unit)) 0 (λσ=>BW (λσ=>GF F op σ) σ.1 σ.2.1=some hj) (λσ=>[(34,AD 1 (Ap Ai op.fArgs)),(35,Aj (op.fArgs.length:Int)),(36,Aj σ.2.1)]) (λσ=>[]) (λσ=>σ.1) (F,0,()) hk (AJ.c Aa (AJ.c Aa (AJ.c Aa AJ.nil))) (sS sN) (λσ=>Jb =some r) (λσ=>[]) (λσ=>[]) ?_ ?_))))))))))
   ·rintro⟨h6,ha,⟨⟩⟩ hl;refine BM (l':=[(34,AD 1 (Ap Ai op.fArgs)),(35,Aj (op.fArgs.length:Int)),(36,Aj ha)]) (H':=[]) Aa Aa ?_;obtain⟨hm,rfl,hn,hb,he⟩:=Cz hl;replace hb:GF F op ha=some hn:=hb;unfold GF at hb;refine An (wv (C2 Aa Aa) (Ax (Av (cz hb Aa (λho hp=>?_) (λho hq=>?_)))))
    ·refine A1 (AT (Av (AN (An (ck hp λhr hs=>wv (Bh (enc:=Ai) (ys:=op.fArgs) Du D9 Aa Aa hr) (wv (Bg EE Aa Aa) (wa Aa (B4 (wm Aa (ob hs λht hu hw=>Cl Tryz.call37 (OK F (Af op.fArgs ha) ht hu) Aa (wa Aa (B4 (wm Aa (wv (Dp Aa Aa) (Ax (cz hw Aa (λhx hy=>?_) (λhx hz=>?_)))))))))))))))))
     ·refine An (wm Aa (wa Aa (Ax (A0 (A9 (Ah (Ah (Bm ?_))))))));have h0:=B9 hy he hf;refine A9 (Ah ?_);obtain rfl:=A2 h0;exact Az (BI Uk (AR Aa)) sN ⟨Aa,Aa⟩
     ·refine A1 (AL (AT (Au (ck hz λh1 h2=>wv (B0 Aa Aa h1) (wm Aa (At ?_))))));have h4:=Bn h2 he;exact AC (AA (hm,ha+1,()) ⟨h4,Xi _⟩ (AJ.c Aa (AJ.c Aa (AJ.c Aa AJ.nil))) sN)
    ·refine By (A4 ?_);have h5:=BQ hq he hf;exact A4 (Bi (AA ((),()) h5 AJ.nil sN))
   ·rintro⟨⟨⟩,⟨⟩⟩ hd;refine Cy (l':=[]) (H':=[]) Aa Aa ?_;replace hd:Jb =some r:=hd;unfold Jb at hd;refine Bk (AT (An (wa Aa (Ax (A0 ?_)))));obtain rfl:=A2 hd;exact Az (BI Uk (AR Aa)) sN ⟨Aa,Aa⟩
theorem Pm (state:(List Ac))(args:(List (List Ac)))(r:(List Ac)×A8)(h:IY state args=some r):Fn Tryz.prog GE 57 [AD 4 (Ap Ab state),AD 1 (Ap Ai args)] [] (λR H=>R=Dk [AD 4 (Ap Ab r.1),Bd (Ao r.2)]∧H=[]):=by
 refine enter (n:=10) Tryz.func57 Aa Tryz.ntmps57 Aa (λw Z=>?_);unfold IY at h;refine An (wa Aa (B3 (cs:=[Aj 0,rv (.slice none 0 0)]) GL Aa Aa (λb1=>?_)));refine B4 (wm Aa (wm Aa (ob h λr2 e4 h3=>Cl Lz (D1 state r2 e4) Aa (wv (r:=Bd [Aj 0,AD 4 (Ap Ab r2)]) (Cb Aa Aa) (wa Aa (AF (i:=0) Bs Aa Aa Aa (Be.c Aa) Aa Aa (cs':=[Aj 0,AD 4 (Ap Ab r2)]) Aa (H':=[.blk b1 [Aj 0,AD 4 (Ap Ab r2)] 31]) Aa (Ax (A0 ?_))))))));obtain rfl:=A2 h3;exact Az (Ix Tryz.results57 (AR Aa) (BO (i:=0) Cw Bs Aa Aa Aa)) (sS sN) ⟨Aa,Aa⟩
theorem Of (state:(List Ac))(args:(List (List Ac)))(r:(List Ac)×A8)(h:HW state args=some r):Fn Tryz.prog GE 58 [AD 4 (Ap Ab state),AD 1 (Ap Ai args)] [] (λR H=>R=Dk [AD 4 (Ap Ab r.1),Bd (Ao r.2)]∧H=[]):=by
 refine enter (n:=12) Tryz.func58 Aa Tryz.ntmps58 Aa (λw Z=>?_);unfold HW at h;refine An (wa Aa (B3 (cs:=[Aj 0,rv (.slice none 0 0)]) GL Aa Aa (λb1=>?_)));refine B4 (wm Aa (ck h λg2 h3=>wv (Bh (enc:=Ai) (ys:=args) Du D9 Aa Aa g2) (wv (Bg EE Aa Aa) (ob h3 λr4 e6 h5=>Cl Lz (D1 (Af args 0) r4 e6) Aa (ob h5 λr7 e9 h8=>Cl Tryz.call47 (NL r7 e9) Aa (wv (r:=Bd [Aj 0,AD 4 (Ap Ab r7)]) (Cb Aa Aa) (wa Aa (AF (i:=0) Bs Aa Aa Aa (Be.c Aa) Aa Aa (cs':=[Aj 0,AD 4 (Ap Ab r7)]) Aa (H':=[.blk b1 [Aj 0,AD 4 (Ap Ab r7)] 31]) Aa (Ax (A0 ?_))))))))));obtain rfl:=A2 h8;exact Az (Ix Tryz.results58 (AR Aa) (BO (i:=0) Cw Bs Aa Aa Aa)) (sS sN) ⟨Aa,Aa⟩
theorem Qw (F:Nat)(state:(List Ac))(args:(List (List Ac)))(r:(List Ac)×A8)(h:Kn F state args=some r):Fn Tryz.prog GE 60 [AD 4 (Ap Ab state),AD 1 (Ap Ai args)] [] (λR H=>R=Dk [AD 4 (Ap Ab r.1),Bd (Ao r.2)]∧H=[]):=by
 refine enter (n:=21) Tryz.func60 Aa Tryz.ntmps60 Aa (λw Z=>?_);unfold Kn at h;refine An (wa Aa (B3 (cs:=[Aj 0,rv (.slice none 0 0)]) GL Aa Aa (λb1=>?_)));refine Ax (Av (An (wm Aa (wm Aa (ck h λg2 h3=>wv (Bh (enc:=Ai) (ys:=args) Du D9 Aa Aa g2) (wv (Bg EE Aa Aa) (ob h3 λr4 e6 h5=>Cl Tryz.call61 (Ut F state (Af args 0) r4 e6) Aa (wv (B8 Aa) (Ax (cz h5 Aa (λc7 h8=>?_) (λc7 hb=>?_)))))))))))
 ·refine An (wm Aa (ob h8 λr9 hd he=>Cl Tryz.call62 (QK false r9 hd) Aa (wv (r:=Bd [Aj 0,AD 4 (Ap Ab r9)]) (Cb Aa Aa) (wa Aa (AF (i:=0) Bs Aa Aa Aa (Be.c Aa) Aa Aa (cs':=[Aj 0,AD 4 (Ap Ab r9)]) Aa (H':=[.blk b1 [Aj 0,AD 4 (Ap Ab r9)] 31]) Aa (Ax (A0 (Ah ?_))))))));obtain rfl:=A2 he;exact Az (Ix Tryz.results60 (AR Aa) (BO (i:=0) Cw Bs Aa Aa Aa)) (sS sN) ⟨Aa,Aa⟩
 ·refine A1 (AT (An (wm Aa (ck hb λhf hg=>wv (Bh (enc:=Ai) (ys:=args) Du D9 Aa Aa hf) (wv (Bg EE Aa Aa) (ob hg λhh hi hj=>Cl Lz (D1 (Af args 1) hh hi) Aa (ob hj λha hk hl=>Cl Tryz.call62 (QK true ha hk) Aa (wv (r:=Bd [Aj 0,AD 4 (Ap Ab ha)]) (Cb Aa Aa) (wa Aa (AF (i:=0) Bs Aa Aa Aa (Be.c Aa) Aa Aa (cs':=[Aj 0,AD 4 (Ap Ab ha)]) Aa (H':=[.blk b1 [Aj 0,AD 4 (Ap Ab ha)] 31]) Aa (Ax (A0 ?_))))))))))));obtain rfl:=A2 hl;exact Az (Ix Tryz.results60 (AR Aa) (BO (i:=0) Cw Bs Aa Aa Aa)) (sS sN) ⟨Aa,Aa⟩
theorem Qv (F:Nat)(n:(List Int))(r:Bool)(h:I3 F n=some r):Fn Tryz.prog GE 95 [AD 1 (Ap Ht n)] [] (λR H=>R=rB r∧H=[]):=by
 refine enter (n:=15) Tryz.func95 Aa Tryz.ntmps95 Aa (λw Z=>?_);unfold I3 at h;refine An (wa Aa (Ax (Av (An (wm Aa (wv (Bo (ys:=n) (enc:=Ht) S9 Aa) (wv (r:=Aj 0) (Ay Aa) (Ax (AN (ob h λhg hh hf=>Bv (S:=Nat×(Int)×(Unit)) (V:=(Unit)×(Unit)) 0 (λσ=>BW (λσ=>E3 n σ) σ.1 σ.2.1=some hg) (λσ=>[(5,AD 1 (Ap Ht n)),(6,Aj (n.length:Int)),(7,Aj σ.2.1)]) (λσ=>[]) (λσ=>σ.1) (F,0,()) hh (AJ.c Aa (AJ.c Aa (AJ.c Aa AJ.nil))) sN (λσ=>Hc =some r) (λσ=>[]) (λσ=>[]) ?_ ?_))))))))))
 ·rintro⟨h2,ha,⟨⟩⟩ hi;refine BM (l':=[(5,AD 1 (Ap Ht n)),(6,Aj (n.length:Int)),(7,Aj ha)]) (H':=[]) Aa Aa ?_;obtain⟨hj,rfl,hk,hb,he⟩:=Cz hi;replace hb:E3 n ha=some hk:=hb;unfold E3 at hb;refine An (wv (C2 Aa Aa) (Ax (Av (cz hb Aa (λhl hm=>?_) (λhl hn=>?_)))))
  ·refine A1 (AT (Av (AN (An (ck hm λho hp=>wv (Bh (enc:=Ht) (ys:=n) S9 C1 Aa Aa ho) (wv (Bg Dm Aa Aa) (wa Aa (B4 (wm Aa (ob hp λhq hr hs=>Cl Tryz.call79 (Mn (Af n ha) hq hr) Aa (wv (B8 Aa) (Ax (cz hs Aa (λht hu=>?_) (λht hw=>?_))))))))))))))
   ·refine An (wa Aa (Ax (A0 (A9 (Ah (Ah (Bm ?_)))))));have hx:=B9 hu he hf;refine A9 (Ah ?_);obtain rfl:=A2 hx;exact Az (BI Tryz.results95 (AR Aa)) sN ⟨Aa,Aa⟩
   ·refine A1 (AL (AT (Au (ck hw λhy hz=>wv (B0 Aa Aa hy) (wm Aa (At ?_))))));have h0:=Bn hz he;exact AC (AA (hj,ha+1,()) ⟨h0,Xi _⟩ (AJ.c Aa (AJ.c Aa (AJ.c Aa AJ.nil))) sN)
  ·refine By (A4 ?_);have h1:=BQ hn he hf;exact A4 (Bi (AA ((),()) h1 AJ.nil sN))
 ·rintro⟨⟨⟩,⟨⟩⟩ hd;refine Cy (l':=[]) (H':=[]) Aa Aa ?_;replace hd:Hc =some r:=hd;unfold Hc at hd;refine Bk (AT (An (wa Aa (Ax (A0 ?_)))));obtain rfl:=A2 hd;exact Az (BI Tryz.results95 (AR Aa)) sN ⟨Aa,Aa⟩
theorem Pi (n:Int)(r:Int×Int)(h:IV n=some r):Fn Tryz.prog GE 96 [Aj n] [] (λR H=>R=Dk [Aj r.1,Aj r.2]∧H=[]):=by
 refine enter (n:=8) Tryz.func96 Aa Tryz.ntmps96 Aa (λw Z=>?_);unfold IV at h;refine An (wa Aa (wa Aa (Ax (Av (An (wm Aa (ob h λr1 e3 h2=>Cl Tryz.call79 (Mn n r1 e3) Aa (wv (B8 Aa) (Ax (cz h2 Aa (λc4 h5=>?_) (λc4 h6=>?_)))))))))))
 ·refine An (wa Aa (wa Aa (Ax (A0 (Ah ?_)))));obtain rfl:=A2 h5;exact Az (Ix Tryz.results96 (AR Aa) (AR Aa)) sN ⟨Aa,Aa⟩
 ·refine A1 (AT (An (wm Aa (wa Aa (wa Aa (Ax (A0 ?_)))))));obtain rfl:=A2 h6;exact Az (Ix Tryz.results96 (AR Aa) (AR Aa)) sN ⟨Aa,Aa⟩
theorem Pj (F:Nat)(a:Int)(b:Int)(r:Int×Int)(h:KQ F a b=some r):Fn Tryz.prog GE 81 [Aj a,Aj b] [] (λR H=>R=Dk [Aj r.1,Aj r.2]∧H=[]):=by
 refine enter (n:=17) Tryz.func81 Aa Tryz.ntmps81 Aa (λw Z=>?_);unfold KQ at h;refine An (wa Aa (wa Aa (Ax (Av (An (wm Aa (wm Aa (Bl (ys:=([a,b]:List Int)) (enc:=Ht) (css:=[[Aj a],[Aj b]]) (xs:=[.tmp 6,.tmp 7]) S9 C1 Tryz.zeroValue3 Aa Aa Aa ⟨Jm.one Aa (Up.refl _),Jm.one Aa (Up.refl _),trivial⟩ Aa Q7 Aa Aa Aa (λb1=>?_)))))))));refine WL.freeze (i:=0) Aa (WL.up (d:=8) (r:=AD 1 (Ap Ht ([a,b]:List Int))) Aa (Up.fact (i:=0) Aa) (ob h λr2 e4 h3=>Cl Tryz.call95 (Qv F ([a,b]:List Int) r2 e4) Aa (wv (B8 Aa) (Ax (cz h3 Aa (λc5 h6=>?_) (λc5 h7=>?_))))))
 ·refine An (wa Aa (wa Aa (Ax (A0 (Ah ?_)))));obtain rfl:=A2 h6;exact Az (Ix Tryz.results81 (AR Aa) (AR Aa)) (sS sN) ⟨Aa,Aa⟩
 ·refine A1 (AT (An (wm Aa (wm Aa (ck h7 λg8 h9=>wv (B0 Aa Aa g8) (ob h9 λha hb hd=>Cl Tryz.call96 (Pi (a+b) ha hb) Aa (wv (AO Aa Aa) (wv (AO Aa Aa) (wa Aa (wa Aa (Ax (A0 ?_))))))))))));obtain rfl:=A2 hd;exact Az (Ix Tryz.results81 (AR Aa) (AR Aa)) (sS sN) ⟨Aa,Aa⟩
theorem Tx (F:Nat)(state:(List Ac))(args:(List (List Ac)))(r:(List Ac)×A8)(h:Mq F state args=some r):Fn Tryz.prog GE 59 [AD 4 (Ap Ab state),AD 1 (Ap Ai args)] [] (λR H=>R=Dk [AD 4 (Ap Ab r.1),Bd (Ao r.2)]∧H=[]):=by
 refine enter (n:=56) Tryz.func59 Aa Tryz.ntmps59 Aa (λw Z=>?_);unfold Mq at h;refine An (wa Aa (B3 (cs:=[Aj 0,rv (.slice none 0 0)]) GL Aa Aa (λb1=>?_)));refine B4 (wa Aa (Ax (Av (An (wm Aa (ck h λg2 h3=>wv (Bh (enc:=Ab) (ys:=state) Ci Cp Aa Aa g2) (wv (AQ Bx Aa DY Aa Aa) (wv (Bg DZ Aa Aa) (Ax (AN (An (wv (B5 Aa Aa) (wa Aa (Ax (cz h3 Aa (λc4 h5=>?_) (λc4 hh=>?_))))))))))))))))
 ·refine Au (wm Aa (wv (Bh (enc:=Ab) (ys:=state) Ci Cp Aa Aa g2) (wv (AQ Bx Aa C1 Aa Aa) (wv (Bg Dm Aa Aa) (wa Aa (At (AL (AT (Av (An (wm Aa (ck h5 λg6 h7=>wv (Bh (enc:=Ai) (ys:=args) Du D9 Aa Aa g6) (wv (Bg EE Aa Aa) (ck h7 λg8 h9=>wv (Bh (enc:=Ab) (ys:=Af args 0) Ci Cp Aa Aa g8) (wv (AQ Bx Aa DY Aa Aa) (wv (Bg DZ Aa Aa) (wv (Dp Aa Aa) (Ax (cz h9 Aa (λhi hj=>?_) (λhi hk=>?_))))))))))))))))))))
  ·refine An (wm Aa (wv (r:=Bd [Aj 7,rv (.slice none 0 0)]) (DR Aa Aa) (wa Aa (AF (i:=0) Bs Aa Aa Aa (Be.c Aa) Aa Aa (cs':=[Aj 7,rv (.slice none 0 0)]) Aa (H':=[.blk b1 [Aj 7,rv (.slice none 0 0)] 31]) Aa (Ax (A0 (Ah (WK.upBlk (i:=0) (cs':=[Aj 7,AD 4 (Ap Ab ([]:List Ac))]) Aa ⟨Up.refl _,Up.le (Gx.nil _),trivial⟩ ?_))))))));obtain rfl:=A2 hj;exact Az (Ix PS (AR Aa) (BO (i:=0) Cw Bs Aa Aa Aa)) (sS sN) ⟨Aa,Aa⟩
  ·refine A1 (AT (An (wm Aa (wm Aa (wv (Bh (enc:=Ai) (ys:=args) Du D9 Aa Aa g6) (wv (Bg EE Aa Aa) (wv (Bh (enc:=Ab) (ys:=Af args 0) Ci Cp Aa Aa g8) (wv (AQ Bx Aa C1 Aa Aa) (wv (Bg Dm Aa Aa) (ob hk λha hl hm=>Cl Tryz.call81 (Pj F ((Af state 0).fInt) ((Af (Af args 0) 0).fInt) ha hl) Aa (wm Aa (wv (AO Aa Aa) (wv (AO Aa Aa) (wa Aa (wa Aa (Ax (Av (An (wm Aa (wv (Dp Aa Aa) (Ax (cz hm Aa (λhn ho=>?_) (λhn hp=>?_)))))))))))))))))))))))
   ·refine An (wm Aa (wm Aa (wv (r:=Bd [Aj ha.2,rv (.slice none 0 0)]) (DR Aa Aa) (wa Aa (AF (i:=0) Bs Aa Aa Aa (Be.c Aa) Aa Aa (cs':=[Aj ha.2,rv (.slice none 0 0)]) Aa (H':=[.blk b1 [Aj ha.2,rv (.slice none 0 0)] 31]) Aa (Ax (A0 (Ah (WK.upBlk (i:=0) (cs':=[Aj ha.2,AD 4 (Ap Ab ([]:List Ac))]) Aa ⟨Up.refl _,Up.le (Gx.nil _),trivial⟩ ?_)))))))));obtain rfl:=A2 ho;exact Az (Ix PS (AR Aa) (BO (i:=0) Cw Bs Aa Aa Aa)) (sS sN) ⟨Aa,Aa⟩
   ·refine A1 (AT (An (wm Aa (wv (r:=Bd [Aj 3,Aj ha.1,rS ([]:Aq),Aj 0]) (Eo Aa Aa Aa Aa) (Bl (ys:=([(Ac.mk 3 ha.1 ([]:Aq) 0)]:List Ac)) (enc:=Ab) (css:=[[Aj 3,Aj ha.1,rS ([]:Aq),Aj 0]]) (xs:=[.tmp 50]) Ci Cp Jn Aa Aa Aa ⟨Jm.agg ⟨Up.refl _,Up.refl _,Up.refl _,Up.refl _,trivial⟩,trivial⟩ Aa BT Aa Aa Aa (λhq=>?_))))));refine wa Aa (B4 (wm Aa (wm Aa (WL.freeze (i:=0) Aa (WL.up (d:=53) (r:=AD 4 (Ap Ab ([(Ac.mk 3 ha.1 ([]:Aq) 0)]:List Ac))) Aa (Up.fact (i:=0) Aa) (ob hp λhd hr hs=>Cl Lz (D1 ([(Ac.mk 3 ha.1 ([]:Aq) 0)]:List Ac) hd hr) Aa (wv (r:=Bd [Aj 0,AD 4 (Ap Ab hd)]) (Cb Aa Aa) (wa Aa (AF (i:=1) Bs Aa Aa Aa (Be.c Aa) Aa Aa (cs':=[Aj 0,AD 4 (Ap Ab hd)]) Aa (H':=[.fact (.slice (some ⟨hq,0,none⟩) 1 1) (AD 4 (Ap Ab ([(Ac.mk 3 ha.1 ([]:Aq) 0)]:List Ac))),.blk b1 [Aj 0,AD 4 (Ap Ab hd)] 31]) Aa (Ax (A0 (WK.up (d:=4) (r:=AD 4 (Ap Ab ([(Ac.mk 3 ha.1 ([]:Aq) 0)]:List Ac))) Aa (Up.fact (i:=0) Aa) ?_))))))))))));obtain rfl:=A2 hs;exact Az (Ix PS (AR Aa) (BO (i:=1) Cw Bs Aa Aa Aa)) (sS (sS sN)) ⟨Aa,Aa⟩
 ·refine An (wv (B5 Aa Aa) (wa Aa (Ax (cz hh Aa (λht hu=>?_) (λht hw=>?_)))))
  ·refine A1 (AL (AT (Av (An (wm Aa (ck hu λhf hx=>wv (Bh (enc:=Ai) (ys:=args) Du D9 Aa Aa hf) (wv (Bg EE Aa Aa) (ck hx λhg hy=>wv (Bh (enc:=Ab) (ys:=Af args 0) Ci Cp Aa Aa hg) (wv (AQ Bx Aa DY Aa Aa) (wv (Bg DZ Aa Aa) (wv (Dp Aa Aa) (Ax (cz hy Aa (λhz h0=>?_) (λhz h1=>?_))))))))))))))
   ·refine An (wm Aa (wv (r:=Bd [Aj 7,rv (.slice none 0 0)]) (DR Aa Aa) (wa Aa (AF (i:=0) Bs Aa Aa Aa (Be.c Aa) Aa Aa (cs':=[Aj 7,rv (.slice none 0 0)]) Aa (H':=[.blk b1 [Aj 7,rv (.slice none 0 0)] 31]) Aa (Ax (A0 (Ah (WK.upBlk (i:=0) (cs':=[Aj 7,AD 4 (Ap Ab ([]:List Ac))]) Aa ⟨Up.refl _,Up.le (Gx.nil _),trivial⟩ ?_))))))));obtain rfl:=A2 h0;exact Az (Ix PS (AR Aa) (BO (i:=0) Cw Bs Aa Aa Aa)) (sS sN) ⟨Aa,Aa⟩
   ·refine A1 (AT (An (wm Aa (wm Aa (wv (Bh (enc:=Ai) (ys:=args) Du D9 Aa Aa hf) (wv (Bg EE Aa Aa) (wv (Bh (enc:=Ab) (ys:=Af args 0) Ci Cp Aa Aa hg) (wv (AQ Bx Aa C1 Aa Aa) (wv (Bg Dm Aa Aa) (ob h1 λhb h2 h4=>Cl Tryz.call81 (Pj F 0 ((Af (Af args 0) 0).fInt) hb h2) Aa (wm Aa (wv (AO Aa Aa) (wv (AO Aa Aa) (wa Aa (wa Aa (Ax (Av (An (wm Aa (wv (Dp Aa Aa) (Ax (cz h4 Aa (λh6 h8=>?_) (λh6 hA=>?_)))))))))))))))))))))))
    ·refine An (wm Aa (wm Aa (wv (r:=Bd [Aj hb.2,rv (.slice none 0 0)]) (DR Aa Aa) (wa Aa (AF (i:=0) Bs Aa Aa Aa (Be.c Aa) Aa Aa (cs':=[Aj hb.2,rv (.slice none 0 0)]) Aa (H':=[.blk b1 [Aj hb.2,rv (.slice none 0 0)] 31]) Aa (Ax (A0 (Ah (WK.upBlk (i:=0) (cs':=[Aj hb.2,AD 4 (Ap Ab ([]:List Ac))]) Aa ⟨Up.refl _,Up.le (Gx.nil _),trivial⟩ ?_)))))))));obtain rfl:=A2 h8;exact Az (Ix PS (AR Aa) (BO (i:=0) Cw Bs Aa Aa Aa)) (sS sN) ⟨Aa,Aa⟩
    ·refine A1 (AT (An (wm Aa (wv (r:=Bd [Aj 3,Aj hb.1,rS ([]:Aq),Aj 0]) (Eo Aa Aa Aa Aa) (Bl (ys:=([(Ac.mk 3 hb.1 ([]:Aq) 0)]:List Ac)) (enc:=Ab) (css:=[[Aj 3,Aj hb.1,rS ([]:Aq),Aj 0]]) (xs:=[.tmp 50]) Ci Cp Jn Aa Aa Aa ⟨Jm.agg ⟨Up.refl _,Up.refl _,Up.refl _,Up.refl _,trivial⟩,trivial⟩ Aa BT Aa Aa Aa (λhB=>?_))))));refine wa Aa (B4 (wm Aa (wm Aa (WL.freeze (i:=0) Aa (WL.up (d:=53) (r:=AD 4 (Ap Ab ([(Ac.mk 3 hb.1 ([]:Aq) 0)]:List Ac))) Aa (Up.fact (i:=0) Aa) (ob hA λhe hC hD=>Cl Lz (D1 ([(Ac.mk 3 hb.1 ([]:Aq) 0)]:List Ac) he hC) Aa (wv (r:=Bd [Aj 0,AD 4 (Ap Ab he)]) (Cb Aa Aa) (wa Aa (AF (i:=1) Bs Aa Aa Aa (Be.c Aa) Aa Aa (cs':=[Aj 0,AD 4 (Ap Ab he)]) Aa (H':=[.fact (.slice (some ⟨hB,0,none⟩) 1 1) (AD 4 (Ap Ab ([(Ac.mk 3 hb.1 ([]:Aq) 0)]:List Ac))),.blk b1 [Aj 0,AD 4 (Ap Ab he)] 31]) Aa (Ax (A0 (WK.up (d:=4) (r:=AD 4 (Ap Ab ([(Ac.mk 3 hb.1 ([]:Aq) 0)]:List Ac))) Aa (Up.fact (i:=0) Aa) ?_))))))))))));obtain rfl:=A2 hD;exact Az (Ix PS (AR Aa) (BO (i:=1) Cw Bs Aa Aa Aa)) (sS (sS sN)) ⟨Aa,Aa⟩
  ·refine An (wm Aa (wv (r:=Bd [Aj 7,rv (.slice none 0 0)]) (DR Aa Aa) (wa Aa (AF (i:=0) Bs Aa Aa Aa (Be.c Aa) Aa Aa (cs':=[Aj 7,rv (.slice none 0 0)]) Aa (H':=[.blk b1 [Aj 7,rv (.slice none 0 0)] 31]) Aa (Ax (A0 (A9 (Ah (WK.upBlk (i:=0) (cs':=[Aj 7,AD 4 (Ap Ab ([]:List Ac))]) Aa ⟨Up.refl _,Up.le (Gx.nil _),trivial⟩ ?_)))))))));obtain rfl:=A2 hw;exact Az (Ix PS (AR Aa) (BO (i:=0) Cw Bs Aa Aa Aa)) (sS sN) ⟨Aa,Aa⟩
theorem Km  (r:(List (Aq×Nat)))(h:Ts=some r):Fn Tryz.prog GE 38 [] [] (λR H=>R=RB (AG mF r)∧H=[]):=by
 refine enter (n:=3) Tryz.func38 Aa Tryz.ntmps38 Aa (λw Z=>?_);unfold Ts at h;refine An (wv (r:=rv (.map none)) (AV Aa) (B4 (MY Aa (λb1=>?_))));refine DE (enc:=mF) (xs:=([]:List (Aq×Nat))) (v:=57) (i:=0) O6 Gn Aa Aa Aa Aa (H':=[.map b1 (AG mF (mset ([]:List (Aq×Nat)) ([114,101,97,100]:Aq) 57))]) Aa (DE (enc:=mF) (xs:=mset ([]:List (Aq×Nat)) ([114,101,97,100]:Aq) 57) (v:=58) (i:=0) O6 Gn Aa Aa Aa Aa (H':=[.map b1 (AG mF (mset (mset ([]:List (Aq×Nat)) ([114,101,97,100]:Aq) 57) ([119,114,105,116,101]:Aq) 58))]) Aa (DE (enc:=mF) (xs:=mset (mset ([]:List (Aq×Nat)) ([114,101,97,100]:Aq) 57) ([119,114,105,116,101]:Aq) 58) (v:=59) (i:=0) O6 Gn Aa Aa Aa Aa (H':=[.map b1 (AG mF (mset (mset (mset ([]:List (Aq×Nat)) ([114,101,97,100]:Aq) 57) ([119,114,105,116,101]:Aq) 58) ([97,100,100]:Aq) 59))]) Aa (DE (enc:=mF) (xs:=mset (mset (mset ([]:List (Aq×Nat)) ([114,101,97,100]:Aq) 57) ([119,114,105,116,101]:Aq) 58) ([97,100,100]:Aq) 59) (v:=60) (i:=0) O6 Gn Aa Aa Aa Aa (H':=[.map b1 (AG mF (mset (mset (mset (mset ([]:List (Aq×Nat)) ([114,101,97,100]:Aq) 57) ([119,114,105,116,101]:Aq) 58) ([97,100,100]:Aq) 59) ([99,97,115]:Aq) 60))]) Aa (wm Aa (wa Aa (Ax (A0 (WK.freezeM (i:=0) Aa (WK.up (d:=0) (r:=RB (AG mF (mset (mset (mset (mset ([]:List (Aq×Nat)) ([114,101,97,100]:Aq) 57) ([119,114,105,116,101]:Aq) 58) ([97,100,100]:Aq) 59) ([99,97,115]:Aq) 60))) Aa (Up.fact (i:=0) Aa) ?_)))))))));obtain rfl:=A2 h;exact Az (BI Tryz.results38 (AR Aa)) (sS sN) ⟨Aa,Aa⟩
theorem VV (F:Nat)(state:(List Ac))(op:A6)(r:(List Ac)×A8×Int)(h:VW F state op=some r):Fn Tryz.prog GE 11 [AD 4 (Ap Ab state),Bd (Am op)] [] (λR H=>R=Dk [AD 4 (Ap Ab r.1),Bd (Ao r.2.1),Aj r.2.2]∧H=[]):=by
 refine enter (n:=37) Tryz.func11 Aa Tryz.ntmps11 Aa (λw Z=>?_);unfold VW at h;refine An (BH Aa Aa (λb1=>?_));refine wa Aa (B3 (cs:=[Aj 0,rv (.slice none 0 0)]) GL Aa Aa (λb2=>?_));refine wa Aa (Ax (Av (An (wv (Bf (i:=1) Es Cc Aa Aa Aa Aa) (ob h λr3 e5 h4=>Cl Tryz.call36 (Pp F op r3 e5) Aa (wa Aa (B4 (wm Aa (wv (Dp Aa Aa) (Ax (cz h4 Aa (λc6 h7=>?_) (λc6 h8=>?_))))))))))))
 ·refine An (wv (r:=Bd [Aj 0,rv (.slice none 0 0)]) (Gc ) (wm Aa (wa Aa (AF (i:=0) Bs Aa Aa Aa (Be.c Aa) Aa Aa (cs':=[Aj 0,rv (.slice none 0 0)]) Aa (H':=[.blk b2 [Aj 0,rv (.slice none 0 0)] 31,.blk b1 (Am op) 25]) Aa (wa Aa (Ax (A0 (Ah (WK.up (d:=4) (r:=AD 4 (Ap Ab ([]:List Ac))) Aa (Up.le (Gx.nil _)) (WK.upBlk (i:=0) (cs':=[Aj 0,AD 4 (Ap Ab ([]:List Ac))]) Aa ⟨Up.refl _,Up.le (Gx.nil _),trivial⟩ ?_))))))))));obtain rfl:=A2 h7;exact Az (LB Rx (AR Aa) (BO (i:=0) Cw Bs Aa Aa Aa) (AR Aa)) (sS (sS sN)) ⟨Aa,Aa⟩
 ·refine A1 (AT (Av (An (wm Aa (ob h8 λr9 hq hr=>Cl Tryz.call37 (OK F state r9 hq) Aa (wa Aa (B4 (wm Aa (wv (Dp Aa Aa) (Ax (cz hr Aa (λhs ht=>?_) (λhs hu=>?_))))))))))))
  ·refine An (wv (r:=Bd [Aj 0,rv (.slice none 0 0)]) (Gc ) (wm Aa (wa Aa (AF (i:=0) Bs Aa Aa Aa (Be.c Aa) Aa Aa (cs':=[Aj 0,rv (.slice none 0 0)]) Aa (H':=[.blk b2 [Aj 0,rv (.slice none 0 0)] 31,.blk b1 (Am op) 25]) Aa (wa Aa (Ax (A0 (Ah (WK.up (d:=4) (r:=AD 4 (Ap Ab ([]:List Ac))) Aa (Up.le (Gx.nil _)) (WK.upBlk (i:=0) (cs':=[Aj 0,AD 4 (Ap Ab ([]:List Ac))]) Aa ⟨Up.refl _,Up.le (Gx.nil _),trivial⟩ ?_))))))))));obtain rfl:=A2 ht;exact Az (LB Rx (AR Aa) (BO (i:=0) Cw Bs Aa Aa Aa) (AR Aa)) (sS (sS sN)) ⟨Aa,Aa⟩
  ·refine A1 (AT (Av (bz hu (λhn hw=>?_) (λhn hx=>?_))))
   ·refine ob hw λhf hy hz=>ob hz λha h0 h1=>Cu 14 [0,3,5] [⟨[],RB (AG mF (mset (mset (mset (mset ([]:List (Aq×Nat)) ([114,101,97,100]:Aq) 57) ([119,114,105,116,101]:Aq) 58) ([97,100,100]:Aq) 59) ([99,97,115]:Aq) 60)),none,none,none⟩,⟨[],rP b1 2,none,none,none⟩,⟨[1],rS op.fOp,none,none,none⟩,⟨[0,2],rv (.func (.func 57) #[] #[]),none,none,none⟩,⟨[],AD 4 (Ap Ab state),none,none,none⟩,⟨[4],AD 4 (Ap Ab hf),none,none,none⟩,⟨[],rP b1 3,none,none,none⟩,⟨[6],AD 1 (Ap Ai op.fArgs),none,none,none⟩,⟨[3,5,7],Dk [AD 4 (Ap Ab ha.1),Bd (Ao ha.2)],none,none,none⟩,⟨[8],Dk [AD 4 (Ap Ab ha.1),Bd (Ao ha.2)],none,none,none⟩,⟨[9],AD 4 (Ap Ab ha.1),none,none,none⟩,⟨[9],Bd (Ao ha.2),none,none,none⟩,⟨[],rv undef,some ([Aj 0,rv (.slice none 0 0)],31),none,none⟩,⟨[10],AD 4 (Ap Ab ha.1),none,none,none⟩] ?_ (λβ=>?_)
    ·refine Oc (D7 Tryz.call38 (Km (mset (mset (mset (mset ([]:List (Aq×Nat)) ([114,101,97,100]:Aq) 57) ([119,114,105,116,101]:Aq) 58) ([97,100,100]:Aq) 59) ([99,97,115]:Aq) 60) rfl) rfl) (C5 (AS BG rfl CF rfl rfl) (Ii (B1 (i:=1) CZ rfl rfl rfl) (C5 (HU (enc:=mF) (xs:=(mset (mset (mset (mset ([]:List (Aq×Nat)) ([114,101,97,100]:Aq) 57) ([119,114,105,116,101]:Aq) 58) ([97,100,100]:Aq) 59) ([99,97,115]:Aq) 60)) (q:=57) O6 Gn rfl rfl (by rw[XE hn];rfl)) (C5 (Ay rfl) (Oc (D7 Lz (D1 state hf hy) rfl) (C5 (AS BG rfl Ei rfl rfl) (Ii (B1 (i:=1) EG rfl rfl rfl) (Oc (Ob Tryz.call57 (Pm hf op.fArgs ha h0) rfl rfl) (C5 (Ay rfl) (C5 (AO rfl rfl) (C5 (AO rfl rfl) (VU (PI (cs:=[Aj 0,rv (.slice none 0 0)]) GL rfl) (C5 (AV rfl) ?_)))))))))))));exact Ml
    refine C4 (H1:=[.blk b2 [Aj 0,rv (.slice none 0 0)] 31,.blk b1 (Am op) 25,.blk (β 12) [Aj 0,rv (.slice none 0 0)] 31]) [24,25,26,27,28,29,30,31,32,23,33,34,10,9,0,3,5] ?_;generalize β 12=hg;refine AF (i:=2) Bs Aa Aa Aa (Be.c Aa) Aa Aa (cs':=[Aj ha.2.fErr,AD 4 (Ap Ab ha.2.fValue)]) Aa (H':=[.blk b2 [Aj 0,rv (.slice none 0 0)] 31,.blk b1 (Am op) 25,.blk hg (Ao ha.2) 31]) Aa (Ax (Av (Cu 3 [5,9,10] [⟨[],AD 4 (Ap Ab ha.1),none,none,none⟩,⟨[],Bd (Ao ha.2),none,none,none⟩,⟨[0],AD 4 (Ap Ab ha.1),none,none,none⟩] ?_ (λβ=>?_))))
    ·refine C5 (Ay Aa) (Ii (Bf (i:=2) Cw Bs Aa Aa Aa Aa) (C5 (AV Aa) ?_));exact Ml
    refine C4 (H1:=[.blk b2 [Aj 0,rv (.slice none 0 0)] 31,.blk b1 (Am op) 25,.blk hg (Ao ha.2) 31]) [35,36,4,5,9,10] ?_;refine AF (i:=0) Bs Aa Aa Aa (Be.c Aa) Aa Aa (cs':=[Aj ha.2.fErr,AD 4 (Ap Ab ha.2.fValue)]) Aa (H':=[.blk b2 (Ao ha.2) 31,.blk b1 (Am op) 25,.blk hg (Ao ha.2) 31]) Aa (wa Aa (Ax (A0 ?_)));obtain rfl:=A2 h1;exact Az (LB Rx (AR Aa) (BO (i:=0) Cw Bs Aa Aa Aa) (AR Aa)) (sS (sS (sS sN))) ⟨Aa,Aa⟩
   ·refine bz hx (λho h2=>?_) (λho h3=>?_)
    ·refine ob h2 λhh h5 h6=>ob h6 λhb h9 hA=>Cu 14 [0,3,5] [⟨[],RB (AG mF (mset (mset (mset (mset ([]:List (Aq×Nat)) ([114,101,97,100]:Aq) 57) ([119,114,105,116,101]:Aq) 58) ([97,100,100]:Aq) 59) ([99,97,115]:Aq) 60)),none,none,none⟩,⟨[],rP b1 2,none,none,none⟩,⟨[1],rS op.fOp,none,none,none⟩,⟨[0,2],rv (.func (.func 58) #[] #[]),none,none,none⟩,⟨[],AD 4 (Ap Ab state),none,none,none⟩,⟨[4],AD 4 (Ap Ab hh),none,none,none⟩,⟨[],rP b1 3,none,none,none⟩,⟨[6],AD 1 (Ap Ai op.fArgs),none,none,none⟩,⟨[3,5,7],Dk [AD 4 (Ap Ab hb.1),Bd (Ao hb.2)],none,none,none⟩,⟨[8],Dk [AD 4 (Ap Ab hb.1),Bd (Ao hb.2)],none,none,none⟩,⟨[9],AD 4 (Ap Ab hb.1),none,none,none⟩,⟨[9],Bd (Ao hb.2),none,none,none⟩,⟨[],rv undef,some ([Aj 0,rv (.slice none 0 0)],31),none,none⟩,⟨[10],AD 4 (Ap Ab hb.1),none,none,none⟩] ?_ (λβ=>?_)
     ·refine Oc (D7 Tryz.call38 (Km (mset (mset (mset (mset ([]:List (Aq×Nat)) ([114,101,97,100]:Aq) 57) ([119,114,105,116,101]:Aq) 58) ([97,100,100]:Aq) 59) ([99,97,115]:Aq) 60) rfl) rfl) (C5 (AS BG rfl CF rfl rfl) (Ii (B1 (i:=1) CZ rfl rfl rfl) (C5 (HU (enc:=mF) (xs:=(mset (mset (mset (mset ([]:List (Aq×Nat)) ([114,101,97,100]:Aq) 57) ([119,114,105,116,101]:Aq) 58) ([97,100,100]:Aq) 59) ([99,97,115]:Aq) 60)) (q:=58) O6 Gn rfl rfl (by rw[XE ho];rfl)) (C5 (Ay rfl) (Oc (D7 Lz (D1 state hh h5) rfl) (C5 (AS BG rfl Ei rfl rfl) (Ii (B1 (i:=1) EG rfl rfl rfl) (Oc (Ob Tryz.call58 (Of hh op.fArgs hb h9) rfl rfl) (C5 (Ay rfl) (C5 (AO rfl rfl) (C5 (AO rfl rfl) (VU (PI (cs:=[Aj 0,rv (.slice none 0 0)]) GL rfl) (C5 (AV rfl) ?_)))))))))))));exact Ml
     refine C4 (H1:=[.blk b2 [Aj 0,rv (.slice none 0 0)] 31,.blk b1 (Am op) 25,.blk (β 12) [Aj 0,rv (.slice none 0 0)] 31]) [24,25,26,27,28,29,30,31,32,23,33,34,10,9,0,3,5] ?_;generalize β 12=hi;refine AF (i:=2) Bs Aa Aa Aa (Be.c Aa) Aa Aa (cs':=[Aj hb.2.fErr,AD 4 (Ap Ab hb.2.fValue)]) Aa (H':=[.blk b2 [Aj 0,rv (.slice none 0 0)] 31,.blk b1 (Am op) 25,.blk hi (Ao hb.2) 31]) Aa (Ax (Av (Cu 3 [5,9,10] [⟨[],AD 4 (Ap Ab hb.1),none,none,none⟩,⟨[],Bd (Ao hb.2),none,none,none⟩,⟨[0],AD 4 (Ap Ab hb.1),none,none,none⟩] ?_ (λβ=>?_))))
     ·refine C5 (Ay Aa) (Ii (Bf (i:=2) Cw Bs Aa Aa Aa Aa) (C5 (AV Aa) ?_));exact Ml
     refine C4 (H1:=[.blk b2 [Aj 0,rv (.slice none 0 0)] 31,.blk b1 (Am op) 25,.blk hi (Ao hb.2) 31]) [35,36,4,5,9,10] ?_;refine AF (i:=0) Bs Aa Aa Aa (Be.c Aa) Aa Aa (cs':=[Aj hb.2.fErr,AD 4 (Ap Ab hb.2.fValue)]) Aa (H':=[.blk b2 (Ao hb.2) 31,.blk b1 (Am op) 25,.blk hi (Ao hb.2) 31]) Aa (wa Aa (Ax (A0 ?_)));obtain rfl:=A2 hA;exact Az (LB Rx (AR Aa) (BO (i:=0) Cw Bs Aa Aa Aa) (AR Aa)) (sS (sS (sS sN))) ⟨Aa,Aa⟩
    ·refine bz h3 (λhp hB=>?_) (λhp hC=>?_)
     ·refine ob hB λhj hD hE=>ob hE λhd hG hH=>Cu 14 [0,3,5] [⟨[],RB (AG mF (mset (mset (mset (mset ([]:List (Aq×Nat)) ([114,101,97,100]:Aq) 57) ([119,114,105,116,101]:Aq) 58) ([97,100,100]:Aq) 59) ([99,97,115]:Aq) 60)),none,none,none⟩,⟨[],rP b1 2,none,none,none⟩,⟨[1],rS op.fOp,none,none,none⟩,⟨[0,2],rv (.func (.func 59) #[] #[]),none,none,none⟩,⟨[],AD 4 (Ap Ab state),none,none,none⟩,⟨[4],AD 4 (Ap Ab hj),none,none,none⟩,⟨[],rP b1 3,none,none,none⟩,⟨[6],AD 1 (Ap Ai op.fArgs),none,none,none⟩,⟨[3,5,7],Dk [AD 4 (Ap Ab hd.1),Bd (Ao hd.2)],none,none,none⟩,⟨[8],Dk [AD 4 (Ap Ab hd.1),Bd (Ao hd.2)],none,none,none⟩,⟨[9],AD 4 (Ap Ab hd.1),none,none,none⟩,⟨[9],Bd (Ao hd.2),none,none,none⟩,⟨[],rv undef,some ([Aj 0,rv (.slice none 0 0)],31),none,none⟩,⟨[10],AD 4 (Ap Ab hd.1),none,none,none⟩] ?_ (λβ=>?_)
      ·refine Oc (D7 Tryz.call38 (Km (mset (mset (mset (mset ([]:List (Aq×Nat)) ([114,101,97,100]:Aq) 57) ([119,114,105,116,101]:Aq) 58) ([97,100,100]:Aq) 59) ([99,97,115]:Aq) 60) rfl) rfl) (C5 (AS BG rfl CF rfl rfl) (Ii (B1 (i:=1) CZ rfl rfl rfl) (C5 (HU (enc:=mF) (xs:=(mset (mset (mset (mset ([]:List (Aq×Nat)) ([114,101,97,100]:Aq) 57) ([119,114,105,116,101]:Aq) 58) ([97,100,100]:Aq) 59) ([99,97,115]:Aq) 60)) (q:=59) O6 Gn rfl rfl (by rw[XE hp];rfl)) (C5 (Ay rfl) (Oc (D7 Lz (D1 state hj hD) rfl) (C5 (AS BG rfl Ei rfl rfl) (Ii (B1 (i:=1) EG rfl rfl rfl) (Oc (Ob Tryz.call59 (Tx F hj op.fArgs hd hG) rfl rfl) (C5 (Ay rfl) (C5 (AO rfl rfl) (C5 (AO rfl rfl) (VU (PI (cs:=[Aj 0,rv (.slice none 0 0)]) GL rfl) (C5 (AV rfl) ?_)))))))))))));exact Ml
      refine C4 (H1:=[.blk b2 [Aj 0,rv (.slice none 0 0)] 31,.blk b1 (Am op) 25,.blk (β 12) [Aj 0,rv (.slice none 0 0)] 31]) [24,25,26,27,28,29,30,31,32,23,33,34,10,9,0,3,5] ?_;generalize β 12=hk;refine AF (i:=2) Bs Aa Aa Aa (Be.c Aa) Aa Aa (cs':=[Aj hd.2.fErr,AD 4 (Ap Ab hd.2.fValue)]) Aa (H':=[.blk b2 [Aj 0,rv (.slice none 0 0)] 31,.blk b1 (Am op) 25,.blk hk (Ao hd.2) 31]) Aa (Ax (Av (Cu 3 [5,9,10] [⟨[],AD 4 (Ap Ab hd.1),none,none,none⟩,⟨[],Bd (Ao hd.2),none,none,none⟩,⟨[0],AD 4 (Ap Ab hd.1),none,none,none⟩] ?_ (λβ=>?_))))
      ·refine C5 (Ay Aa) (Ii (Bf (i:=2) Cw Bs Aa Aa Aa Aa) (C5 (AV Aa) ?_));exact Ml
      refine C4 (H1:=[.blk b2 [Aj 0,rv (.slice none 0 0)] 31,.blk b1 (Am op) 25,.blk hk (Ao hd.2) 31]) [35,36,4,5,9,10] ?_;refine AF (i:=0) Bs Aa Aa Aa (Be.c Aa) Aa Aa (cs':=[Aj hd.2.fErr,AD 4 (Ap Ab hd.2.fValue)]) Aa (H':=[.blk b2 (Ao hd.2) 31,.blk b1 (Am op) 25,.blk hk (Ao hd.2) 31]) Aa (wa Aa (Ax (A0 ?_)));obtain rfl:=A2 hH;exact Az (LB Rx (AR Aa) (BO (i:=0) Cw Bs Aa Aa Aa) (AR Aa)) (sS (sS (sS sN))) ⟨Aa,Aa⟩
     ·refine ck hC λhI hJ=>ob hJ λhl hK hL=>ob hL λhe hN hO=>Cu 14 [0,3,5] [⟨[],RB (AG mF (mset (mset (mset (mset ([]:List (Aq×Nat)) ([114,101,97,100]:Aq) 57) ([119,114,105,116,101]:Aq) 58) ([97,100,100]:Aq) 59) ([99,97,115]:Aq) 60)),none,none,none⟩,⟨[],rP b1 2,none,none,none⟩,⟨[1],rS op.fOp,none,none,none⟩,⟨[0,2],rv (.func (.func 60) #[] #[]),none,none,none⟩,⟨[],AD 4 (Ap Ab state),none,none,none⟩,⟨[4],AD 4 (Ap Ab hl),none,none,none⟩,⟨[],rP b1 3,none,none,none⟩,⟨[6],AD 1 (Ap Ai op.fArgs),none,none,none⟩,⟨[3,5,7],Dk [AD 4 (Ap Ab he.1),Bd (Ao he.2)],none,none,none⟩,⟨[8],Dk [AD 4 (Ap Ab he.1),Bd (Ao he.2)],none,none,none⟩,⟨[9],AD 4 (Ap Ab he.1),none,none,none⟩,⟨[9],Bd (Ao he.2),none,none,none⟩,⟨[],rv undef,some ([Aj 0,rv (.slice none 0 0)],31),none,none⟩,⟨[10],AD 4 (Ap Ab he.1),none,none,none⟩] ?_ (λβ=>?_)
      ·refine Oc (D7 Tryz.call38 (Km (mset (mset (mset (mset ([]:List (Aq×Nat)) ([114,101,97,100]:Aq) 57) ([119,114,105,116,101]:Aq) 58) ([97,100,100]:Aq) 59) ([99,97,115]:Aq) 60) rfl) rfl) (C5 (AS BG rfl CF rfl rfl) (Ii (B1 (i:=1) CZ rfl rfl rfl) (C5 (HU (enc:=mF) (xs:=(mset (mset (mset (mset ([]:List (Aq×Nat)) ([114,101,97,100]:Aq) 57) ([119,114,105,116,101]:Aq) 58) ([97,100,100]:Aq) 59) ([99,97,115]:Aq) 60)) (q:=60) O6 Gn rfl rfl (by rw[XE hI];rfl)) (C5 (Ay rfl) (Oc (D7 Lz (D1 state hl hK) rfl) (C5 (AS BG rfl Ei rfl rfl) (Ii (B1 (i:=1) EG rfl rfl rfl) (Oc (Ob Tryz.call60 (Qw F hl op.fArgs he hN) rfl rfl) (C5 (Ay rfl) (C5 (AO rfl rfl) (C5 (AO rfl rfl) (VU (PI (cs:=[Aj 0,rv (.slice none 0 0)]) GL rfl) (C5 (AV rfl) ?_)))))))))))));exact Ml
      refine C4 (H1:=[.blk b2 [Aj 0,rv (.slice none 0 0)] 31,.blk b1 (Am op) 25,.blk (β 12) [Aj 0,rv (.slice none 0 0)] 31]) [24,25,26,27,28,29,30,31,32,23,33,34,10,9,0,3,5] ?_;generalize β 12=hm;refine AF (i:=2) Bs Aa Aa Aa (Be.c Aa) Aa Aa (cs':=[Aj he.2.fErr,AD 4 (Ap Ab he.2.fValue)]) Aa (H':=[.blk b2 [Aj 0,rv (.slice none 0 0)] 31,.blk b1 (Am op) 25,.blk hm (Ao he.2) 31]) Aa (Ax (Av (Cu 3 [5,9,10] [⟨[],AD 4 (Ap Ab he.1),none,none,none⟩,⟨[],Bd (Ao he.2),none,none,none⟩,⟨[0],AD 4 (Ap Ab he.1),none,none,none⟩] ?_ (λβ=>?_))))
      ·refine C5 (Ay Aa) (Ii (Bf (i:=2) Cw Bs Aa Aa Aa Aa) (C5 (AV Aa) ?_));exact Ml
      refine C4 (H1:=[.blk b2 [Aj 0,rv (.slice none 0 0)] 31,.blk b1 (Am op) 25,.blk hm (Ao he.2) 31]) [35,36,4,5,9,10] ?_;refine AF (i:=0) Bs Aa Aa Aa (Be.c Aa) Aa Aa (cs':=[Aj he.2.fErr,AD 4 (Ap Ab he.2.fValue)]) Aa (H':=[.blk b2 (Ao he.2) 31,.blk b1 (Am op) 25,.blk hm (Ao he.2) 31]) Aa (wa Aa (Ax (A0 ?_)));obtain rfl:=A2 hO;exact Az (LB Rx (AR Aa) (BO (i:=0) Cw Bs Aa Aa Aa) (AR Aa)) (sS (sS (sS sN))) ⟨Aa,Aa⟩
theorem Mo (F:Nat)(op:A6)(r:A6)(h:JA F op=some r):Fn Tryz.prog GE 48 [Bd (Am op)] [] (λR H=>R=Bd (Am r)∧H=[]):=by
 refine enter (n:=24) Tryz.func48 Aa Tryz.ntmps48 Aa (λw Z=>?_);unfold JA at h;refine An (BH Aa Aa (λb1=>?_));refine B3 (cs:=[rS ([]:Aq),rS ([]:Aq),rS ([]:Aq),rv (.slice none 0 0)]) Tryz.zeroValue25 Aa Aa (λb2=>?_);refine B4 (vF BG Aa Ei (vL 1 EG Aa (wa Aa (B4 (vF BG Aa Ei (Cm (i:=1) Ei Aa Aa (C7 Aa) Aa Aa (cs':=[rS op.fEntity,rS op.fID,rS op.fOp,rv (.slice none 0 0)]) Aa (H':=[.blk b2 [rS ([]:Aq),rS ([]:Aq),rS ([]:Aq),rv (.slice none 0 0)] 25,.blk b1 [rS op.fEntity,rS op.fID,rS op.fOp,rv (.slice none 0 0)] 25]) Aa (Ax (Av (An (wm Aa (wv (Bo (ys:=op.fArgs) (enc:=Ai) Du Aa) (wv (r:=Aj 0) (Ay Aa) (Ax (AN (WC.nilrow (e:=22) (sz:=1) (Gy (H2:=[.blk b2 [rS ([]:Aq),rS ([]:Aq),rS ([]:Aq),rv (.slice none 0 0)] 25,.blk b1 [rS op.fEntity,rS op.fID,rS op.fOp,rv (.slice none 0 0)] 25,.row (.slice none 0 0                      ) 22 1 (Ap Ai ([]:List (List Ac)))]) ((Ae (i:=1) Aa).trans (WZ _ ((Ae (i:=1) Aa).trans (WZ _ (Xd _))))) (ob h λhj hk hl=>Bv (S:=Nat×(Int×(List (List Ac)))×(Value)) (V:=((List (List Ac)))×(Value)) 0 (λσ=>BW (λσ=>E5 op σ.1 σ.2) σ.1 σ.2.1=some hj) (λσ=>[(1,rP b1 0),(2,rP b2 0),(9,AD 1 (Ap Ai op.fArgs)),(10,Aj (op.fArgs.length:Int)),(11,Aj σ.2.1.1)]) (λσ=>[.blk b2 [rS ([]:Aq),rS ([]:Aq),rS ([]:Aq),rv (.slice none 0 0)] 25,.blk b1 [rS op.fEntity,rS op.fID,rS op.fOp,rv σ.2.2] 25,.row σ.2.2 22 1 (Ap Ai σ.2.1.2)]) (λσ=>σ.1) (F,(0,([]:List (List Ac))),(.slice none 0 0                      )) hk (AJ.c5 Aa Aa Aa Aa Aa AJ.nil) (sC (sC (sC sN))) (λσ=>Ja op σ.1=some r) (λσ=>[(1,rP b1 0),(2,rP b2 0)]) (λσ=>[.blk b2 [rS ([]:Aq),rS ([]:Aq),rS ([]:Aq),rv (.slice none 0 0)] 25,.blk b1 [rS op.fEntity,rS op.fID,rS op.fOp,rv σ.2] 25,.row σ.2 22 1 (Ap Ai σ.1)]) ?_ ?_)))))))))))))))))
 ·rintro⟨h2,⟨he,hb⟩,v32⟩ hm;refine BM (l':=[(1,rP b1 0),(2,rP b2 0),(9,AD 1 (Ap Ai op.fArgs)),(10,Aj (op.fArgs.length:Int)),(11,Aj he)]) (H':=[.blk b2 [rS ([]:Aq),rS ([]:Aq),rS ([]:Aq),rv (.slice none 0 0)] 25,.blk b1 [rS op.fEntity,rS op.fID,rS op.fOp,rv v32] 25,.row v32 22 1 (Ap Ai hb)]) Aa Aa ?_;obtain⟨hn,rfl,t51,hf,hi⟩:=Cz hm;replace hf:E5 op he hb=some t51:=hf;unfold E5 at hf;refine An (wv (C2 Aa Aa) (Ax (Av (cz hf Aa (λho hp=>?_) (λho hq=>?_)))))
  ·refine A1 (AT (Av (AN (An (ck hp λhr hs=>wv (Bh (enc:=Ai) (ys:=op.fArgs) Du D9 Aa Aa hr) (wv (Bg EE Aa Aa) (wa Aa (Ax (ob hs λha ht hu=>Cu 5 [1,2,5,9,10,11] [⟨[],rP b1 3,none,none,none⟩,⟨[0],rv v32,none,none,none⟩,⟨[],AD 4 (Ap Ab (Af op.fArgs he)),none,none,none⟩,⟨[2],AD 4 (Ap Ab ha),none,none,none⟩,⟨[3],AD 1 (Ap Ai ([ha]:List (List Ac))),none,none,none⟩] ?_ (λβ=>?_))))))))))
   ·refine C5 (AS BG Aa Ei Aa Aa) (Ii (B1 (i:=1) EG Aa Aa Aa) (C5 (Ay Aa) (Oc (D7 Lz (D1 (Af op.fArgs he) ha ht) Aa) (Oc (Js (ys:=([ha]:List (List Ac))) (enc:=Ai) (css:=[[AD 4 (Ap Ab ha)]]) (xs:=[.tmp 18]) Du D9 Tryz.zeroValue22 Aa Aa Aa ⟨Jm.one Aa (Up.refl _),trivial⟩ Aa Er Aa Aa) ?_))));exact Ml
   refine C4 (H1:=[.blk b2 [rS ([]:Aq),rS ([]:Aq),rS ([]:Aq),rv (.slice none 0 0)] 25,.blk b1 [rS op.fEntity,rS op.fID,rS op.fOp,rv v32] 25,.row v32 22 1 (Ap Ai hb)]) [15,16,17,18,19,1,2,5,9,10,11] ?_;refine ck hu λhw hx=>Exists.elim VB λinf hinf=>Da (xs:=hb) (ys:=([ha]:List (List Ac))) (enc:=Ai) (i:=2) Du hinf.1 hinf.2.1 hinf.2.2.1 hinf.2.2.2 Aa Aa Aa Aa Aa (MK.z Aa Aa) Er L6 hw Aa (λv64=>?_);refine vF BG Aa Ei (Cm (i:=2) Ei Aa Aa (IT (i:=0) Aa) Aa Aa (cs':=[rS op.fEntity,rS op.fID,rS op.fOp,rv v64]) Aa (H':=[.row v64 22 1 (Ap Ai (hb++([ha]:List (List Ac)))),.blk b2 [rS ([]:Aq),rS ([]:Aq),rS ([]:Aq),rv (.slice none 0 0)] 25,.blk b1 [rS op.fEntity,rS op.fID,rS op.fOp,rv v64] 25]) Aa (At (AL (AT (Au (ck hx λhy hz=>wv (B0 Aa Aa hy) (wm Aa (At (BV (H2:=[.blk b2 [rS ([]:Aq),rS ([]:Aq),rS ([]:Aq),rv (.slice none 0 0)] 25,.blk b1 [rS op.fEntity,rS op.fID,rS op.fOp,rv v64] 25,.row v64 22 1 (Ap Ai (hb++([ha]:List (List Ac))))]) ((Ae (i:=1) Aa).trans (WZ _ ((Ae (i:=1) Aa).trans (WZ _ (Xd _))))) ?_)))))))));have h0:=Bn hz hi;exact AC (AA (hn,(he+1,hb++([ha]:List (List Ac))),v64) ⟨h0,Xi _⟩ (AJ.c5 Aa Aa Aa Aa Aa AJ.nil) (sC (sC (sC sN))))
  ·refine By (A4 ?_);have h1:=BQ hq hi hl;exact A4 (Bi (AA (hb,v32) h1 (AJ.c Aa (AJ.c Aa AJ.nil)) (sC (sC (sC sN)))))
 ·rintro⟨hg,hd⟩ hh;refine Cy (l':=[(1,rP b1 0),(2,rP b2 0)]) (H':=[.blk b2 [rS ([]:Aq),rS ([]:Aq),rS ([]:Aq),rv (.slice none 0 0)] 25,.blk b1 [rS op.fEntity,rS op.fID,rS op.fOp,rv hd] 25,.row hd 22 1 (Ap Ai hg)]) Aa Aa ?_;replace hh:Ja op hg=some r:=hh;unfold Ja at hh;refine Bk (AT (An (wv (Bf (i:=1) Es Cc Aa Aa Aa Aa) (AF (i:=0) Cc Aa Aa Aa ⟨(C7 Aa),(C7 Aa),(C7 Aa),(IT (i:=2) Aa),trivial⟩ Aa Aa (cs':=[rS op.fEntity,rS op.fID,rS op.fOp,rv hd]) Aa (H':=[.blk b2 [rS op.fEntity,rS op.fID,rS op.fOp,rv hd] 25,.blk b1 [rS op.fEntity,rS op.fID,rS op.fOp,rv hd] 25,.row hd 22 1 (Ap Ai hg)]) Aa (Ax (A0 (WK.freeze (i:=2) Aa (WK.upBlk (i:=1) (cs':=[rS op.fEntity,rS op.fID,rS op.fOp,AD 1 (Ap Ai hg)]) Aa ⟨Up.refl _,Up.refl _,Up.refl _,Up.fact (i:=0) Aa,trivial⟩ ?_))))))));obtain rfl:=A2 hh;exact Az (BI Tryz.results48 (BO (i:=1) Es Cc Aa Aa Aa)) (sS (sS (sS sN))) ⟨Aa,Aa⟩
theorem KR (F:Nat)(c:Al)(r:Al)(h:EK F c=some r):Fn Tryz.prog GE 45 [Bd (Ad c)] [] (λR H=>R=Bd (Ad r)∧H=[]):=by
 refine enter (n:=14) Tryz.func45 Aa Tryz.ntmps45 Aa (λw Z=>?_);unfold EK at h;refine An (BH Aa Aa (λb1=>?_));refine B3 (cs:=[rS ([]:Aq),rS ([]:Aq),rS ([]:Aq),rv (.slice none 0 0),Aj 0,rv (.slice none 0 0),Aj 0,Aj 0]) KB Aa Aa (λb2=>?_);refine B4 (vF C3 Aa Cc (wv (Bf (i:=1) Es Cc Aa Aa Aa Aa) (ob h λr3 e5 h4=>Cl Tryz.call48 (Mo F c.fOp r3 e5) Aa (vF C3 Aa Cc (AF (i:=1) Cc Aa Aa Aa (Be.c Aa) Aa Aa (cs':=[rS r3.fEntity,rS r3.fID,rS r3.fOp,AD 1 (Ap Ai r3.fArgs),Aj c.fAnswer.fErr,AD 4 (Ap Ab c.fAnswer.fValue),Aj c.fFrom,Aj c.fTo]) Aa (H':=[.blk b2 [rS ([]:Aq),rS ([]:Aq),rS ([]:Aq),rv (.slice none 0 0),Aj 0,rv (.slice none 0 0),Aj 0,Aj 0] 44,.blk b1 [rS r3.fEntity,rS r3.fID,rS r3.fOp,AD 1 (Ap Ai r3.fArgs),Aj c.fAnswer.fErr,AD 4 (Ap Ab c.fAnswer.fValue),Aj c.fFrom,Aj c.fTo] 44]) Aa (B4 (vF C3 Aa Bs (vF O7 Aa D9 (vL 1 EE Aa (ob h4 λr6 e8 h7=>Cl Lz (D1 c.fAnswer.fValue r6 e8) Aa (vF C3 Aa Bs (vF O7 Aa D9 (Cm (i:=1) D9 Aa Aa (C7 Aa) Aa Aa (cs':=[rS r3.fEntity,rS r3.fID,rS r3.fOp,AD 1 (Ap Ai r3.fArgs),Aj c.fAnswer.fErr,AD 4 (Ap Ab r6),Aj c.fFrom,Aj c.fTo]) Aa (H':=[.blk b2 [rS ([]:Aq),rS ([]:Aq),rS ([]:Aq),rv (.slice none 0 0),Aj 0,rv (.slice none 0 0),Aj 0,Aj 0] 44,.blk b1 [rS r3.fEntity,rS r3.fID,rS r3.fOp,AD 1 (Ap Ai r3.fArgs),Aj c.fAnswer.fErr,AD 4 (Ap Ab r6),Aj c.fFrom,Aj c.fTo] 44]) Aa (B4 (wv (Bf (i:=1) In BL Aa Aa Aa Aa) (AF (i:=0) BL Aa Aa Aa (Be.c Aa) Aa Aa (cs':=[rS r3.fEntity,rS r3.fID,rS r3.fOp,AD 1 (Ap Ai r3.fArgs),Aj c.fAnswer.fErr,AD 4 (Ap Ab r6),Aj c.fFrom,Aj c.fTo]) Aa (H':=[.blk b2 [rS r3.fEntity,rS r3.fID,rS r3.fOp,AD 1 (Ap Ai r3.fArgs),Aj c.fAnswer.fErr,AD 4 (Ap Ab r6),Aj c.fFrom,Aj c.fTo] 44,.blk b1 [rS r3.fEntity,rS r3.fID,rS r3.fOp,AD 1 (Ap Ai r3.fArgs),Aj c.fAnswer.fErr,AD 4 (Ap Ab r6),Aj c.fFrom,Aj c.fTo] 44]) Aa (Ax (A0 ?_))))))))))))))))));obtain rfl:=A2 h7;exact Az (BI Tryz.results45 (BO (i:=0) In BL Aa Aa Aa)) (sS (sS sN)) ⟨Aa,Aa⟩
theorem Tt (F:Nat)(x:(List Ac))(y:(List Ac))(r:Bool)(h:Og F x y=some r):Fn Tryz.prog GE 70 [AD 4 (Ap Ab x),AD 4 (Ap Ab y)] [] (λR H=>R=rB r∧H=[]):=by
 refine enter (n:=8) Tryz.func70 Aa Tryz.ntmps70 Aa (λw Z=>?_);unfold Og at h;refine An (wa Aa (B4 (wm Aa (wm Aa (ob h λr1 e3 h2=>Cl Tryz.call71 (Ng F x y r1 e3) Aa (wa Aa (Ax (A0 ?_))))))));obtain rfl:=A2 h2;exact Az (BI Tryz.results70 (AR Aa)) sN ⟨Aa,Aa⟩
theorem TQ (F:Nat)(a:(List (List Ac)))(b:(List (List Ac)))(r:Bool)(h:IE F a b=some r):Fn Tryz.prog GE 69 [AD 1 (Ap Ai a),AD 1 (Ap Ai b),rv (.func (.func 70) #[] #[])] [] (λR H=>R=rB r∧H=[]):=by
 refine enter (n:=32) Tryz.func69 Aa Tryz.ntmps69 Aa (λw Z=>?_);unfold IE at h;refine An (wa Aa (Ax (Av (An (wm Aa (wv (Bo (ys:=a) (enc:=Ai) Du Aa) (wm Aa (wv (Bo (ys:=b) (enc:=Ai) Du Aa) (wv (Dp Aa Aa) (Ax (cz h Aa (λc1 h2=>?_) (λc1 h3=>?_))))))))))))
 ·refine An (wa Aa (Ax (A0 (Ah ?_))));obtain rfl:=A2 h2;exact Az (BI Tryz.results69 (AR Aa)) sN ⟨Aa,Aa⟩
 ·refine A1 (AT (Av (An (wm Aa (wv (Bo (ys:=a) (enc:=Ai) Du Aa) (wv (r:=Aj 0) (Ay Aa) (Ax (AN (ob h3 λhg hh hf=>Bv (S:=Nat×(Int)×(Unit)) (V:=(Unit)×(Unit)) 0 (λσ=>BW (λσ=>GK F a b σ) σ.1 σ.2.1=some hg) (λσ=>[(1,AD 1 (Ap Ai b)),(2,rv (.func (.func 70) #[] #[])),(15,AD 1 (Ap Ai a)),(16,Aj (a.length:Int)),(17,Aj σ.2.1)]) (λσ=>[]) (λσ=>σ.1) (F,0,()) hh (AJ.c5 Aa Aa Aa Aa Aa AJ.nil) sN (λσ=>Jk =some r) (λσ=>[]) (λσ=>[]) ?_ ?_)))))))))
  ·rintro⟨h6,ha,⟨⟩⟩ hi;refine BM (l':=[(1,AD 1 (Ap Ai b)),(2,rv (.func (.func 70) #[] #[])),(15,AD 1 (Ap Ai a)),(16,Aj (a.length:Int)),(17,Aj ha)]) (H':=[]) Aa Aa ?_;obtain⟨hj,rfl,hk,hb,he⟩:=Cz hi;replace hb:GK F a b ha=some hk:=hb;unfold GK at hb;refine An (wv (C2 Aa Aa) (Ax (Av (cz hb Aa (λhl hm=>?_) (λhl hn=>?_)))))
   ·refine A1 (AT (Av (AN (An (wm Aa (ck hm λho hp=>wv (Bh (enc:=Ai) (ys:=a) Du D9 Aa Aa ho) (wv (Bg EE Aa Aa) (wa Aa (wa Aa (B4 (wm Aa (wm Aa (ck hp λhq hr=>wv (Bh (enc:=Ai) (ys:=b) Du D9 Aa Aa hq) (wv (Bg EE Aa Aa) (wa Aa (B4 (wm Aa (wm Aa (wm Aa (ob hr λhs ht hu=>Uq (rs:=[AD 4 (Ap Ab (Af a ha)),AD 4 (Ap Ab (Af b ha))]) (Hin:=[]) (Hr:=[]) Tryz.call70 Aa Aa (Xd _) (Tt F (Af a ha) (Af b ha) hs ht) Aa ?_))))))))))))))))))));rintro _ _ ⟨rfl,rfl⟩;refine wv (B8 Aa) (Ax (cz hu Aa (λhw hx=>?_) (λhw hy=>?_)))
    ·refine An (wa Aa (Ax (A0 (A9 (Ah (Ah (Bm ?_)))))));have hz:=B9 hx he hf;refine A9 (Ah ?_);obtain rfl:=A2 hz;exact Az (BI Tryz.results69 (AR Aa)) sN ⟨Aa,Aa⟩
    ·refine A1 (AL (AT (Au (ck hy λh0 h1=>wv (B0 Aa Aa h0) (wm Aa (At ?_))))));have h4:=Bn h1 he;exact AC (AA (hj,ha+1,()) ⟨h4,Xi _⟩ (AJ.c5 Aa Aa Aa Aa Aa AJ.nil) sN)
   ·refine By (A4 ?_);have h5:=BQ hn he hf;exact A4 (Bi (AA ((),()) h5 AJ.nil sN))
  ·rintro⟨⟨⟩,⟨⟩⟩ hd;refine Cy (l':=[]) (H':=[]) Aa Aa ?_;replace hd:Jk =some r:=hd;unfold Jk at hd;refine Bk (AT (An (wa Aa (Ax (A0 ?_)))));obtain rfl:=A2 hd;exact Az (BI Tryz.results69 (AR Aa)) sN ⟨Aa,Aa⟩
theorem UC (F:Nat)(a:A6)(b:A6)(r:Bool)(h:Po F a b=some r):Fn Tryz.prog GE 46 [Bd (Am a),Bd (Am b)] [] (λR H=>R=rB r∧H=[]):=by
 refine enter (n:=31) Tryz.func46 Aa Tryz.ntmps46 Aa (λw Z=>?_);unfold Po at h;refine An (BH Aa Aa (λb1=>?_));refine BH Aa Aa (λb2=>?_);refine wa Aa (Ax (ck h λg3 h4=>AU [(4,rB ((decide (a.fEntity=b.fEntity))&&((decide (a.fID=b.fID))&&((decide (a.fOp=b.fOp))&&(ov (IE F a.fArgs b.fArgs))))))] [] ?_ ?_))
 ·refine Au (vF BG Aa CF (vL 1 CZ Aa (vF BG Aa CF (vL 0 CZ Aa (wv (CC Aa Aa) (wm Aa (AY (decide (a.fEntity=b.fEntity)) (λc5=>?_) (λc5=>?_))))))))
  ·refine wo c5 (vF BG Aa CF (wo c5 (vL 1 CZ Aa (wo c5 (vF BG Aa CF (wo c5 (vL 0 CZ Aa (wo c5 (wv (CC Aa Aa) (EP Aa c5 Aa (wm Aa (AY (decide (a.fID=b.fID)) (λc6=>?_) (λc6=>?_)))))))))))))
   ·refine wo c6 (vF BG Aa CF (wo c6 (vL 1 CZ Aa (wo c6 (vF BG Aa CF (wo c6 (vL 0 CZ Aa (wo c6 (wv (CC Aa Aa) (EP Aa c6 Aa (wm Aa (AY (decide (a.fOp=b.fOp)) (λc7=>?_) (λc7=>?_)))))))))))))
    ·refine wo c7 (vF BG Aa Ei (wo c7 (vL 1 EG Aa (wo c7 (vF BG Aa Ei (wo c7 (vL 0 EG Aa (wo c7 (Cl Tryz.call69 (TQ F a.fArgs b.fArgs (ov (IE F a.fArgs b.fArgs)) (EQ (CW (CW (CW g3 c5) c6) c7))) Aa (EP Aa c7 Aa (wa Aa (At ?_))))))))))));exact Cg (And.intro c5 (And.intro c6 c7))
    ·refine wf c7 (wf c7 (wf c7 (wf c7 (wf c7 (wv (r:=rB false) (AH Aa c7 Aa) (wa Aa (At ?_)))))));exact Cg (And.intro c5 (And.intro c6 c7))
   ·refine wf c6 (wf c6 (wf c6 (wf c6 (wf c6 (wv (r:=rB false) (AH Aa c6 Aa) (wm Aa (wz Aa Aa (wz Aa Aa (wz Aa Aa (wz Aa Aa (wz Aa Aa (wv (r:=rB false) (AH (b:=false) Aa Aa Aa) (wa Aa (At ?_))))))))))))));exact Cg (And.intro c5 c6)
  ·refine wf c5 (wf c5 (wf c5 (wf c5 (wf c5 (wv (r:=rB false) (AH Aa c5 Aa) (wm Aa (wz Aa Aa (wz Aa Aa (wz Aa Aa (wz Aa Aa (wz Aa Aa (wv (r:=rB false) (AH (b:=false) Aa Aa Aa) (wm Aa (wz Aa Aa (wz Aa Aa (wz Aa Aa (wz Aa Aa (wz Aa Aa (wv (r:=rB false) (AH (b:=false) Aa Aa Aa) (wa Aa (At ?_)))))))))))))))))))));exact Cg c5
 refine A0 ?_;obtain rfl:=A2 h4;exact Az (BI Tryz.results46 (AR Aa)) sN ⟨Aa,Aa⟩
end Go.Proofs.YtfbmdidnlhifjaaGreatDoor.Q
namespace Go.Proofs.YtfbmdidnlhifjaaGreatDoor
open Go
set_option linter.unusedVariables false
structure Aw where
 fTime:Int
 fL:(List Al)
 deriving DecidableEq,Inhabited
structure Bu where
 fKind:Int
 fOp:A6
 fNow:Int
 deriving DecidableEq,Inhabited
def Ki (op:Aq):Option (Int):=
 Bq (decide (op=([114,101,97,100]:Aq))) (some 0) (Bq (decide (op=([119,114,105,116,101]:Aq))) (some 1) (Bq (decide (op=([97,100,100]:Aq))) (some 1) (Bq (decide (op=([99,97,115]:Aq))) (some 2) (some (-1)))))
def E1 (F:Nat)(op:A6)(ha:Int):Option (Stp (Int) (Out (Int) (Unit))):=
 Bq (decide (ha<(op.fArgs.length:Int))) (Br (Ct ha (op.fArgs.length:Int))<|Bt (I1 F (Af op.fArgs ha)) λhb=>Bq (!decide (hb=0)) (some (.out (.ret hb))) (Br (Cj .i64 (ha+1))<|some (.next (ha+1)))) (some (.out (.go ())))
def Ha :Option (Int):=
 some 0
def H8 (F:Nat)(op:A6):Option (Int):=
 Bt (Ki op.fOp) λr2=>Br ((JE F op.fEntity).isSome)<|Br (imp (!(!(ov (JE F op.fEntity)))) ((JE F op.fID).isSome))<|Bq (((!(ov (JE F op.fEntity)))||((!(ov (JE F op.fID)))||(decide (r2<0))))) (some 4) (Bq (!decide ((op.fArgs.length:Int)=r2)) (some 7) (Bt (BW (λσ=>E1 F op σ) F 0) (Cf λν=>Ha )))
def EW (F:Nat)(a:A6)(b:A6)(ha:Int):Option (Stp (Int) (Out (Bool) (Unit))):=
 Bq (decide (ha<(a.fArgs.length:Int))) (Br (Ct ha (a.fArgs.length:Int))<|Br (Ct ha (b.fArgs.length:Int))<|Bt (Gj F (Af a.fArgs ha) (Af b.fArgs ha)) λhb=>Bq (!hb) (some (.out (.ret false))) (Br (Cj .i64 (ha+1))<|some (.next (ha+1)))) (some (.out (.go ())))
def HL :Option (Bool):=
 some true
def BR (F:Nat)(a:A6)(b:A6):Option (Bool):=
 Bq (((!decide (a.fEntity=b.fEntity))||((!decide (a.fID=b.fID))||((!decide (a.fOp=b.fOp))||(!decide ((a.fArgs.length:Int)=(b.fArgs.length:Int))))))) (some false) (Bt (BW (λσ=>EW F a b σ) F 0) (Cf λν=>HL ))
def KL (F:Nat)(state:(List Ac))(n:(List Ac)):Option ((List Ac)×A8):=
 Br (Ct 0 (state.length:Int))<|Br (imp (!decide (((Af state 0).fKind)=1)) (imp (!(!decide (((Af state 0).fKind)=3))) (Ct 0 (n.length:Int))))<|Br (imp (!(!decide (((Af state 0).fKind)=1))) (Ct 0 (n.length:Int)))<|Bq ((bif !decide (((Af state 0).fKind)=1) then((!decide (((Af state 0).fKind)=3))||(!decide (((Af n 0).fKind)=3))) else !decide (((Af n 0).fKind)=3))) (some (state,(A8.mk 7 ([]:List Ac)))) (Br (Ct 0 (n.length:Int))<|Br (Cj .i64 (((Af state 0).fInt)+((Af n 0).fInt)))<|Bt (Tf F (((Af state 0).fInt)+((Af n 0).fInt))) λha=>Bq (!decide (ha.2=0)) (some (state,(A8.mk 8 ([]:List Ac)))) (some (ha.1,(A8.mk 0 ha.1))))
def Nm (F:Nat)(state:(List Ac))(op:A6):Option ((List Ac)×A8×Int):=
 Bt (H8 F op) λr3=>Bq (decide (r3=0)) (Bt (I1 F state) λr8=>Bq (!decide (r8=0)) (some (([]:List Ac),(A8.mk 0 ([]:List Ac)),r8)) (Bq (decide (op.fOp=([119,114,105,116,101]:Aq))) (Br (Ct 0 (op.fArgs.length:Int))<|Bt (Nk) λhd=>some (Af op.fArgs 0,(A8.mk 0 hd),0)) (Bq (decide (op.fOp=([97,100,100]:Aq))) (Br (Ct 0 (op.fArgs.length:Int))<|Bt (KL F state (Af op.fArgs 0)) λha=>some (ha.1,ha.2,0)) (Bq (decide (op.fOp=([99,97,115]:Aq))) (Br (Ct 0 (op.fArgs.length:Int))<|Bt (Gj F state (Af op.fArgs 0)) λhe=>Bq (he) (Br (Ct 1 (op.fArgs.length:Int))<|Bt (Nn true) λhf=>some (Af op.fArgs 1,(A8.mk 0 hf),0)) (Bt (Nn false) λhg=>some (state,(A8.mk 0 hg),0))) (some (state,(A8.mk 0 state),0)))))) (Bq (!decide (r3=0)) (some (([]:List Ac),(A8.mk 0 ([]:List Ac)),r3)) (Bq (decide (op.fOp=([119,114,105,116,101]:Aq))) (Br (Ct 0 (op.fArgs.length:Int))<|Bt (Nk) λhh=>some (Af op.fArgs 0,(A8.mk 0 hh),0)) (Bq (decide (op.fOp=([97,100,100]:Aq))) (Br (Ct 0 (op.fArgs.length:Int))<|Bt (KL F state (Af op.fArgs 0)) λhb=>some (hb.1,hb.2,0)) (Bq (decide (op.fOp=([99,97,115]:Aq))) (Br (Ct 0 (op.fArgs.length:Int))<|Bt (Gj F state (Af op.fArgs 0)) λhi=>Bq (hi) (Br (Ct 1 (op.fArgs.length:Int))<|Bt (Nn true) λhj=>some (Af op.fArgs 1,(A8.mk 0 hj),0)) (Bt (Nn false) λhk=>some (state,(A8.mk 0 hk),0))) (some (state,(A8.mk 0 state),0))))))
def NV :Option (Aw):=
 some (Aw.mk 0 ([]:List Al))
def EY (ha:Int)(hb:(List Ac)):Option (Stp ((List Ac)×Int) (Out ((List Ac)) ((List Ac)))):=
 Br (Cj .i64 (ha+1))<|some (.next (hb,ha+1))
def Dx (F:Nat)(d:Aw)(e:Aq)(hb:(List Ac))(ha:Int):Option (Stp ((List Ac)×Int) (Out ((List Ac)) ((List Ac)))):=
 Bq (decide (ha<(d.fL.length:Int))) (Br (Ct ha (d.fL.length:Int))<|Bq (((decide ((((Af d.fL ha).fOp).fEntity)=e))&&(decide (0≤((Af d.fL ha).fTo))))) (Bt (Nm F hb ((Af d.fL ha).fOp)) λhd=>EY ha hd.1) (EY ha hb)) (some (.out (.go hb)))
def EX (ha:(List Ac)):Option ((List Ac)):=
 some ha
def G1 (F:Nat)(d:Aw)(e:Aq):Option ((List Ac)):=
 Bt (Nk) λr1=>Bt (BW (λσ=>Dx F d e σ.1 σ.2) F (r1,0)) (Cf λν=>EX ν)
def Eb (ha:Int)(hb:(List Aq)):Option (Stp ((List Aq)×Int) (Out ((List Aq)) ((List Aq)))):=
 Br (Cj .i64 (ha+1))<|some (.next (hb,ha+1))
def Db (d:Aw)(e:Aq)(hb:(List Aq))(ha:Int):Option (Stp ((List Aq)×Int) (Out ((List Aq)) ((List Aq)))):=
 Bq (decide (ha<(d.fL.length:Int))) (Br (Ct ha (d.fL.length:Int))<|Bq (((decide ((((Af d.fL ha).fOp).fEntity)=e))&&(decide (((Af d.fL ha).fTo)<0)))) (Br (L4 16 (hb.length+([((Af d.fL ha).fOp).fID]:List Aq).length))<|Eb ha (hb++([((Af d.fL ha).fOp).fID]:List Aq))) (Eb ha hb)) (some (.out (.go hb)))
def EI (ha:(List Aq)):Option ((List Aq)):=
 some ha
def Ey (F:Nat)(d:Aw)(e:Aq):Option ((List Aq)):=
 Bt (BW (λσ=>Db d e σ.1 σ.2) F (([]:List Aq),0)) (Cf λν=>EI ν)
def Ez (d:Aw)(id:Aq)(ha:Int):Option (Stp (Int) (Out (A8×Bool) (Unit))):=
 Bq (decide (ha<(d.fL.length:Int))) (Br (Ct ha (d.fL.length:Int))<|Bq (((decide ((((Af d.fL ha).fOp).fID)=id))&&(decide (0≤((Af d.fL ha).fTo))))) (some (.out (.ret (((Af d.fL ha).fAnswer),true)))) (Br (Cj .i64 (ha+1))<|some (.next (ha+1)))) (some (.out (.go ())))
def GZ :Option (A8×Bool):=
 some ((A8.mk 0 ([]:List Ac)),false)
def GQ (F:Nat)(d:Aw)(id:Aq):Option (A8×Bool):=
 Bt (BW (λσ=>Ez d id σ) F 0) (Cf λν=>GZ )
def Ga (ha:Int)(hb:(List Al)):Option (Stp ((List Al)×Int) (Out ((List Al)) ((List Al)))):=
 Br (Cj .i64 (ha+1))<|some (.next (hb,ha+1))
def DN (d:Aw)(e:Aq)(hb:(List Al))(ha:Int):Option (Stp ((List Al)×Int) (Out ((List Al)) ((List Al)))):=
 Bq (decide (ha<(d.fL.length:Int))) (Br (Ct ha (d.fL.length:Int))<|Bq (decide ((((Af d.fL ha).fOp).fEntity)=e)) (Br (L4 120 (hb.length+([(Al.mk ((Af d.fL ha).fOp) ((Af d.fL ha).fAnswer) ((Af d.fL ha).fFrom) ((Af d.fL ha).fTo))]:List Al).length))<|Ga ha (hb++([(Al.mk ((Af d.fL ha).fOp) ((Af d.fL ha).fAnswer) ((Af d.fL ha).fFrom) ((Af d.fL ha).fTo))]:List Al))) (Ga ha hb)) (some (.out (.go hb)))
def GP (ha:(List Al)):Option ((List Al)):=
 some ha
def GY (F:Nat)(d:Aw)(e:Aq):Option ((List Al)):=
 Bt (BW (λσ=>DN d e σ.1 σ.2) F (([]:List Al),0)) (Cf λν=>GP ν)
def EZ (ha:Int)(hb:(List Aq)):Option (Stp ((List Aq)×Int) (Out ((List Aq)) ((List Aq)))):=
 Br (Cj .i64 (ha+1))<|some (.next (hb,ha+1))
def DM (F:Nat)(d:Aw)(hb:(List Aq))(ha:Int):Option (Stp ((List Aq)×Int) (Out ((List Aq)) ((List Aq)))):=
 Bq (decide (ha<(d.fL.length:Int))) (Br (Ct ha (d.fL.length:Int))<|Bt (P4 F hb (((Af d.fL ha).fOp).fEntity)) λhd=>Bq (!hd) (Br (L4 16 (hb.length+([((Af d.fL ha).fOp).fEntity]:List Aq).length))<|Bt (IC F (hb++([((Af d.fL ha).fOp).fEntity]:List Aq))) λhe=>EZ ha he) (EZ ha hb)) (some (.out (.go hb)))
def HO (ha:(List Aq)):Option ((List Aq)):=
 some ha
def G2 (F:Nat)(d:Aw):Option ((List Aq)):=
 Bt (BW (λσ=>DM F d σ.1 σ.2) F (([]:List Aq),0)) (Cf λν=>HO ν)
def DK (ha:Int)(hb:Bool):Option (Stp (Bool×Int) (Out (Int×Aw) (Bool))):=
 Br (Cj .i64 (ha+1))<|some (.next (hb,ha+1))
def DJ (d:Aw)(op:A6)(now:Int)(ha:Bool):Option (Int×Aw):=
 Bq (ha) (some (3,d)) (Br (L4 120 (d.fL.length+([(Al.mk op (A8.mk 0 ([]:List Ac)) now (-1))]:List Al).length))<|some (0,(Aw.mk now (d.fL++([(Al.mk op (A8.mk 0 ([]:List Ac)) now (-1))]:List Al)))))
def Cq (F:Nat)(d:Aw)(op:A6)(now:Int)(hb:Bool)(ha:Int):Option (Stp (Bool×Int) (Out (Int×Aw) (Bool))):=
 Bq (decide (ha<(d.fL.length:Int))) (Br (Ct ha (d.fL.length:Int))<|Bq (decide ((((Af d.fL ha).fOp).fID)=op.fID)) (Bt (BR F ((Af d.fL ha).fOp) op) λhd=>Bq (!hd) (some (.out (.ret (19,d)))) (some (.out (.ret (0,(Aw.mk now d.fL)))))) (Bq (hb) (DK ha true) (DK ha (decide ((((Af d.fL ha).fOp).fEntity)=op.fEntity))))) (some (.out (.go hb)))
def Gk (F:Nat)(d:Aw)(op:A6)(now:Int)(ha:Bool):Option (Int×Aw):=
 Bq (decide (256≤(d.fL.length:Int))) (DJ d op now true) (Bq (!ha) (Bt (G2 F d) λhb=>DJ d op now (decide (256≤(hb.length:Int)))) (DJ d op now false))
def DL (F:Nat)(d:Aw)(op:A6)(now:Int):Option (Int×Aw):=
 Bt (H8 F op) λr2=>Bq (!decide (r2=0)) (some (r2,d)) (Bq (((decide (now<0))||(decide (1073741824<now)))) (some (2,d)) (Bq (decide (now<d.fTime)) (some (11,d)) (Bt (BW (λσ=>Cq F d op now σ.1 σ.2) F (false,0)) (Cf λν=>Gk F d op now ν))))
def CB (F:Nat)(d:Aw)(e:Aq)(now:Int)(r7:(List Ac))(ha:Int):Option (Stp (Int) (Out (Al×Bool×Aw) (Unit))):=
 Bq (decide (ha<(d.fL.length:Int))) (Br (Ct ha (d.fL.length:Int))<|Bq (((decide ((((Af d.fL ha).fOp).fEntity)=e))&&(decide (((Af d.fL ha).fTo)<0)))) (Bt (Nm F r7 ((Af d.fL ha).fOp)) λhe=>NC (List.set d.fL (Int.toNat ha) (Al.mk ((Af d.fL ha).fOp) he.2.1 ((Af d.fL ha).fFrom) ((Af d.fL ha).fTo))) λhd=>Br (Ct ha (hd.length:Int))<|NC (List.set hd (Int.toNat ha) (Al.mk ((Af hd ha).fOp) ((Af hd ha).fAnswer) ((Af hd ha).fFrom) now)) λhb=>Br (Ct ha (hb.length:Int))<|some (.out (.ret ((Al.mk ((Af hb ha).fOp) ((Af hb ha).fAnswer) ((Af hb ha).fFrom) ((Af hb ha).fTo)),true,(Aw.mk now hb))))) (Br (Cj .i64 (ha+1))<|some (.next (ha+1)))) (some (.out (.go ())))
def IN (d:Aw):Option (Al×Bool×Aw):=
 some ((Al.mk (A6.mk ([]:Aq) ([]:Aq) ([]:Aq) ([]:List (List Ac))) (A8.mk 0 ([]:List Ac)) 0 0),false,d)
def Hl (F:Nat)(d:Aw)(e:Aq)(now:Int):Option (Al×Bool×Aw):=
 Bq (((decide (now<0))||((decide (1073741824<now))||(decide (now<d.fTime))))) (some ((Al.mk (A6.mk ([]:Aq) ([]:Aq) ([]:Aq) ([]:List (List Ac))) (A8.mk 0 ([]:List Ac)) 0 0),false,d)) (Bt (G1 F d e) λr7=>Bt (BW (λσ=>CB F d e now r7 σ) F 0) (Cf λν=>IN d ))
def M0 (id:Aq)(n:Int):Option (A6):=
 some (A6.mk ([120]:Aq) id ([97,100,100]:Aq) ([([(Ac.mk 3 n ([]:Aq) 0)]:List Ac)]:List (List Ac)))
def GG (a:(List Aq))(b:(List Aq))(ha:Int):Option (Stp (Int) (Out (Bool) (Unit))):=
 Bq (decide (ha<(a.length:Int))) (Br (Ct ha (a.length:Int))<|Br (Ct ha (b.length:Int))<|Bq (!decide ((Af a ha)=(Af b ha))) (some (.out (.ret false))) (Br (Cj .i64 (ha+1))<|some (.next (ha+1)))) (some (.out (.go ())))
def Je :Option (Bool):=
 some true
def Ev (F:Nat)(a:(List Aq))(b:(List Aq)):Option (Bool):=
 Bq (!decide ((a.length:Int)=(b.length:Int))) (some false) (Bt (BW (λσ=>GG a b σ) F 0) (Cf λν=>Je ))
def GI (v:(List Ac))(ha:Int):Option (Stp (Int) (Out (Bool) (Unit))):=
 Bq (decide (ha<(v.length:Int))) (Br (Ct ha (v.length:Int))<|Bq (decide (250<(((Af v ha).fStr).length:Int))) (some (.out (.ret false))) (Br (Cj .i64 (ha+1))<|some (.next (ha+1)))) (some (.out (.go ())))
def Jg :Option (Bool):=
 some true
def Mx (F:Nat)(v:(List Ac)):Option (Bool):=
 Bq (decide (100<(v.length:Int))) (some false) (Bt (BW (λσ=>GI v σ) F 0) (Cf λν=>Jg ))
def GH (F:Nat)(op:A6)(ha:Int):Option (Stp (Int) (Out (Bool) (Unit))):=
 Bq (decide (ha<(op.fArgs.length:Int))) (Br (Ct ha (op.fArgs.length:Int))<|Bt (Mx F (Af op.fArgs ha)) λhb=>Bq (!hb) (some (.out (.ret false))) (Br (Cj .i64 (ha+1))<|some (.next (ha+1)))) (some (.out (.go ())))
def Jf :Option (Bool):=
 some true
def Mw (F:Nat)(op:A6):Option (Bool):=
 Bq (((decide (100<(op.fEntity.length:Int)))||((decide (100<(op.fID.length:Int)))||((decide (100<(op.fOp.length:Int)))||(decide (4<(op.fArgs.length:Int))))))) (some false) (Bt (BW (λσ=>GH F op σ) F 0) (Cf λν=>Jf ))
def E9 (F:Nat)(l:(List Bu))(ha:Int):Option (Stp (Int) (Out (Bool) (Unit))):=
 Bq (decide (ha<(l.length:Int))) (Br (Ct ha (l.length:Int))<|Bt (Mw F ((Af l ha).fOp)) λhb=>Bq (!hb) (some (.out (.ret false))) (Br (Cj .i64 (ha+1))<|some (.next (ha+1)))) (some (.out (.go ())))
def Hf :Option (Bool):=
 some true
def IA (F:Nat)(l:(List Bu)):Option (Bool):=
 Bq (decide (50<(l.length:Int))) (some false) (Bt (BW (λσ=>E9 F l σ) F 0) (Cf λν=>Hf ))
def BD (F:Nat)(a:A8)(b:A8):Option (Bool):=
 Br (imp (decide (a.fErr=b.fErr)) ((Gj F a.fValue b.fValue).isSome))<|some ((decide (a.fErr=b.fErr))&&(ov (Gj F a.fValue b.fValue)))
def GJ (F:Nat)(a:(List Al))(b:(List Al))(ha:Int):Option (Stp (Int) (Out (Bool) (Unit))):=
 Bq (decide (ha<(a.length:Int))) (Br (Ct ha (a.length:Int))<|Br (Ct ha (b.length:Int))<|Br ((BR F ((Af a ha).fOp) ((Af b ha).fOp)).isSome)<|Br (imp (!(!(ov (BR F ((Af a ha).fOp) ((Af b ha).fOp))))) ((BD F ((Af a ha).fAnswer) ((Af b ha).fAnswer)).isSome))<|Bq (((!(ov (BR F ((Af a ha).fOp) ((Af b ha).fOp))))||((!(ov (BD F ((Af a ha).fAnswer) ((Af b ha).fAnswer))))||((!decide (((Af a ha).fFrom)=((Af b ha).fFrom)))||(!decide (((Af a ha).fTo)=((Af b ha).fTo))))))) (some (.out (.ret false))) (Br (Cj .i64 (ha+1))<|some (.next (ha+1)))) (some (.out (.go ())))
def Jh :Option (Bool):=
 some true
def EM (F:Nat)(a:(List Al))(b:(List Al)):Option (Bool):=
 Bq (!decide ((a.length:Int)=(b.length:Int))) (some false) (Bt (BW (λσ=>GJ F a b σ) F 0) (Cf λν=>Jh ))
end Go.Proofs.YtfbmdidnlhifjaaGreatDoor
namespace Go.Proofs.YtfbmdidnlhifjaaGreatDoor.Q
open Go Go.RowKit
set_option linter.unusedVariables false
set_option linter.unusedSimpArgs false
set_option maxRecDepth 100000
set_option maxHeartbeats 4000000
@[reducible] def Bp (x:Bu):List Rp:=[Aj x.fKind,rS x.fOp.fEntity,rS x.fOp.fID,rS x.fOp.fOp,AD 1 (Ap Ai x.fOp.fArgs),Aj x.fNow]
theorem K5 (x:Bu):(Bp x).length=6:=rfl
theorem Q2:∃inf,Tryz.prog.info? 44=some inf∧inf.zero=some (.agg #[(.string ⟨#[]⟩),(.string ⟨#[]⟩),(.string ⟨#[]⟩),(.slice none 0 0),(.int .i64 0),(.slice none 0 0),(.int .i64 0),(.int .i64 0)])∧inf.size=8∧inf.bytes=120:=by
  have key:(Tryz.prog.info? 44).map (λi=>(i.zero,i.size,i.bytes))=some (some (.agg #[(.string ⟨#[]⟩),(.string ⟨#[]⟩),(.string ⟨#[]⟩),(.slice none 0 0),(.int .i64 0),(.slice none 0 0),(.int .i64 0),(.int .i64 0)]),8,120):=by kernel_rfl
  obtain⟨inf,h1,h2⟩:=Option.map_eq_some_iff.1 key;simp only[Prod.mk.injEq] at h2;exact⟨inf,h1,h2.1,h2.2.1,h2.2.2⟩
theorem UY (parts:List (Nat×Value)):Tryz.prog.built 25 parts=Instr.fill (λi=>(#[(0,1),(1,1),(2,1),(3,1)]:Array (Nat×Nat))[i]?) #[(.string ⟨#[]⟩),(.string ⟨#[]⟩),(.string ⟨#[]⟩),((.slice none 0 0))] parts:=by kernel_rfl
theorem Kk {n:Nat}{c:Cx}{l:Fr}{H:List Ent}{d:Option Nat}{ty:TypeId}{pos:String}{af:Array Edge}{g:Option (Nat×Bool)}{x0:Operand}{r0:Rp}(h0:ev l x0=some r0)(u0:r0.one=true){x1:Operand}{r1:Rp}(h1:ev l x1=some r1)(u1:r1.one=true){x2:Operand}{r2:Rp}(h2:ev l x2=some r2)(u2:r2.one=true){x3:Operand}{r3:Rp}(h3:ev l x3=some r3)(u3:r3.one=true):Bw Tryz.prog n c l H { dst:=d,op:=.build 25 #[(0,x0),(1,x1),(2,x2),(3,x3)],type:=ty,pos:=pos,after:=af,guard:=g } (Bd [r0,r1,r2,r3]):=λa w Z ha _=>by
  have p0:=ha.ev h0;have c0:=BN (r0.hone u0 Z _ p0);have p1:=ha.ev h1;have c1:=BN (r1.hone u1 Z _ p1);have p2:=ha.ev h2;have c2:=BN (r2.hone u2 Z _ p2);have p3:=ha.ev h3;have c3:=BN (r3.hone u3 Z _ p3);have hb:Tryz.prog.built 25 [(0,a.eval x0),(1,a.eval x1),(2,a.eval x2),(3,a.eval x3)]=some #[a.eval x0,a.eval x1,a.eval x2,a.eval x3]:=by
    rw[UY];generalize a.eval x0=v0 at *;generalize a.eval x1=v1 at *;generalize a.eval x2=v2 at *;generalize a.eval x3=v3 at *;simp[Instr.fill,c0,c1,c2,c3]
  refine⟨.agg #[a.eval x0,a.eval x1,a.eval x2,a.eval x3],⟨[a.eval x0,a.eval x1,a.eval x2,a.eval x3],rfl,p0,p1,p2,p3,trivial⟩,?_⟩;have:=run_build w 25 #[(0,a.eval x0),(1,a.eval x1),(2,a.eval x2),(3,a.eval x3)] _ (by simpa using hb);simp[execOp,this]
theorem Ro (parts:List (Nat×Value)):Tryz.prog.built 44 parts=Instr.fill (λi=>(#[(0,4),(4,2),(6,1),(7,1)]:Array (Nat×Nat))[i]?) #[(.string ⟨#[]⟩),(.string ⟨#[]⟩),(.string ⟨#[]⟩),((.slice none 0 0)),(.int .i64 0),((.slice none 0 0)),(.int .i64 0),(.int .i64 0)] parts:=by kernel_rfl
theorem Gb {n:Nat}{c:Cx}{l:Fr}{H:List Ent}{d:Option Nat}{ty:TypeId}{pos:String}{af:Array Edge}{g:Option (Nat×Bool)}:Bw Tryz.prog n c l H { dst:=d,op:=.build 44 #[],type:=ty,pos:=pos,after:=af,guard:=g } (Bd [rS ([]:Aq),rS ([]:Aq),rS ([]:Aq),rv (.slice none 0 0),Aj 0,rv (.slice none 0 0),Aj 0,Aj 0]):=λa w Z ha _=>by
  have hb:Tryz.prog.built 44 []=some #[(.string ⟨#[]⟩),(.string ⟨#[]⟩),(.string ⟨#[]⟩),((.slice none 0 0)),(.int .i64 0),((.slice none 0 0)),(.int .i64 0),(.int .i64 0)]:=by
    rw[Ro];simp[Instr.fill,Value.cells]
  refine⟨.agg #[(.string ⟨#[]⟩),(.string ⟨#[]⟩),(.string ⟨#[]⟩),((.slice none 0 0)),(.int .i64 0),((.slice none 0 0)),(.int .i64 0),(.int .i64 0)],⟨[(.string ⟨#[]⟩),(.string ⟨#[]⟩),(.string ⟨#[]⟩),((.slice none 0 0)),(.int .i64 0),((.slice none 0 0)),(.int .i64 0),(.int .i64 0)],rfl,rfl,rfl,rfl,rfl,rfl,rfl,rfl,rfl,trivial⟩,?_⟩;have:=run_build w 44 #[] _ (by simpa using hb);simp[execOp,this]
theorem Gq {n:Nat}{c:Cx}{l:Fr}{H:List Ent}{d:Option Nat}{ty:TypeId}{pos:String}{af:Array Edge}{g:Option (Nat×Bool)}{x0:Operand}{r0_0 r0_1 r0_2 r0_3:Rp}(h0:ev l x0=some (Bd [r0_0,r0_1,r0_2,r0_3])){x2:Operand}{r2:Rp}(h2:ev l x2=some r2)(u2:r2.one=true){x3:Operand}{r3:Rp}(h3:ev l x3=some r3)(u3:r3.one=true):Bw Tryz.prog n c l H { dst:=d,op:=.build 44 #[(0,x0),(2,x2),(3,x3)],type:=ty,pos:=pos,after:=af,guard:=g } (Bd [r0_0,r0_1,r0_2,r0_3,Aj 0,rv (.slice none 0 0),r2,r3]):=λa w Z ha _=>by
  obtain⟨us0,e0,q0⟩:=ha.ev h0;obtain⟨y0_0,y0_1,y0_2,y0_3,rfl,q0⟩:=Bj.d4 q0;have p2:=ha.ev h2;have c2:=BN (r2.hone u2 Z _ p2);have p3:=ha.ev h3;have c3:=BN (r3.hone u3 Z _ p3);have cg:∀cs:Array Value,(Value.agg cs).cells=cs:=λ_=>rfl;have hb:Tryz.prog.built 44 [(0,a.eval x0),(2,a.eval x2),(3,a.eval x3)]=some #[y0_0,y0_1,y0_2,y0_3,(.int .i64 0),((.slice none 0 0)),a.eval x2,a.eval x3]:=by
    rw[Ro];generalize a.eval x2=v2 at *;generalize a.eval x3=v3 at *;simp[Instr.fill,e0,c2,c3,cg]
  refine⟨.agg #[y0_0,y0_1,y0_2,y0_3,(.int .i64 0),((.slice none 0 0)),a.eval x2,a.eval x3],⟨[y0_0,y0_1,y0_2,y0_3,(.int .i64 0),((.slice none 0 0)),a.eval x2,a.eval x3],rfl,q0.1,q0.2.1,q0.2.2.1,q0.2.2.2.1,rfl,rfl,p2,p3,trivial⟩,?_⟩;have:=run_build w 44 #[(0,a.eval x0),(2,a.eval x2),(3,a.eval x3)] _ (by simpa using hb);simp[execOp,this]
theorem UV (parts:List (Nat×Value)):Tryz.prog.built 98 parts=Instr.fill (λi=>(#[(0,1),(1,1)]:Array (Nat×Nat))[i]?) #[(.int .i64 0),((.slice none 0 0))] parts:=by kernel_rfl
theorem Qt {n:Nat}{c:Cx}{l:Fr}{H:List Ent}{d:Option Nat}{ty:TypeId}{pos:String}{af:Array Edge}{g:Option (Nat×Bool)}:Bw Tryz.prog n c l H { dst:=d,op:=.build 98 #[],type:=ty,pos:=pos,after:=af,guard:=g } (Bd [Aj 0,rv (.slice none 0 0)]):=λa w Z ha _=>by
  have hb:Tryz.prog.built 98 []=some #[(.int .i64 0),((.slice none 0 0))]:=by
    rw[UV];simp[Instr.fill,Value.cells]
  refine⟨.agg #[(.int .i64 0),((.slice none 0 0))],⟨[(.int .i64 0),((.slice none 0 0))],rfl,rfl,rfl,trivial⟩,?_⟩;have:=run_build w 98 #[] _ (by simpa using hb);simp[execOp,this]
theorem RG (op:Aq)(r:Int)(h:Ki op=some r):Fn Tryz.prog GE 63 [rS op] [] (λR H=>R=Aj r∧H=[]):=by
 refine enter (n:=11) Tryz.func63 Aa Tryz.ntmps63 Aa (λw Z=>?_);unfold Ki at h;refine An (wa Aa (Ax (Av (An (wm Aa (Ax (AN (An (wv (CC Aa Aa) (wa Aa (Ax (cz h Aa (λc1 h2=>?_) (λc1 h3=>?_)))))))))))))
 ·refine An (wa Aa (Ax (A0 (A9 (Ah ?_)))));obtain rfl:=A2 h2;exact Az (BI SC (AR Aa)) sN ⟨Aa,Aa⟩
 ·refine Av (An (wv (CC Aa Aa) (wa Aa (Ax (cz h3 Aa (λc4 h5=>?_) (λc4 h6=>?_))))))
  ·refine A1 (AT (G7 Aa c4 (An (wa Aa (Ax (A0 (A9 (Ah ?_))))))));obtain rfl:=A2 h5;exact Az (BI SC (AR Aa)) sN ⟨Aa,Aa⟩
  ·refine Au (wv (CC Aa Aa) (wa Aa (Ax (cz h6 Aa (λc7 h8=>?_) (λc7 h9=>?_)))))
   ·refine An (wa Aa (Ax (A0 (A9 (Ah ?_)))));obtain rfl:=A2 h8;exact Az (BI SC (AR Aa)) sN ⟨Aa,Aa⟩
   ·refine An (wv (CC Aa Aa) (wa Aa (Ax (cz h9 Aa (λha hb=>?_) (λha hd=>?_)))))
    ·refine An (wa Aa (Ax (A0 (A9 (Ah ?_)))));obtain rfl:=A2 hb;exact Az (BI SC (AR Aa)) sN ⟨Aa,Aa⟩
    ·refine A1 (AL (AT (An (wv (r:=Aj (-1)) (AV Aa) (Ax (A0 ?_))))));obtain rfl:=A2 hd;exact Az (BI SC (AR Aa)) sN ⟨Aa,Aa⟩
theorem Mg (F:Nat)(op:A6)(r:Int)(h:H8 F op=some r):Fn Tryz.prog GE 40 [Bd (Am op)] [] (λR H=>R=Aj r∧H=[]):=by
 refine enter (n:=44) Tryz.func40 Aa Tryz.ntmps40 Aa (λw Z=>?_);unfold H8 at h;refine An (BH Aa Aa (λb1=>?_));refine wa Aa (B4 (vF BG Aa CF (vL 0 CZ Aa (ob h λr2 e4 h3=>Cl Tryz.call63 (RG op.fOp r2 e4) Aa (wa Aa (Ax (Av (ck h3 λg5 h6=>ck h6 λg7 h8=>AU [(1,rP b1 0),(3,Aj r2),(22,rB ((!(ov (JE F op.fEntity)))||((!(ov (JE F op.fID)))||(decide (r2<0)))))] [.blk b1 (Am op) 25] ?_ ?_))))))))
 ·refine Au (vF BG Aa CF (vL 0 CZ Aa (Cl Tryz.call64 (TH F op.fEntity (ov (JE F op.fEntity)) (EQ g5)) Aa (wv (B8 Aa) (wm Aa (AY (!(ov (JE F op.fEntity))) (λc9=>?_) (λc9=>?_)))))))
  ·refine wf c9 (wf c9 (wf c9 (wf c9 (wv (r:=rB true) (Ar Aa c9 Aa) (wm Aa (wz Aa Aa (wz Aa Aa (wv (r:=rB true) (Ar (b:=true) Aa Aa Aa) (At ?_)))))))));exact Cg c9
  ·refine wo c9 (vF BG Aa CF (wo c9 (vL 0 CZ Aa (wo c9 (Cl Tryz.call64 (TH F op.fID (ov (JE F op.fID)) (EQ (Dj g7 c9))) Aa (wo c9 (wv (B8 Aa) (DB Aa c9 Aa (wm Aa (AY (!(ov (JE F op.fID))) (λha=>?_) (λha=>?_)))))))))))
   ·refine wf ha (wf ha (wv (r:=rB true) (Ar Aa ha Aa) (At ?_)));exact Cg (And.intro c9 ha)
   ·refine wo ha (wm Aa (wo ha (wv (C2 Aa Aa) (DB Aa ha Aa (At ?_)))));exact Cg (And.intro c9 ha)
 refine cz h8 Aa (λhh hi=>?_) (λhh hj=>?_)
 ·refine An (wa Aa (Ax (A0 (Ah ?_))));obtain rfl:=A2 hi;exact Az (BI Ui (AR Aa)) (sS sN) ⟨Aa,Aa⟩
 ·refine A1 (AT (Av (An (vF BG Aa Ei (vL 0 EG Aa (wv (Bo (ys:=op.fArgs) (enc:=Ai) Du Aa) (wm Aa (wv (Dp Aa Aa) (Ax (cz hj Aa (λhk hl=>?_) (λhk hm=>?_)))))))))))
  ·refine An (wa Aa (Ax (A0 (Ah ?_))));obtain rfl:=A2 hl;exact Az (BI Ui (AR Aa)) (sS sN) ⟨Aa,Aa⟩
  ·refine A1 (AT (Av (An (wa Aa (Ax (AN (ob hm λhn ho hg=>Bv (S:=Nat×(Int)×(Unit)) (V:=(Unit)×(Unit)) 0 (λσ=>BW (λσ=>E1 F op σ) σ.1 σ.2.1=some hn) (λσ=>[(1,rP b1 0),(4,Aj σ.2.1)]) (λσ=>[.blk b1 (Am op) 25]) (λσ=>σ.1) (F,0,()) ho (AJ.c Aa (AJ.c Aa AJ.nil)) (sC sN) (λσ=>Ha =some r) (λσ=>[]) (λσ=>[]) ?_ ?_)))))))
   ·rintro⟨hC,hb,⟨⟩⟩ hp;refine BM (l':=[(1,rP b1 0),(4,Aj hb)]) (H':=[.blk b1 (Am op) 25]) Aa Aa ?_;obtain⟨hq,rfl,hr,hd,hf⟩:=Cz hp;replace hd:E1 F op hb=some hr:=hd;unfold E1 at hd;refine Av (An (wm Aa (vF BG Aa Ei (vL 0 EG Aa (wv (Bo (ys:=op.fArgs) (enc:=Ai) Du Aa) (wv (C2 Aa Aa) (Ax (cz hd Aa (λhs ht=>?_) (λhs hu=>?_)))))))))
    ·refine A1 (AT (Av (AN (An (vF BG Aa Ei (vL 0 EG Aa (wm Aa (ck ht λhw hx=>wv (Bh (enc:=Ai) (ys:=op.fArgs) Du D9 Aa Aa hw) (wv (Bg EE Aa Aa) (ob hx λhy hz h0=>Cl Tryz.call41 (Mf F (Af op.fArgs hb) hy hz) Aa (wa Aa (B4 (wm Aa (wv (Dp Aa Aa) (Ax (cz h0 Aa (λh1 h2=>?_) (λh1 h4=>?_)))))))))))))))))
     ·refine An (wm Aa (wa Aa (Ax (A0 (A9 (Ah (Ah (Bm ?_))))))));have h5:=B9 h2 hf hg;refine A9 (Ah ?_);obtain rfl:=A2 h5;exact Az (BI Ui (AR Aa)) (sS sN) ⟨Aa,Aa⟩
     ·refine A1 (AL (AT (Au (wm Aa (ck h4 λh7 h9=>wv (B0 Aa Aa h7) (wa Aa (At ?_)))))));have hA:=Bn h9 hf;exact AC (AA (hq,hb+1,()) ⟨hA,Xi _⟩ (AJ.c Aa (AJ.c Aa AJ.nil)) (sC sN))
    ·refine By (A4 ?_);have hB:=BQ hu hf hg;exact A4 (Bi (AA ((),()) hB AJ.nil (sS sN)))
   ·rintro⟨⟨⟩,⟨⟩⟩ he;refine Cy (l':=[]) (H':=[]) Aa Aa ?_;replace he:Ha =some r:=he;unfold Ha at he;refine Bk (AT (An (wa Aa (Ax (A0 ?_)))));obtain rfl:=A2 he;exact Az (BI Ui (AR Aa)) sN ⟨Aa,Aa⟩
theorem H3 (F:Nat)(a:A6)(b:A6)(r:Bool)(h:BR F a b=some r):Fn Tryz.prog GE 51 [Bd (Am a),Bd (Am b)] [] (λR H=>R=rB r∧H=[]):=by
 refine enter (n:=53) Tryz.func51 Aa Tryz.ntmps51 Aa (λw Z=>?_);unfold BR at h;refine An (BH Aa Aa (λb1=>?_));refine BH Aa Aa (λb2=>?_);refine wa Aa (Ax (Av (AU [(2,rP b1 0),(3,rP b2 0),(33,rB ((!decide (a.fEntity=b.fEntity))||((!decide (a.fID=b.fID))||((!decide (a.fOp=b.fOp))||(!decide ((a.fArgs.length:Int)=(b.fArgs.length:Int)))))))] [.blk b2 (Am b) 25,.blk b1 (Am a) 25] ?_ ?_)))
 ·refine Au (vF BG Aa CF (vL 1 CZ Aa (vF BG Aa CF (vL 0 CZ Aa (wv (Nq Aa Aa) (wm Aa (AY (!decide (a.fEntity=b.fEntity)) (λc3=>?_) (λc3=>?_))))))))
  ·refine wf c3 (wf c3 (wf c3 (wf c3 (wf c3 (wv (r:=rB true) (Ar Aa c3 Aa) (wm Aa (wz Aa Aa (wz Aa Aa (wz Aa Aa (wz Aa Aa (wz Aa Aa (wv (r:=rB true) (Ar (b:=true) Aa Aa Aa) (wm Aa (wz Aa Aa (wz Aa Aa (wz Aa Aa (wz Aa Aa (wz Aa Aa (wz Aa Aa (wz Aa Aa (wv (r:=rB true) (Ar (b:=true) Aa Aa Aa) (At ?_))))))))))))))))))))));exact Cg c3
  ·refine wo c3 (vF BG Aa CF (wo c3 (vL 1 CZ Aa (wo c3 (vF BG Aa CF (wo c3 (vL 0 CZ Aa (wo c3 (wv (Nq Aa Aa) (DB Aa c3 Aa (wm Aa (AY (!decide (a.fID=b.fID)) (λc4=>?_) (λc4=>?_)))))))))))))
   ·refine wf c4 (wf c4 (wf c4 (wf c4 (wf c4 (wv (r:=rB true) (Ar Aa c4 Aa) (wm Aa (wz Aa Aa (wz Aa Aa (wz Aa Aa (wz Aa Aa (wz Aa Aa (wz Aa Aa (wz Aa Aa (wv (r:=rB true) (Ar (b:=true) Aa Aa Aa) (At ?_)))))))))))))));exact Cg (And.intro c3 c4)
   ·refine wo c4 (vF BG Aa CF (wo c4 (vL 1 CZ Aa (wo c4 (vF BG Aa CF (wo c4 (vL 0 CZ Aa (wo c4 (wv (Nq Aa Aa) (DB Aa c4 Aa (wm Aa (AY (!decide (a.fOp=b.fOp)) (λc5=>?_) (λc5=>?_)))))))))))))
    ·refine wf c5 (wf c5 (wf c5 (wf c5 (wf c5 (wf c5 (wf c5 (wv (r:=rB true) (Ar Aa c5 Aa) (At ?_))))))));exact Cg (And.intro c3 (And.intro c4 c5))
    ·refine wo c5 (vF BG Aa Ei (wo c5 (vL 1 EG Aa (wo c5 (wv (Bo (ys:=a.fArgs) (enc:=Ai) Du Aa) (wo c5 (vF BG Aa Ei (wo c5 (vL 0 EG Aa (wo c5 (wv (Bo (ys:=b.fArgs) (enc:=Ai) Du Aa) (wo c5 (wv (Dp Aa Aa) (DB Aa c5 Aa (At ?_)))))))))))))));exact Cg (And.intro c3 (And.intro c4 c5))
 refine cz h Aa (λc6 h7=>?_) (λc6 h8=>?_)
 ·refine An (wa Aa (Ax (A0 (Ah ?_))));obtain rfl:=A2 h7;exact Az (BI Tryz.results51 (AR Aa)) (sS (sS sN)) ⟨Aa,Aa⟩
 ·refine A1 (AT (Av (An (wa Aa (Ax (AN (ob h8 λhg hh hf=>Bv (S:=Nat×(Int)×(Unit)) (V:=(Unit)×(Unit)) 0 (λσ=>BW (λσ=>EW F a b σ) σ.1 σ.2.1=some hg) (λσ=>[(2,rP b1 0),(3,rP b2 0),(5,Aj σ.2.1)]) (λσ=>[.blk b2 (Am b) 25,.blk b1 (Am a) 25]) (λσ=>σ.1) (F,0,()) hh (AJ.c Aa (AJ.c Aa (AJ.c Aa AJ.nil))) (sC (sC sN)) (λσ=>HL =some r) (λσ=>[]) (λσ=>[]) ?_ ?_)))))))
  ·rintro⟨h3,ha,⟨⟩⟩ hi;refine BM (l':=[(2,rP b1 0),(3,rP b2 0),(5,Aj ha)]) (H':=[.blk b2 (Am b) 25,.blk b1 (Am a) 25]) Aa Aa ?_;obtain⟨hj,rfl,t57,hb,he⟩:=Cz hi;replace hb:EW F a b ha=some t57:=hb;unfold EW at hb;refine Av (An (wm Aa (vF BG Aa Ei (vL 1 EG Aa (wv (Bo (ys:=a.fArgs) (enc:=Ai) Du Aa) (wv (C2 Aa Aa) (Ax (cz hb Aa (λhk hl=>?_) (λhk hm=>?_)))))))))
   ·refine A1 (AT (Av (AN (Av (ck hl λhn ho=>ck ho λhp hq=>Cu 10 [2,3,5] [⟨[],rP b1 3,none,none,none⟩,⟨[0],AD 1 (Ap Ai a.fArgs),none,none,none⟩,⟨[],Aj ha,none,none,none⟩,⟨[1,2],EF [AD 4 (Ap Ab (Af a.fArgs ha))],none,none,none⟩,⟨[3],AD 4 (Ap Ab (Af a.fArgs ha)),none,none,none⟩,⟨[],rP b2 3,none,none,none⟩,⟨[5],AD 1 (Ap Ai b.fArgs),none,none,none⟩,⟨[],Aj ha,none,none,none⟩,⟨[6,7],EF [AD 4 (Ap Ab (Af b.fArgs ha))],none,none,none⟩,⟨[8],AD 4 (Ap Ab (Af b.fArgs ha)),none,none,none⟩] ?_ (λβ=>?_))))))
    ·refine C5 (AS BG Aa Ei Aa Aa) (Ii (B1 (i:=1) EG Aa Aa Aa) (C5 (Ay Aa) (C5 (Bh (enc:=Ai) (ys:=a.fArgs) Du D9 Aa Aa hn) (C5 (Bg EE Aa Aa) (C5 (AS BG Aa Ei Aa Aa) (Ii (B1 (i:=0) EG Aa Aa Aa) (C5 (Ay Aa) (C5 (Bh (enc:=Ai) (ys:=b.fArgs) Du D9 Aa Aa hp) (C5 (Bg EE Aa Aa) ?_)))))))));exact Ml
    refine C4 (H1:=[.blk b2 (Am b) 25,.blk b1 (Am a) 25]) [41,42,43,44,45,46,47,48,49,50,2,3,5] ?_;refine ob hq λhr hs ht=>Cl PU (HK F (Af a.fArgs ha) (Af b.fArgs ha) hr hs) Aa (wv (B8 Aa) (Ax (cz ht Aa (λhu hw=>?_) (λhu hx=>?_))))
    ·refine An (wa Aa (Ax (A0 (A9 (Ah (Ah (Bm ?_)))))));have hy:=B9 hw he hf;refine A9 (Ah ?_);obtain rfl:=A2 hy;exact Az (BI Tryz.results51 (AR Aa)) (sS (sS sN)) ⟨Aa,Aa⟩
    ·refine A1 (AL (AT (Au (wm Aa (ck hx λhz h0=>wv (B0 Aa Aa hz) (wa Aa (At ?_)))))));have h1:=Bn h0 he;exact AC (AA (hj,ha+1,()) ⟨h1,Xi _⟩ (AJ.c Aa (AJ.c Aa (AJ.c Aa AJ.nil))) (sC (sC sN)))
   ·refine By (A4 ?_);have h2:=BQ hm he hf;exact A4 (Bi (AA ((),()) h2 AJ.nil (sS (sS sN))))
  ·rintro⟨⟨⟩,⟨⟩⟩ hd;refine Cy (l':=[]) (H':=[]) Aa Aa ?_;replace hd:HL =some r:=hd;unfold HL at hd;refine Bk (AT (An (wa Aa (Ax (A0 ?_)))));obtain rfl:=A2 hd;exact Az (BI Tryz.results51 (AR Aa)) sN ⟨Aa,Aa⟩
theorem OW (F:Nat)(state:(List Ac))(n:(List Ac))(r:(List Ac)×A8)(h:KL F state n=some r):Fn Tryz.prog GE 42 [AD 4 (Ap Ab state),AD 4 (Ap Ab n)] [] (λR H=>R=Dk [AD 4 (Ap Ab r.1),Bd (Ao r.2)]∧H=[]):=by
 refine enter (n:=49) Tryz.func42 Aa Tryz.ntmps42 Aa (λw Z=>?_);unfold KL at h;refine An (wa Aa (B3 (cs:=[Aj 0,rv (.slice none 0 0)]) GL Aa Aa (λb1=>?_)));refine Ax (Av (ck h λg2 h3=>ck h3 λg4 h5=>ck h5 λg6 h7=>AU [(0,AD 4 (Ap Ab state)),(1,AD 4 (Ap Ab n)),(5,rP b1 0),(26,rB (bif !decide (((Af state 0).fKind)=1) then((!decide (((Af state 0).fKind)=3))||(!decide (((Af n 0).fKind)=3))) else !decide (((Af n 0).fKind)=3)))] [.blk b1 [Aj 0,rv (.slice none 0 0)] 31] ?_ ?_))
 ·refine Au (wm Aa (wv (Bh (enc:=Ab) (ys:=state) Ci Cp Aa Aa g2) (wv (AQ Bx Aa DY Aa Aa) (wv (Bg DZ Aa Aa) (wv (Dp Aa Aa) (wm Aa (AY (!decide (((Af state 0).fKind)=1)) (λc8=>?_) (λc8=>?_))))))))
  ·refine wo c8 (wm Aa (wo c8 (wv (Bh (enc:=Ab) (ys:=state) Ci Cp Aa Aa g2) (wo c8 (wv (AQ Bx Aa DY Aa Aa) (wo c8 (wv (Bg DZ Aa Aa) (wo c8 (wv (Dp Aa Aa) (EP Aa c8 Aa (wm Aa (AY (!decide (((Af state 0).fKind)=3)) (λc9=>?_) (λc9=>?_)))))))))))))
   ·refine wf c9 (wf c9 (wf c9 (wf c9 (wf c9 (wv (r:=rB true) (Ar Aa c9 Aa) (At ?_))))));exact Cg (And.intro c8 c9)
   ·refine wo c9 (wm Aa (wo c9 (wv (Bh (enc:=Ab) (ys:=n) Ci Cp Aa Aa (Dj (CW g4 c8) c9)) (wo c9 (wv (AQ Bx Aa DY Aa Aa) (wo c9 (wv (Bg DZ Aa Aa) (wo c9 (wv (Dp Aa Aa) (DB Aa c9 Aa (At ?_)))))))))));exact Cg (And.intro c8 c9)
  ·refine wf c8 (wf c8 (wf c8 (wf c8 (wf c8 (wv (r:=rB false) (AH Aa c8 Aa) (wm Aa (Bz (b:=false) Aa Aa Aa (wm Aa (Bz (b:=false) Aa Aa Aa (wv (Bh (enc:=Ab) (ys:=n) Ci Cp Aa Aa (Dj g6 c8)) (Bz (b:=false) Aa Aa Aa (wv (AQ Bx Aa DY Aa Aa) (Bz (b:=false) Aa Aa Aa (wv (Bg DZ Aa Aa) (Bz (b:=false) Aa Aa Aa (wv (Dp Aa Aa) (wv (r:=rB (!decide (((Af n 0).fKind)=3))) (AH (b:=false) Aa Aa Aa) (At ?_))))))))))))))))));exact Cg c8
 refine cz h7 Aa (λhb hd=>?_) (λhb he=>?_)
 ·refine An (wm Aa (wv (r:=Bd [Aj 7,rv (.slice none 0 0)]) (DR Aa Aa) (wa Aa (AF (i:=0) Bs Aa Aa Aa (Be.c Aa) Aa Aa (cs':=[Aj 7,rv (.slice none 0 0)]) Aa (H':=[.blk b1 [Aj 7,rv (.slice none 0 0)] 31]) Aa (Ax (A0 (Ah (WK.upBlk (i:=0) (cs':=[Aj 7,AD 4 (Ap Ab ([]:List Ac))]) Aa ⟨Up.refl _,Up.le (Gx.nil _),trivial⟩ ?_))))))));obtain rfl:=A2 hd;exact Az (Ix Tryz.results42 (AR Aa) (BO (i:=0) Cw Bs Aa Aa Aa)) (sS sN) ⟨Aa,Aa⟩
 ·refine A1 (AT (Av (ck he λhf hg=>ck hg λhh hi=>ob hi λha hj hk=>Df [0,1,5] [⟨[],AD 4 (Ap Ab state),0⟩,⟨[0],EF (Ab (Af state 0)),0⟩,⟨[1],EF [Aj ((Af state 0).fInt),rS ((Af state 0).fStr),Aj ((Af state 0).fN)],0⟩,⟨[2],Aj ((Af state 0).fInt),0⟩,⟨[],AD 4 (Ap Ab n),0⟩,⟨[4],EF (Ab (Af n 0)),0⟩,⟨[5],EF [Aj ((Af n 0).fInt),rS ((Af n 0).fStr),Aj ((Af n 0).fN)],0⟩,⟨[6],Aj ((Af n 0).fInt),0⟩,⟨[3,7],Aj (((Af state 0).fInt)+((Af n 0).fInt)),0⟩,⟨[8],Dk [AD 4 (Ap Ab ha.1),Aj ha.2],0⟩,⟨[9],Dk [AD 4 (Ap Ab ha.1),Aj ha.2],0⟩,⟨[10],AD 4 (Ap Ab ha.1),0⟩,⟨[10],Aj ha.2,0⟩,⟨[11],AD 4 (Ap Ab ha.1),0⟩,⟨[12],Aj ha.2,0⟩] [6,7,0,5] ?_ ?_)))
  ·refine oq (Ay Aa) (oq (Bh (enc:=Ab) (ys:=state) Ci Cp Aa Aa g2) (oq (AQ Bx Aa C1 Aa Aa) (oq (Bg Dm Aa Aa) (oq (Ay Aa) (oq (Bh (enc:=Ab) (ys:=n) Ci Cp Aa Aa hf) (oq (AQ Bx Aa C1 Aa Aa) (oq (Bg Dm Aa Aa) (oq (B0 Aa Aa hh) (CV Aa (λH=>D7 Tryz.call68 (V4 F (((Af state 0).fInt)+((Af n 0).fInt)) ha hj) Aa) ?_)))))))));refine oq (Ay Aa) (oq (AO Aa Aa) (oq (AO Aa Aa) (oq (AV Aa) (oq (AV Aa) ?_))));exact Di
  refine AT (Av (An (wm Aa (wv (Dp Aa Aa) (Ax (cz hk Aa (λhl hm=>?_) (λhl hn=>?_)))))))
  ·refine An (wm Aa (wv (r:=Bd [Aj 8,rv (.slice none 0 0)]) (DR Aa Aa) (wa Aa (AF (i:=0) Bs Aa Aa Aa (Be.c Aa) Aa Aa (cs':=[Aj 8,rv (.slice none 0 0)]) Aa (H':=[.blk b1 [Aj 8,rv (.slice none 0 0)] 31]) Aa (Ax (A0 (Ah (WK.upBlk (i:=0) (cs':=[Aj 8,AD 4 (Ap Ab ([]:List Ac))]) Aa ⟨Up.refl _,Up.le (Gx.nil _),trivial⟩ ?_))))))));obtain rfl:=A2 hm;exact Az (Ix Tryz.results42 (AR Aa) (BO (i:=0) Cw Bs Aa Aa Aa)) (sS sN) ⟨Aa,Aa⟩
  ·refine A1 (AT (An (wm Aa (wm Aa (wv (r:=Bd [Aj 0,AD 4 (Ap Ab ha.1)]) (Cb Aa Aa) (wa Aa (AF (i:=0) Bs Aa Aa Aa (Be.c Aa) Aa Aa (cs':=[Aj 0,AD 4 (Ap Ab ha.1)]) Aa (H':=[.blk b1 [Aj 0,AD 4 (Ap Ab ha.1)] 31]) Aa (Ax (A0 ?_)))))))));obtain rfl:=A2 hn;exact Az (Ix Tryz.results42 (AR Aa) (BO (i:=0) Cw Bs Aa Aa Aa)) (sS sN) ⟨Aa,Aa⟩
theorem QP (F:Nat)(state:(List Ac))(op:A6)(r:(List Ac)×A8×Int)(h:Nm F state op=some r):Fn Tryz.prog GE 12 [AD 4 (Ap Ab state),Bd (Am op)] [] (λR H=>R=Dk [AD 4 (Ap Ab r.1),Bd (Ao r.2.1),Aj r.2.2]∧H=[]):=by
 refine enter (n:=63) Tryz.func12 Aa Tryz.ntmps12 Aa (λw Z=>?_);unfold Nm at h;refine An (BH Aa Aa (λb1=>?_));refine wa Aa (B3 (cs:=[Aj 0,rv (.slice none 0 0)]) GL Aa Aa (λb2=>?_));refine wa Aa (B4 (wv (Bf (i:=1) Es Cc Aa Aa Aa Aa) (ob h λr3 e5 h4=>Cl Tryz.call40 (Mg F op r3 e5) Aa (wa Aa (Ax (Av (An (wm Aa (wv (B5 Aa Aa) (Ax (cz h4 Aa (λc6 h7=>?_) (λc6 hl=>?_))))))))))))
 ·refine Au (wm Aa (ob h7 λr8 hm h9=>Cl Tryz.call41 (Mf F state r8 hm) Aa (wa Aa (Ax (Av (An (wm Aa (wv (Dp Aa Aa) (Ax (cz h9 Aa (λhn ho=>?_) (λhn hp=>?_)))))))))))
  ·refine An (wv (r:=Bd [Aj 0,rv (.slice none 0 0)]) (Gc ) (wm Aa (wa Aa (AF (i:=0) Bs Aa Aa Aa (Be.c Aa) Aa Aa (cs':=[Aj 0,rv (.slice none 0 0)]) Aa (H':=[.blk b2 [Aj 0,rv (.slice none 0 0)] 31,.blk b1 (Am op) 25]) Aa (wa Aa (Ax (A0 (Ah (WK.up (d:=4) (r:=AD 4 (Ap Ab ([]:List Ac))) Aa (Up.le (Gx.nil _)) (WK.upBlk (i:=0) (cs':=[Aj 0,AD 4 (Ap Ab ([]:List Ac))]) Aa ⟨Up.refl _,Up.le (Gx.nil _),trivial⟩ ?_))))))))));obtain rfl:=A2 ho;exact Az (LB Ly (AR Aa) (BO (i:=0) Cw Bs Aa Aa Aa) (AR Aa)) (sS (sS sN)) ⟨Aa,Aa⟩
  ·refine A1 (AT (Av (An (vF BG Aa CF (vL 1 CZ Aa (Ax (AN (An (wv (CC Aa Aa) (wa Aa (Ax (cz hp Aa (λhq hr=>?_) (λhq hs=>?_)))))))))))))
   ·refine Av (ck hr λht hu=>ob hu λhd hw hx=>Cu 7 [3,5,6] [⟨[],rP b1 3,none,none,none⟩,⟨[0],AD 1 (Ap Ai op.fArgs),none,none,none⟩,⟨[1],EF [AD 4 (Ap Ab (Af op.fArgs 0))],none,none,none⟩,⟨[2],AD 4 (Ap Ab (Af op.fArgs 0)),none,none,none⟩,⟨[],AD 4 (Ap Ab hd),none,none,none⟩,⟨[4],Bd [Aj 0,AD 4 (Ap Ab hd)],none,none,none⟩,⟨[3],AD 4 (Ap Ab (Af op.fArgs 0)),none,none,none⟩] ?_ (λβ=>?_))
    ·refine C5 (AS BG Aa Ei Aa Aa) (Ii (B1 (i:=1) EG Aa Aa Aa) (C5 (Bh (enc:=Ai) (ys:=op.fArgs) Du D9 Aa Aa ht) (C5 (Bg EE Aa Aa) (Oc (D7 Tryz.call34 (NT hd hw) Aa) (C5 (Cb Aa Aa) (C5 (AV Aa) ?_))))));exact Ml
    refine C4 (H1:=[.blk b2 [Aj 0,rv (.slice none 0 0)] 31,.blk b1 (Am op) 25]) [24,25,26,27,28,29,4,3,5,6] ?_;refine AF (i:=0) Bs Aa Aa Aa (Be.c Aa) Aa Aa (cs':=[Aj 0,AD 4 (Ap Ab hd)]) Aa (H':=[.blk b2 [Aj 0,AD 4 (Ap Ab hd)] 31,.blk b1 (Am op) 25]) Aa (wa Aa (Ax (A0 (A9 (Ah ?_)))));obtain rfl:=A2 hx;exact Az (LB Ly (AR Aa) (BO (i:=0) Cw Bs Aa Aa Aa) (AR Aa)) (sS (sS sN)) ⟨Aa,Aa⟩
   ·refine An (wv (CC Aa Aa) (wa Aa (Ax (cz hs Aa (λhy hz=>?_) (λhy h0=>?_)))))
    ·refine An (wm Aa (vF BG Aa Ei (vL 1 EG Aa (ck hz λh1 h2=>wv (Bh (enc:=Ai) (ys:=op.fArgs) Du D9 Aa Aa h1) (wv (Bg EE Aa Aa) (ob h2 λha h3 h5=>Cl Tryz.call42 (OW F state (Af op.fArgs 0) ha h3) Aa (wm Aa (wv (AO Aa Aa) (wv (AO Aa Aa) (B3 (cs:=[Aj 0,rv (.slice none 0 0)]) GL Aa Aa (λhj=>?_)))))))))));refine wa Aa (AF (i:=0) Bs Aa Aa Aa (Be.c Aa) Aa Aa (cs':=[Aj ha.2.fErr,AD 4 (Ap Ab ha.2.fValue)]) Aa (H':=[.blk hj (Ao ha.2) 31,.blk b2 [Aj 0,rv (.slice none 0 0)] 31,.blk b1 (Am op) 25]) Aa (Ax (Av (Cu 3 [5,6,8,9] [⟨[],AD 4 (Ap Ab ha.1),none,none,none⟩,⟨[],Bd (Ao ha.2),none,none,none⟩,⟨[0],AD 4 (Ap Ab ha.1),none,none,none⟩] ?_ (λβ=>?_)))))
     ·refine C5 (Ay Aa) (Ii (Bf (i:=0) Cw Bs Aa Aa Aa Aa) (C5 (AV Aa) ?_));exact Ml
     refine C4 (H1:=[.blk hj (Ao ha.2) 31,.blk b2 [Aj 0,rv (.slice none 0 0)] 31,.blk b1 (Am op) 25]) [41,42,4,5,6,8,9] ?_;refine AF (i:=1) Bs Aa Aa Aa (Be.c Aa) Aa Aa (cs':=[Aj ha.2.fErr,AD 4 (Ap Ab ha.2.fValue)]) Aa (H':=[.blk hj (Ao ha.2) 31,.blk b2 (Ao ha.2) 31,.blk b1 (Am op) 25]) Aa (wa Aa (Ax (A0 (A9 (Ah ?_)))));obtain rfl:=A2 h5;exact Az (LB Ly (AR Aa) (BO (i:=1) Cw Bs Aa Aa Aa) (AR Aa)) (sS (sS (sS sN))) ⟨Aa,Aa⟩
    ·refine An (wv (CC Aa Aa) (wa Aa (Ax (cz h0 Aa (λh6 h8=>?_) (λh6 hA=>?_)))))
     ·refine Av (An (wm Aa (vF BG Aa Ei (vL 1 EG Aa (ck h8 λhB hC=>wv (Bh (enc:=Ai) (ys:=op.fArgs) Du D9 Aa Aa hB) (wv (Bg EE Aa Aa) (ob hC λhD hE hG=>Cl PU (HK F state (Af op.fArgs 0) hD hE) Aa (Ax (cz hG Aa (λhH hI=>?_) (λhH hJ=>?_))))))))))
      ·refine Av (ck hI λhK hL=>ob hL λhe hN hO=>Cu 7 [3,5,6] [⟨[],rP b1 3,none,none,none⟩,⟨[0],AD 1 (Ap Ai op.fArgs),none,none,none⟩,⟨[1],EF [AD 4 (Ap Ab (Af op.fArgs 1))],none,none,none⟩,⟨[2],AD 4 (Ap Ab (Af op.fArgs 1)),none,none,none⟩,⟨[],AD 4 (Ap Ab he),none,none,none⟩,⟨[4],Bd [Aj 0,AD 4 (Ap Ab he)],none,none,none⟩,⟨[3],AD 4 (Ap Ab (Af op.fArgs 1)),none,none,none⟩] ?_ (λβ=>?_))
       ·refine C5 (AS BG Aa Ei Aa Aa) (Ii (B1 (i:=1) EG Aa Aa Aa) (C5 (Bh (enc:=Ai) (ys:=op.fArgs) Du D9 Aa Aa hK) (C5 (Bg EE Aa Aa) (Oc (D7 Tryz.call43 (LD true he hN) Aa) (C5 (Cb Aa Aa) (C5 (AV Aa) ?_))))));exact Ml
       refine C4 (H1:=[.blk b2 [Aj 0,rv (.slice none 0 0)] 31,.blk b1 (Am op) 25]) [51,52,53,54,55,56,4,3,5,6] ?_;refine AF (i:=0) Bs Aa Aa Aa (Be.c Aa) Aa Aa (cs':=[Aj 0,AD 4 (Ap Ab he)]) Aa (H':=[.blk b2 [Aj 0,AD 4 (Ap Ab he)] 31,.blk b1 (Am op) 25]) Aa (wa Aa (Ax (A0 (Ah (A9 (Ah ?_))))));obtain rfl:=A2 hO;exact Az (LB Ly (AR Aa) (BO (i:=0) Cw Bs Aa Aa Aa) (AR Aa)) (sS (sS sN)) ⟨Aa,Aa⟩
      ·refine A1 (AT (An (wm Aa (ob hJ λhh hP hQ=>Cl Tryz.call43 (LD false hh hP) Aa (wv (r:=Bd [Aj 0,AD 4 (Ap Ab hh)]) (Cb Aa Aa) (wa Aa (AF (i:=0) Bs Aa Aa Aa (Be.c Aa) Aa Aa (cs':=[Aj 0,AD 4 (Ap Ab hh)]) Aa (H':=[.blk b2 [Aj 0,AD 4 (Ap Ab hh)] 31,.blk b1 (Am op) 25]) Aa (wa Aa (Ax (A0 (A9 (Ah ?_))))))))))));obtain rfl:=A2 hQ;exact Az (LB Ly (AR Aa) (BO (i:=0) Cw Bs Aa Aa Aa) (AR Aa)) (sS (sS sN)) ⟨Aa,Aa⟩
     ·refine A1 (AL (AT (An (wm Aa (wm Aa (wv (r:=Bd [Aj 0,AD 4 (Ap Ab state)]) (Cb Aa Aa) (wa Aa (AF (i:=0) Bs Aa Aa Aa (Be.c Aa) Aa Aa (cs':=[Aj 0,AD 4 (Ap Ab state)]) Aa (H':=[.blk b2 [Aj 0,AD 4 (Ap Ab state)] 31,.blk b1 (Am op) 25]) Aa (wa Aa (Ax (A0 ?_)))))))))));obtain rfl:=A2 hA;exact Az (LB Ly (AR Aa) (BO (i:=0) Cw Bs Aa Aa Aa) (AR Aa)) (sS (sS sN)) ⟨Aa,Aa⟩
 ·refine A1 (AT (Av (An (wm Aa (wv (Dp Aa Aa) (Ax (cz hl Aa (λhR hS=>?_) (λhR hT=>?_))))))))
  ·refine An (wv (r:=Bd [Aj 0,rv (.slice none 0 0)]) (Gc ) (wm Aa (wa Aa (AF (i:=0) Bs Aa Aa Aa (Be.c Aa) Aa Aa (cs':=[Aj 0,rv (.slice none 0 0)]) Aa (H':=[.blk b2 [Aj 0,rv (.slice none 0 0)] 31,.blk b1 (Am op) 25]) Aa (wa Aa (Ax (A0 (Ah (WK.up (d:=4) (r:=AD 4 (Ap Ab ([]:List Ac))) Aa (Up.le (Gx.nil _)) (WK.upBlk (i:=0) (cs':=[Aj 0,AD 4 (Ap Ab ([]:List Ac))]) Aa ⟨Up.refl _,Up.le (Gx.nil _),trivial⟩ ?_))))))))));obtain rfl:=A2 hS;exact Az (LB Ly (AR Aa) (BO (i:=0) Cw Bs Aa Aa Aa) (AR Aa)) (sS (sS sN)) ⟨Aa,Aa⟩
  ·refine A1 (AT (Av (An (vF BG Aa CF (vL 1 CZ Aa (Ax (AN (An (wv (CC Aa Aa) (wa Aa (Ax (cz hT Aa (λhU hV=>?_) (λhU hW=>?_)))))))))))))
   ·refine Av (ck hV λhX hY=>ob hY λhf hZ ga=>Cu 7 [3,5,6] [⟨[],rP b1 3,none,none,none⟩,⟨[0],AD 1 (Ap Ai op.fArgs),none,none,none⟩,⟨[1],EF [AD 4 (Ap Ab (Af op.fArgs 0))],none,none,none⟩,⟨[2],AD 4 (Ap Ab (Af op.fArgs 0)),none,none,none⟩,⟨[],AD 4 (Ap Ab hf),none,none,none⟩,⟨[4],Bd [Aj 0,AD 4 (Ap Ab hf)],none,none,none⟩,⟨[3],AD 4 (Ap Ab (Af op.fArgs 0)),none,none,none⟩] ?_ (λβ=>?_))
    ·refine C5 (AS BG Aa Ei Aa Aa) (Ii (B1 (i:=1) EG Aa Aa Aa) (C5 (Bh (enc:=Ai) (ys:=op.fArgs) Du D9 Aa Aa hX) (C5 (Bg EE Aa Aa) (Oc (D7 Tryz.call34 (NT hf hZ) Aa) (C5 (Cb Aa Aa) (C5 (AV Aa) ?_))))));exact Ml
    refine C4 (H1:=[.blk b2 [Aj 0,rv (.slice none 0 0)] 31,.blk b1 (Am op) 25]) [24,25,26,27,28,29,4,3,5,6] ?_;refine AF (i:=0) Bs Aa Aa Aa (Be.c Aa) Aa Aa (cs':=[Aj 0,AD 4 (Ap Ab hf)]) Aa (H':=[.blk b2 [Aj 0,AD 4 (Ap Ab hf)] 31,.blk b1 (Am op) 25]) Aa (wa Aa (Ax (A0 (A9 (Ah ?_)))));obtain rfl:=A2 ga;exact Az (LB Ly (AR Aa) (BO (i:=0) Cw Bs Aa Aa Aa) (AR Aa)) (sS (sS sN)) ⟨Aa,Aa⟩
   ·refine An (wv (CC Aa Aa) (wa Aa (Ax (cz hW Aa (λgb gc=>?_) (λgb gd=>?_)))))
    ·refine An (wm Aa (vF BG Aa Ei (vL 1 EG Aa (ck gc λge gf=>wv (Bh (enc:=Ai) (ys:=op.fArgs) Du D9 Aa Aa ge) (wv (Bg EE Aa Aa) (ob gf λhb gg gh=>Cl Tryz.call42 (OW F state (Af op.fArgs 0) hb gg) Aa (wm Aa (wv (AO Aa Aa) (wv (AO Aa Aa) (B3 (cs:=[Aj 0,rv (.slice none 0 0)]) GL Aa Aa (λhk=>?_)))))))))));refine wa Aa (AF (i:=0) Bs Aa Aa Aa (Be.c Aa) Aa Aa (cs':=[Aj hb.2.fErr,AD 4 (Ap Ab hb.2.fValue)]) Aa (H':=[.blk hk (Ao hb.2) 31,.blk b2 [Aj 0,rv (.slice none 0 0)] 31,.blk b1 (Am op) 25]) Aa (Ax (Av (Cu 3 [5,6,8,9] [⟨[],AD 4 (Ap Ab hb.1),none,none,none⟩,⟨[],Bd (Ao hb.2),none,none,none⟩,⟨[0],AD 4 (Ap Ab hb.1),none,none,none⟩] ?_ (λβ=>?_)))))
     ·refine C5 (Ay Aa) (Ii (Bf (i:=0) Cw Bs Aa Aa Aa Aa) (C5 (AV Aa) ?_));exact Ml
     refine C4 (H1:=[.blk hk (Ao hb.2) 31,.blk b2 [Aj 0,rv (.slice none 0 0)] 31,.blk b1 (Am op) 25]) [41,42,4,5,6,8,9] ?_;refine AF (i:=1) Bs Aa Aa Aa (Be.c Aa) Aa Aa (cs':=[Aj hb.2.fErr,AD 4 (Ap Ab hb.2.fValue)]) Aa (H':=[.blk hk (Ao hb.2) 31,.blk b2 (Ao hb.2) 31,.blk b1 (Am op) 25]) Aa (wa Aa (Ax (A0 (A9 (Ah ?_)))));obtain rfl:=A2 gh;exact Az (LB Ly (AR Aa) (BO (i:=1) Cw Bs Aa Aa Aa) (AR Aa)) (sS (sS (sS sN))) ⟨Aa,Aa⟩
    ·refine An (wv (CC Aa Aa) (wa Aa (Ax (cz gd Aa (λgi gj=>?_) (λgi gl=>?_)))))
     ·refine Av (An (wm Aa (vF BG Aa Ei (vL 1 EG Aa (ck gj λgm gp=>wv (Bh (enc:=Ai) (ys:=op.fArgs) Du D9 Aa Aa gm) (wv (Bg EE Aa Aa) (ob gp λgq gr gs=>Cl PU (HK F state (Af op.fArgs 0) gq gr) Aa (Ax (cz gs Aa (λgt gu=>?_) (λgt gv=>?_))))))))))
      ·refine Av (ck gu λgw gx=>ob gx λhg gy gz=>Cu 7 [3,5,6] [⟨[],rP b1 3,none,none,none⟩,⟨[0],AD 1 (Ap Ai op.fArgs),none,none,none⟩,⟨[1],EF [AD 4 (Ap Ab (Af op.fArgs 1))],none,none,none⟩,⟨[2],AD 4 (Ap Ab (Af op.fArgs 1)),none,none,none⟩,⟨[],AD 4 (Ap Ab hg),none,none,none⟩,⟨[4],Bd [Aj 0,AD 4 (Ap Ab hg)],none,none,none⟩,⟨[3],AD 4 (Ap Ab (Af op.fArgs 1)),none,none,none⟩] ?_ (λβ=>?_))
       ·refine C5 (AS BG Aa Ei Aa Aa) (Ii (B1 (i:=1) EG Aa Aa Aa) (C5 (Bh (enc:=Ai) (ys:=op.fArgs) Du D9 Aa Aa gw) (C5 (Bg EE Aa Aa) (Oc (D7 Tryz.call43 (LD true hg gy) Aa) (C5 (Cb Aa Aa) (C5 (AV Aa) ?_))))));exact Ml
       refine C4 (H1:=[.blk b2 [Aj 0,rv (.slice none 0 0)] 31,.blk b1 (Am op) 25]) [51,52,53,54,55,56,4,3,5,6] ?_;refine AF (i:=0) Bs Aa Aa Aa (Be.c Aa) Aa Aa (cs':=[Aj 0,AD 4 (Ap Ab hg)]) Aa (H':=[.blk b2 [Aj 0,AD 4 (Ap Ab hg)] 31,.blk b1 (Am op) 25]) Aa (wa Aa (Ax (A0 (Ah (A9 (Ah ?_))))));obtain rfl:=A2 gz;exact Az (LB Ly (AR Aa) (BO (i:=0) Cw Bs Aa Aa Aa) (AR Aa)) (sS (sS sN)) ⟨Aa,Aa⟩
      ·refine A1 (AT (An (wm Aa (ob gv λhi g0 g1=>Cl Tryz.call43 (LD false hi g0) Aa (wv (r:=Bd [Aj 0,AD 4 (Ap Ab hi)]) (Cb Aa Aa) (wa Aa (AF (i:=0) Bs Aa Aa Aa (Be.c Aa) Aa Aa (cs':=[Aj 0,AD 4 (Ap Ab hi)]) Aa (H':=[.blk b2 [Aj 0,AD 4 (Ap Ab hi)] 31,.blk b1 (Am op) 25]) Aa (wa Aa (Ax (A0 (A9 (Ah ?_))))))))))));obtain rfl:=A2 g1;exact Az (LB Ly (AR Aa) (BO (i:=0) Cw Bs Aa Aa Aa) (AR Aa)) (sS (sS sN)) ⟨Aa,Aa⟩
     ·refine A1 (AL (AT (An (wm Aa (wm Aa (wv (r:=Bd [Aj 0,AD 4 (Ap Ab state)]) (Cb Aa Aa) (wa Aa (AF (i:=0) Bs Aa Aa Aa (Be.c Aa) Aa Aa (cs':=[Aj 0,AD 4 (Ap Ab state)]) Aa (H':=[.blk b2 [Aj 0,AD 4 (Ap Ab state)] 31,.blk b1 (Am op) 25]) Aa (wa Aa (Ax (A0 ?_)))))))))));obtain rfl:=A2 gl;exact Az (LB Ly (AR Aa) (BO (i:=0) Cw Bs Aa Aa Aa) (AR Aa)) (sS (sS sN)) ⟨Aa,Aa⟩
theorem Td  (r:Aw)(h:NV=some r):Fn Tryz.prog GE 25 [] [] (λR H=>∃u0:Nat,∃u0_1:Value,R=rP u0 0∧H=[.blk u0 [Aj r.fTime,rv u0_1] 98,.row u0_1 44 8 (Ap Ad r.fL)]):=by
 refine enter (n:=3) Tryz.func25 Aa Tryz.ntmps25 Aa (λw Z=>?_);unfold NV at h;refine An (wa Aa (B4 (wv (r:=Bd [Aj 0,rv (.slice none 0 0)]) (Qt ) (BH Aa Aa (λb1=>?_)))));refine wa Aa (Ax (A0 (WK.nilrow (e:=44) (sz:=8) (BV (H2:=[.blk b1 [Aj 0,rv (.slice none 0 0)] 98,.row (.slice none 0 0                                            ) 44 8 (Ap Ad ([]:List Al))]) ((Ae (i:=1) Aa).trans (WZ _ (Xd _))) ?_))));obtain rfl:=A2 h;exact Az (BI Tryz.results25 (AR Aa)) (sC (sC sN)) ⟨b1,(.slice none 0 0                                            ),Aa,Aa⟩
theorem IO (F:Nat)(he:Nat)(ha:Value)(d:Aw)(e:Aq)(r:(List Ac))(h:G1 F d e=some r):Fn Tryz.prog GE 30 [rP he 0,rS e] [.blk he [Aj d.fTime,rv ha] 98,.row ha 44 8 (Ap Ad d.fL)] (λR H=>R=AD 4 (Ap Ab r)∧H=[.blk he [Aj d.fTime,rv ha] 98,.row ha 44 8 (Ap Ad d.fL)]):=by
 refine enter (n:=54) Tryz.func30 Aa Tryz.ntmps30 Aa (λw Z=>?_);unfold G1 at h;refine An (wa Aa (B4 (ob h λr1 e3 h2=>Cl Tryz.call34 (NT r1 e3) Aa (wa Aa (Ax (Av (An (wa Aa (Ax (AN (ob h2 λhp hq hr=>Bv (S:=Nat×((List Ac)×Int)×(Unit)) (V:=((List Ac))×(Unit)) 0 (λσ=>BW (λσ=>Dx F d e σ.1 σ.2) σ.1 σ.2.1=some hp) (λσ=>[(0,rP he 0),(1,rS e),(5,AD 4 (Ap Ab σ.2.1.1)),(6,Aj σ.2.1.2)]) (λσ=>[.blk he [Aj d.fTime,rv ha] 98,.row ha 44 8 (Ap Ad d.fL)]) (λσ=>σ.1) (F,(r1,0),()) hq (AJ.c Aa (AJ.c Aa (AJ.c Aa (AJ.c Aa AJ.nil)))) (sC (sC sN)) (λσ=>EX σ.1=some r) (λσ=>[(5,AD 4 (Ap Ab σ.1))]) (λσ=>[.blk he [Aj d.fTime,rv ha] 98,.row ha 44 8 (Ap Ad d.fL)]) ?_ ?_)))))))))))
 ·rintro⟨h9,⟨hg,hb⟩,⟨⟩⟩ hs;refine BM (l':=[(0,rP he 0),(1,rS e),(5,AD 4 (Ap Ab hg)),(6,Aj hb)]) (H':=[.blk he [Aj d.fTime,rv ha] 98,.row ha 44 8 (Ap Ad d.fL)]) Aa Aa ?_;obtain⟨ht,rfl,hk,hh,hm⟩:=Cz hs;replace hh:Dx F d e hg hb=some hk:=hh;unfold Dx at hh;refine Av (An (wm Aa (wm Aa (wv (AK Aa) (vF D3 Aa Eh (vL 0 Em Aa (wv (Ca (ys:=d.fL) (enc:=Ad) (i:=1) Cn Aa Aa) (wv (C2 Aa Aa) (Ax (cz hh Aa (λhu hw=>?_) (λhu hx=>?_)))))))))))
  ·refine A1 (AT (Co (S:=((List Ac))×(Unit)) (λσ=>EY hb σ.1=some hk) (λσ=>[(0,rP he 0),(1,rS e),(5,AD 4 (Ap Ab σ.1)),(6,Aj hb)]) (λσ=>[.blk he [Aj d.fTime,rv ha] 98,.row ha 44 8 (Ap Ad d.fL)]) ?_ ?_))
   ·refine AN (ck hw λhf hy=>AU [(0,rP he 0),(1,rS e),(5,AD 4 (Ap Ab hg)),(6,Aj hb),(38,rB ((decide ((((Af d.fL hb).fOp).fEntity)=e))&&(decide (0≤((Af d.fL hb).fTo)))))] [.blk he [Aj d.fTime,rv ha] 98,.row ha 44 8 (Ap Ad d.fL)] ?_ ?_)
    ·refine Au (wm Aa (wv (AK Aa) (vF D3 Aa Eh (vL 0 Em Aa (wm Aa (wv (r:=rv (C0 8 ha (BU hb) 0)) (Cd (i:=1) Cn BL Aa Aa Aa (AX hf)) (wv (r:=rv (C0 8 ha (BU hb) 0)) (BE (k:=1) C3 Aa Cc Aa (AX hf) Aa Aa Aa) (wv (r:=rv (C0 8 ha (BU hb) 0)) (BE (k:=1) BG Aa CF Aa (AX hf) Aa Aa Aa) (wv (r:=rS (((Af d.fL hb).fOp).fEntity)) (Cs (enc:=Ad) (ys:=d.fL) (i:=1) (j:=hb) CZ Aa Aa hf Aa) (wm Aa (wv (CC Aa Aa) (wm Aa (AY (decide ((((Af d.fL hb).fOp).fEntity)=e)) (λhd=>?_) (λhd=>?_))))))))))))))
     ·refine wo hd (wm Aa (wo hd (wv (AK Aa) (wo hd (vF D3 Aa Eh (wo hd (vL 0 Em Aa (wo hd (wm Aa (wo hd (wv (r:=rv (C0 8 ha (BU hb) 0)) (Cd (i:=1) Cn BL Aa Aa Aa (AX hf)) (wo hd (wv (r:=rv (C0 8 ha (BU hb) 7)) (BE (k:=1) C3 Aa C1 Aa (AX hf) Aa Aa Aa) (wo hd (wv (r:=Aj ((Af d.fL hb).fTo)) (Cs (enc:=Ad) (ys:=d.fL) (i:=1) (j:=hb) Dm Aa Aa hf Aa) (wo hd (wv (Iq Aa Aa) (EP Aa hd Aa (At ?_)))))))))))))))))));exact Cg hd
     ·refine wf hd (wf hd (wf hd (wf hd (wf hd (wf hd (wf hd (wf hd (wf hd (wv (r:=rB false) (AH Aa hd Aa) (At ?_))))))))));exact Cg hd
    refine cz hy Aa (λhz h0=>?_) (λhz h1=>?_)
    ·exact Au (wm Aa (wm Aa (wv (AK Aa) (vF D3 Aa Eh (vL 0 Em Aa (wm Aa (wv (r:=rv (C0 8 ha (BU hb) 0)) (Cd (i:=1) Cn BL Aa Aa Aa (AX hf)) (wv (r:=rv (C0 8 ha (BU hb) 0)) (BE (k:=1) C3 Aa Cc Aa (AX hf) Aa Aa Aa) (wv (r:=Bd (Am ((Af d.fL hb).fOp))) (IU (enc:=Ad) (ys:=d.fL) (i:=1) (j:=hb) Es Cc Aa Aa hf Aa Aa) (ob h0 λhn h3 h4=>Cl Tryz.call12 (QP F hg ((Af d.fL hb).fOp) hn h3) Aa (wm Aa (wv (AO Aa Aa) (wv (AO Aa Aa) (wv (AO Aa Aa) (wa Aa (At (AL (AC (AA (hn.1,()) h4 (AJ.c Aa (AJ.c Aa (AJ.c Aa (AJ.c Aa AJ.nil)))) (sC (sC sN)))))))))))))))))))))
    ·exact A1 (AL (AC (AA (hg,()) h1 (AJ.c Aa (AJ.c Aa (AJ.c Aa (AJ.c Aa AJ.nil)))) (sC (sC sN)))))
   ·rintro⟨hl,⟨⟩⟩ hi;refine BM (l':=[(0,rP he 0),(1,rS e),(5,AD 4 (Ap Ab hl)),(6,Aj hb)]) (H':=[.blk he [Aj d.fTime,rv ha] 98,.row ha 44 8 (Ap Ad d.fL)]) Aa Aa ?_;replace hi:EY hb hl=some hk:=hi;unfold EY at hi;refine Au (wm Aa (ck hi λh5 h6=>wv (B0 Aa Aa h5) (wa Aa (At ?_))));have h7:=Bn h6 hm;exact AC (AA (ht,(hl,hb+1),()) ⟨h7,Xi _⟩ (AJ.c Aa (AJ.c Aa (AJ.c Aa (AJ.c Aa AJ.nil)))) (sC (sC sN)))
  ·refine By (A4 ?_);have h8:=BQ hx hm hr;exact A4 (Bi (AA (hg,()) h8 (AJ.c Aa AJ.nil) (sC (sC sN))))
 ·rintro⟨ho,⟨⟩⟩ hj;refine Cy (l':=[(5,AD 4 (Ap Ab ho))]) (H':=[.blk he [Aj d.fTime,rv ha] 98,.row ha 44 8 (Ap Ad d.fL)]) Aa Aa ?_;replace hj:EX ho=some r:=hj;unfold EX at hj;refine Bk (AT (An (wm Aa (wa Aa (Ax (A0 ?_))))));obtain rfl:=A2 hj;exact Az (BI Tryz.results30 (AR Aa)) (sC (sC sN)) ⟨Aa,Aa⟩
theorem Iz (F:Nat)(he:Nat)(ha:Value)(d:Aw)(e:Aq)(r:(List Aq))(h:Ey F d e=some r):Fn Tryz.prog GE 31 [rP he 0,rS e] [.blk he [Aj d.fTime,rv ha] 98,.row ha 44 8 (Ap Ad d.fL)] (λR H=>∃u0:Value,R=rv u0∧H=[.row u0 9 1 (Ap eS r),.blk he [Aj d.fTime,rv ha] 98,.row ha 44 8 (Ap Ad d.fL)]):=by
 refine enter (n:=51) Tryz.func31 Aa Tryz.ntmps31 Aa (λw Z=>?_);unfold Ey at h;refine An (wa Aa (B4 (wa Aa (Ax (Av (An (wa Aa (Ax (AN (WC.nilrow (e:=9) (sz:=1) (Gy (H2:=[.blk he [Aj d.fTime,rv ha] 98,.row ha 44 8 (Ap Ad d.fL),.row (.slice none 0 0         ) 9 1 (Ap eS ([]:List Aq))]) ((Ae (i:=1) Aa).trans (WZ _ ((Ae (i:=1) Aa).trans (WZ _ (Xd _))))) (ob h λhs ht hu=>Bv (S:=Nat×((List Aq)×Int)×(Value)) (V:=((List Aq))×(Value)) 0 (λσ=>BW (λσ=>Db d e σ.1 σ.2) σ.1 σ.2.1=some hs) (λσ=>[(0,rP he 0),(1,rS e),(5,rv σ.2.2),(6,Aj σ.2.1.2)]) (λσ=>[.blk he [Aj d.fTime,rv ha] 98,.row ha 44 8 (Ap Ad d.fL),.row σ.2.2 9 1 (Ap eS σ.2.1.1)]) (λσ=>σ.1) (F,(([]:List Aq),0),(.slice none 0 0         )) ht (AJ.c Aa (AJ.c Aa (AJ.c Aa (AJ.c Aa AJ.nil)))) (sC (sC (sC sN))) (λσ=>EI σ.1=some r) (λσ=>[(5,rv σ.2)]) (λσ=>[.blk he [Aj d.fTime,rv ha] 98,.row ha 44 8 (Ap Ad d.fL),.row σ.2 9 1 (Ap eS σ.1)]) ?_ ?_))))))))))))
 ·rintro⟨hC,⟨hg,hb⟩,hh⟩ hw;refine BM (l':=[(0,rP he 0),(1,rS e),(5,rv hh),(6,Aj hb)]) (H':=[.blk he [Aj d.fTime,rv ha] 98,.row ha 44 8 (Ap Ad d.fL),.row hh 9 1 (Ap eS hg)]) Aa Aa ?_;obtain⟨hx,rfl,hm,hi,hq⟩:=Cz hw;replace hi:Db d e hg hb=some hm:=hi;unfold Db at hi;refine Av (An (wm Aa (wm Aa (wv (AK Aa) (vF D3 Aa Eh (vL 0 Em Aa (wv (Ca (ys:=d.fL) (enc:=Ad) (i:=1) Cn Aa Aa) (wv (C2 Aa Aa) (Ax (cz hi Aa (λhy hz=>?_) (λhy h0=>?_)))))))))))
  ·refine A1 (AT (Co (S:=((List Aq))×(Value)) (λσ=>Eb hb σ.1=some hm) (λσ=>[(0,rP he 0),(1,rS e),(5,rv σ.2),(6,Aj hb)]) (λσ=>[.blk he [Aj d.fTime,rv ha] 98,.row ha 44 8 (Ap Ad d.fL),.row σ.2 9 1 (Ap eS σ.1)]) ?_ ?_))
   ·refine AN (ck hz λhf h1=>AU [(0,rP he 0),(1,rS e),(5,rv hh),(6,Aj hb),(37,rB ((decide ((((Af d.fL hb).fOp).fEntity)=e))&&(decide (((Af d.fL hb).fTo)<0))))] [.blk he [Aj d.fTime,rv ha] 98,.row ha 44 8 (Ap Ad d.fL),.row hh 9 1 (Ap eS hg)] ?_ ?_)
    ·refine Au (wm Aa (wv (AK Aa) (vF D3 Aa Eh (vL 0 Em Aa (wm Aa (wv (r:=rv (C0 8 ha (BU hb) 0)) (Cd (i:=1) Cn BL Aa Aa Aa (AX hf)) (wv (r:=rv (C0 8 ha (BU hb) 0)) (BE (k:=1) C3 Aa Cc Aa (AX hf) Aa Aa Aa) (wv (r:=rv (C0 8 ha (BU hb) 0)) (BE (k:=1) BG Aa CF Aa (AX hf) Aa Aa Aa) (wv (r:=rS (((Af d.fL hb).fOp).fEntity)) (Cs (enc:=Ad) (ys:=d.fL) (i:=1) (j:=hb) CZ Aa Aa hf Aa) (wm Aa (wv (CC Aa Aa) (wm Aa (AY (decide ((((Af d.fL hb).fOp).fEntity)=e)) (λhd=>?_) (λhd=>?_))))))))))))))
     ·refine wo hd (wm Aa (wo hd (wv (AK Aa) (wo hd (vF D3 Aa Eh (wo hd (vL 0 Em Aa (wo hd (wm Aa (wo hd (wv (r:=rv (C0 8 ha (BU hb) 0)) (Cd (i:=1) Cn BL Aa Aa Aa (AX hf)) (wo hd (wv (r:=rv (C0 8 ha (BU hb) 7)) (BE (k:=1) C3 Aa C1 Aa (AX hf) Aa Aa Aa) (wo hd (wv (r:=Aj ((Af d.fL hb).fTo)) (Cs (enc:=Ad) (ys:=d.fL) (i:=1) (j:=hb) Dm Aa Aa hf Aa) (wo hd (wv (C2 Aa Aa) (EP Aa hd Aa (At ?_)))))))))))))))))));exact Cg hd
     ·refine wf hd (wf hd (wf hd (wf hd (wf hd (wf hd (wf hd (wf hd (wf hd (wv (r:=rB false) (AH Aa hd Aa) (At ?_))))))))));exact Cg hd
    refine cz h1 Aa (λh2 h3=>?_) (λh2 h4=>?_)
    ·refine Au (wm Aa (wm Aa (wv (AK Aa) (vF D3 Aa Eh (vL 0 Em Aa (wm Aa (wv (r:=rv (C0 8 ha (BU hb) 0)) (Cd (i:=1) Cn BL Aa Aa Aa (AX hf)) (wv (r:=rv (C0 8 ha (BU hb) 0)) (BE (k:=1) C3 Aa Cc Aa (AX hf) Aa Aa Aa) (wv (r:=rv (C0 8 ha (BU hb) 1)) (BE (k:=1) BG Aa CF Aa (AX hf) Aa Aa Aa) (wv (r:=rS (((Af d.fL hb).fOp).fID)) (Cs (enc:=Ad) (ys:=d.fL) (i:=1) (j:=hb) CZ Aa Aa hf Aa) (Bl (ys:=([((Af d.fL hb).fOp).fID]:List Aq)) (enc:=eS) (css:=[[rS (((Af d.fL hb).fOp).fID)]]) (xs:=[.tmp 47]) DX CF Vh Aa Aa Aa ⟨Jm.one Aa (Up.refl _),trivial⟩ Aa EN Aa Aa Aa (λh5=>?_))))))))))));refine ck h3 λh6 h7=>Exists.elim Nx λinf hinf=>Da (xs:=hg) (ys:=([((Af d.fL hb).fOp).fID]:List Aq)) (enc:=eS) (i:=3) DX hinf.1 hinf.2.1 hinf.2.2.1 hinf.2.2.2 Aa Aa Aa Aa Aa (MK.w (i:=0) Aa Aa) EN Lb h6 Aa (λhr=>?_);exact wa Aa (At (AL (BV (H2:=[.blk he [Aj d.fTime,rv ha] 98,.row ha 44 8 (Ap Ad d.fL),.row hr 9 1 (Ap eS (hg++([((Af d.fL hb).fOp).fID]:List Aq))),.row (.slice (some ⟨h5,0,none⟩) 1 1) 9 1 (Ap eS ([((Af d.fL hb).fOp).fID]:List Aq))]) ((Ae (i:=2) Aa).trans (WZ _ ((Ae (i:=2) Aa).trans (WZ _ (Xd _))))) (AC (AA (hg++([((Af d.fL hb).fOp).fID]:List Aq),hr) h7 (AJ.c Aa (AJ.c Aa (AJ.c Aa (AJ.c Aa AJ.nil)))) (sC (sC (sC (sS sN)))))))))
    ·exact A1 (AL (AC (AA (hg,hh) h4 (AJ.c Aa (AJ.c Aa (AJ.c Aa (AJ.c Aa AJ.nil)))) (sC (sC (sC sN))))))
   ·rintro⟨hn,ho⟩ hj;refine BM (l':=[(0,rP he 0),(1,rS e),(5,rv ho),(6,Aj hb)]) (H':=[.blk he [Aj d.fTime,rv ha] 98,.row ha 44 8 (Ap Ad d.fL),.row ho 9 1 (Ap eS hn)]) Aa Aa ?_;replace hj:Eb hb hn=some hm:=hj;unfold Eb at hj;refine Au (wm Aa (ck hj λh8 h9=>wv (B0 Aa Aa h8) (wa Aa (At ?_))));have hA:=Bn h9 hq;exact AC (AA (hx,(hn,hb+1),ho) ⟨hA,Xi _⟩ (AJ.c Aa (AJ.c Aa (AJ.c Aa (AJ.c Aa AJ.nil)))) (sC (sC (sC sN))))
  ·refine By (A4 ?_);have hB:=BQ h0 hq hu;exact A4 (Bi (AA (hg,hh) hB (AJ.c Aa AJ.nil) (sC (sC (sC sN)))))
 ·rintro⟨hp,hk⟩ hl;refine Cy (l':=[(5,rv hk)]) (H':=[.blk he [Aj d.fTime,rv ha] 98,.row ha 44 8 (Ap Ad d.fL),.row hk 9 1 (Ap eS hp)]) Aa Aa ?_;replace hl:EI hp=some r:=hl;unfold EI at hl;refine Bk (AT (An (wm Aa (wa Aa (Ax (A0 (BV (H2:=[.row hk 9 1 (Ap eS hp),.blk he [Aj d.fTime,rv ha] 98,.row ha 44 8 (Ap Ad d.fL)]) ((Ae (i:=2) Aa).trans (WZ _ (Xd _))) ?_)))))));obtain rfl:=A2 hl;exact Az (BI Tryz.results31 (AR Aa)) (sC (sC (sC sN))) ⟨hk,Aa,Aa⟩
theorem J7 (F:Nat)(he:Nat)(ha:Value)(d:Aw)(id:Aq)(r:A8×Bool)(h:GQ F d id=some r):Fn Tryz.prog GE 29 [rP he 0,rS id] [.blk he [Aj d.fTime,rv ha] 98,.row ha 44 8 (Ap Ad d.fL)] (λR H=>R=Dk [Bd (Ao r.1),rB r.2]∧H=[.blk he [Aj d.fTime,rv ha] 98,.row ha 44 8 (Ap Ad d.fL)]):=by
 refine enter (n:=47) Tryz.func29 Aa Tryz.ntmps29 Aa (λw Z=>?_);unfold GQ at h;refine An (B3 (cs:=[Aj 0,rv (.slice none 0 0)]) GL Aa Aa (λb1=>?_));refine wa Aa (Ax (Av (An (wa Aa (Ax (AN (ob h λhk hl hj=>Bv (S:=Nat×(Int)×(Unit)) (V:=(Unit)×(Unit)) 0 (λσ=>BW (λσ=>Ez d id σ) σ.1 σ.2.1=some hk) (λσ=>[(0,rP he 0),(1,rS id),(4,rP b1 0),(6,Aj σ.2.1)]) (λσ=>[.blk b1 [Aj 0,rv (.slice none 0 0)] 31,.blk he [Aj d.fTime,rv ha] 98,.row ha 44 8 (Ap Ad d.fL)]) (λσ=>σ.1) (F,0,()) hl (AJ.c Aa (AJ.c Aa (AJ.c Aa (AJ.c Aa AJ.nil)))) (sC (sC (sC sN))) (λσ=>GZ =some r) (λσ=>[(4,rP b1 0)]) (λσ=>[.blk b1 [Aj 0,rv (.slice none 0 0)] 31,.blk he [Aj d.fTime,rv ha] 98,.row ha 44 8 (Ap Ad d.fL)]) ?_ ?_)))))))
 ·rintro⟨h2,hb,⟨⟩⟩ hm;refine BM (l':=[(0,rP he 0),(1,rS id),(4,rP b1 0),(6,Aj hb)]) (H':=[.blk b1 [Aj 0,rv (.slice none 0 0)] 31,.blk he [Aj d.fTime,rv ha] 98,.row ha 44 8 (Ap Ad d.fL)]) Aa Aa ?_;obtain⟨hn,rfl,ho,hg,hi⟩:=Cz hm;replace hg:Ez d id hb=some ho:=hg;unfold Ez at hg;refine Av (An (wm Aa (wm Aa (wv (AK Aa) (vF D3 Aa Eh (vL 1 Em Aa (wv (Ca (ys:=d.fL) (enc:=Ad) (i:=2) Cn Aa Aa) (wv (C2 Aa Aa) (Ax (cz hg Aa (λhp hq=>?_) (λhp hr=>?_)))))))))))
  ·refine A1 (AT (Av (AN (ck hq λhf hs=>AU [(0,rP he 0),(1,rS id),(4,rP b1 0),(6,Aj hb),(37,rB ((decide ((((Af d.fL hb).fOp).fID)=id))&&(decide (0≤((Af d.fL hb).fTo)))))] [.blk b1 [Aj 0,rv (.slice none 0 0)] 31,.blk he [Aj d.fTime,rv ha] 98,.row ha 44 8 (Ap Ad d.fL)] ?_ ?_))))
   ·refine Au (wm Aa (wv (AK Aa) (vF D3 Aa Eh (vL 1 Em Aa (wm Aa (wv (r:=rv (C0 8 ha (BU hb) 0)) (Cd (i:=2) Cn BL Aa Aa Aa (AX hf)) (wv (r:=rv (C0 8 ha (BU hb) 0)) (BE (k:=2) C3 Aa Cc Aa (AX hf) Aa Aa Aa) (wv (r:=rv (C0 8 ha (BU hb) 1)) (BE (k:=2) BG Aa CF Aa (AX hf) Aa Aa Aa) (wv (r:=rS (((Af d.fL hb).fOp).fID)) (Cs (enc:=Ad) (ys:=d.fL) (i:=2) (j:=hb) CZ Aa Aa hf Aa) (wm Aa (wv (CC Aa Aa) (wm Aa (AY (decide ((((Af d.fL hb).fOp).fID)=id)) (λhd=>?_) (λhd=>?_))))))))))))))
    ·refine wo hd (wm Aa (wo hd (wv (AK Aa) (wo hd (vF D3 Aa Eh (wo hd (vL 1 Em Aa (wo hd (wm Aa (wo hd (wv (r:=rv (C0 8 ha (BU hb) 0)) (Cd (i:=2) Cn BL Aa Aa Aa (AX hf)) (wo hd (wv (r:=rv (C0 8 ha (BU hb) 7)) (BE (k:=2) C3 Aa C1 Aa (AX hf) Aa Aa Aa) (wo hd (wv (r:=Aj ((Af d.fL hb).fTo)) (Cs (enc:=Ad) (ys:=d.fL) (i:=2) (j:=hb) Dm Aa Aa hf Aa) (wo hd (wv (Iq Aa Aa) (EP Aa hd Aa (At ?_)))))))))))))))))));exact Cg hd
    ·refine wf hd (wf hd (wf hd (wf hd (wf hd (wf hd (wf hd (wf hd (wf hd (wv (r:=rB false) (AH Aa hd Aa) (At ?_))))))))));exact Cg hd
   refine cz hs Aa (λht hu=>?_) (λht hw=>?_)
   ·refine An (wm Aa (wv (AK Aa) (vF D3 Aa Eh (vL 1 Em Aa (wm Aa (wv (r:=rv (C0 8 ha (BU hb) 0)) (Cd (i:=2) Cn BL Aa Aa Aa (AX hf)) (wv (r:=rv (C0 8 ha (BU hb) 4)) (BE (k:=2) C3 Aa Bs Aa (AX hf) Aa Aa Aa) (wv (r:=Bd (Ao ((Af d.fL hb).fAnswer))) (IU (enc:=Ad) (ys:=d.fL) (i:=2) (j:=hb) Cw Bs Aa Aa hf Aa Aa) (AF (i:=0) Bs Aa Aa Aa (Be.c Aa) Aa Aa (cs':=[Aj (((Af d.fL hb).fAnswer).fErr),AD 4 (Ap Ab (((Af d.fL hb).fAnswer).fValue))]) Aa (H':=[.blk b1 (Ao ((Af d.fL hb).fAnswer)) 31,.blk he [Aj d.fTime,rv ha] 98,.row ha 44 8 (Ap Ad d.fL)]) Aa (wa Aa (Ax (A0 (A9 (Ah (Ah (Bm ?_))))))))))))))));have hx:=B9 hu hi hj;refine A9 (Ah ?_);obtain rfl:=A2 hx;exact Az (Ix Tryz.results29 (BO (i:=0) Cw Bs Aa Aa Aa) (AR Aa)) (sS (sC (sC sN))) ⟨Aa,Aa⟩
   ·refine A1 (AL (AT (Au (wm Aa (ck hw λhy hz=>wv (B0 Aa Aa hy) (wa Aa (At ?_)))))));have h0:=Bn hz hi;exact AC (AA (hn,hb+1,()) ⟨h0,Xi _⟩ (AJ.c Aa (AJ.c Aa (AJ.c Aa (AJ.c Aa AJ.nil)))) (sC (sC (sC sN))))
  ·refine By (A4 ?_);have h1:=BQ hr hi hj;exact A4 (Bi (AA ((),()) h1 (AJ.c Aa AJ.nil) (sC (sC (sC sN)))))
 ·rintro⟨⟨⟩,⟨⟩⟩ hh;refine Cy (l':=[(4,rP b1 0)]) (H':=[.blk b1 [Aj 0,rv (.slice none 0 0)] 31,.blk he [Aj d.fTime,rv ha] 98,.row ha 44 8 (Ap Ad d.fL)]) Aa Aa ?_;replace hh:GZ =some r:=hh;unfold GZ at hh;refine Bk (AT (An (wv (r:=Bd [Aj 0,rv (.slice none 0 0)]) (Gc ) (AF (i:=0) Bs Aa Aa Aa (Be.c Aa) Aa Aa (cs':=[Aj 0,rv (.slice none 0 0)]) Aa (H':=[.blk b1 [Aj 0,rv (.slice none 0 0)] 31,.blk he [Aj d.fTime,rv ha] 98,.row ha 44 8 (Ap Ad d.fL)]) Aa (wa Aa (Ax (A0 (WK.upBlk (i:=0) (cs':=[Aj 0,AD 4 (Ap Ab ([]:List Ac))]) Aa ⟨Up.refl _,Up.le (Gx.nil _),trivial⟩ ?_))))))));obtain rfl:=A2 hh;exact Az (Ix Tryz.results29 (BO (i:=0) Cw Bs Aa Aa Aa) (AR Aa)) (sS (sC (sC sN))) ⟨Aa,Aa⟩
theorem KJ (F:Nat)(hd:Nat)(hb:Value)(d:Aw)(e:Aq)(r:(List Al))(h:GY F d e=some r):Fn Tryz.prog GE 32 [rP hd 0,rS e] [.blk hd [Aj d.fTime,rv hb] 98,.row hb 44 8 (Ap Ad d.fL)] (λR H=>∃u0:Value,R=rv u0∧H=[.row u0 44 8 (Ap Ad r),.blk hd [Aj d.fTime,rv hb] 98,.row hb 44 8 (Ap Ad d.fL)]):=by
 refine enter (n:=38) Tryz.func32 Aa Tryz.ntmps32 Aa (λw Z=>?_);unfold GY at h;refine An (wa Aa (B4 (wa Aa (Ax (Av (An (wa Aa (Ax (AN (WC.nilrow (e:=44) (sz:=8) (Gy (H2:=[.blk hd [Aj d.fTime,rv hb] 98,.row hb 44 8 (Ap Ad d.fL),.row (.slice none 0 0                                            ) 44 8 (Ap Ad ([]:List Al))]) ((Ae (i:=1) Aa).trans (WZ _ ((Ae (i:=1) Aa).trans (WZ _ (Xd _))))) (ob h λhr hs ht=>Bv (S:=Nat×((List Al)×Int)×(Value)) (V:=((List Al))×(Value)) 0 (λσ=>BW (λσ=>DN d e σ.1 σ.2) σ.1 σ.2.1=some hr) (λσ=>[(0,rP hd 0),(1,rS e),(5,rv σ.2.2),(6,Aj σ.2.1.2)]) (λσ=>[.blk hd [Aj d.fTime,rv hb] 98,.row hb 44 8 (Ap Ad d.fL),.row σ.2.2 44 8 (Ap Ad σ.2.1.1)]) (λσ=>σ.1) (F,(([]:List Al),0),(.slice none 0 0                                            )) hs (AJ.c Aa (AJ.c Aa (AJ.c Aa (AJ.c Aa AJ.nil)))) (sC (sC (sC sN))) (λσ=>GP σ.1=some r) (λσ=>[(5,rv σ.2)]) (λσ=>[.blk hd [Aj d.fTime,rv hb] 98,.row hb 44 8 (Ap Ad d.fL),.row σ.2 44 8 (Ap Ad σ.1)]) ?_ ?_))))))))))))
 ·rintro⟨hB,⟨he,ha⟩,hg⟩ hu;refine BM (l':=[(0,rP hd 0),(1,rS e),(5,rv hg),(6,Aj ha)]) (H':=[.blk hd [Aj d.fTime,rv hb] 98,.row hb 44 8 (Ap Ad d.fL),.row hg 44 8 (Ap Ad he)]) Aa Aa ?_;obtain⟨hw,rfl,hl,hh,hp⟩:=Cz hu;replace hh:DN d e he ha=some hl:=hh;unfold DN at hh;refine Av (An (wm Aa (wm Aa (wv (AK Aa) (vF D3 Aa Eh (vL 0 Em Aa (wv (Ca (ys:=d.fL) (enc:=Ad) (i:=1) Cn Aa Aa) (wv (C2 Aa Aa) (Ax (cz hh Aa (λhx hy=>?_) (λhx hz=>?_)))))))))))
  ·refine A1 (AT (Co (S:=((List Al))×(Value)) (λσ=>Ga ha σ.1=some hl) (λσ=>[(0,rP hd 0),(1,rS e),(5,rv σ.2),(6,Aj ha)]) (λσ=>[.blk hd [Aj d.fTime,rv hb] 98,.row hb 44 8 (Ap Ad d.fL),.row σ.2 44 8 (Ap Ad σ.1)]) ?_ ?_))
   ·refine AN (An (wm Aa (wv (AK Aa) (vF D3 Aa Eh (vL 0 Em Aa (wm Aa (ck hy λhf h0=>wv (r:=rv (C0 8 hb (BU ha) 0)) (Cd (i:=1) Cn BL Aa Aa Aa (AX hf)) (wv (r:=rv (C0 8 hb (BU ha) 0)) (BE (k:=1) C3 Aa Cc Aa (AX hf) Aa Aa Aa) (wv (r:=rv (C0 8 hb (BU ha) 0)) (BE (k:=1) BG Aa CF Aa (AX hf) Aa Aa Aa) (wv (r:=rS (((Af d.fL ha).fOp).fEntity)) (Cs (enc:=Ad) (ys:=d.fL) (i:=1) (j:=ha) CZ Aa Aa hf Aa) (wm Aa (wv (CC Aa Aa) (Ax (cz h0 Aa (λh1 h2=>?_) (λh1 h3=>?_)))))))))))))))
    ·refine Au (wm Aa (wm Aa (wv (AK Aa) (vF D3 Aa Eh (vL 0 Em Aa (wm Aa (wv (r:=rv (C0 8 hb (BU ha) 0)) (Cd (i:=1) Cn BL Aa Aa Aa (AX hf)) (wv (r:=Bd [rS (((Af d.fL ha).fOp).fEntity),rS (((Af d.fL ha).fOp).fID),rS (((Af d.fL ha).fOp).fOp),AD 1 (Ap Ai (((Af d.fL ha).fOp).fArgs)),Aj (((Af d.fL ha).fAnswer).fErr),AD 4 (Ap Ab (((Af d.fL ha).fAnswer).fValue)),Aj ((Af d.fL ha).fFrom),Aj ((Af d.fL ha).fTo)]) (IU (enc:=Ad) (ys:=d.fL) (i:=1) (j:=ha) In BL Aa Aa hf Aa Aa) (Bl (ys:=([(Al.mk ((Af d.fL ha).fOp) ((Af d.fL ha).fAnswer) ((Af d.fL ha).fFrom) ((Af d.fL ha).fTo))]:List Al)) (enc:=Ad) (css:=[[rS (((Af d.fL ha).fOp).fEntity),rS (((Af d.fL ha).fOp).fID),rS (((Af d.fL ha).fOp).fOp),AD 1 (Ap Ai (((Af d.fL ha).fOp).fArgs)),Aj (((Af d.fL ha).fAnswer).fErr),AD 4 (Ap Ab (((Af d.fL ha).fAnswer).fValue)),Aj ((Af d.fL ha).fFrom),Aj ((Af d.fL ha).fTo)]]) (xs:=[.tmp 34]) Cn BL KB Aa Aa Aa ⟨Jm.agg ⟨Up.refl _,Up.refl _,Up.refl _,Up.refl _,Up.refl _,Up.refl _,Up.refl _,Up.refl _,trivial⟩,trivial⟩ Aa CL Aa Aa Aa (λh4=>?_))))))))));refine ck h2 λh5 h6=>Exists.elim Q2 λinf hinf=>Da (xs:=he) (ys:=([(Al.mk ((Af d.fL ha).fOp) ((Af d.fL ha).fAnswer) ((Af d.fL ha).fFrom) ((Af d.fL ha).fTo))]:List Al)) (enc:=Ad) (i:=3) Cn hinf.1 hinf.2.1 hinf.2.2.1 hinf.2.2.2 Aa Aa Aa Aa Aa (MK.w (i:=0) Aa Aa) CL Hq h5 Aa (λhq=>?_);exact wa Aa (At (AL (BV (H2:=[.blk hd [Aj d.fTime,rv hb] 98,.row hb 44 8 (Ap Ad d.fL),.row hq 44 8 (Ap Ad (he++([(Al.mk ((Af d.fL ha).fOp) ((Af d.fL ha).fAnswer) ((Af d.fL ha).fFrom) ((Af d.fL ha).fTo))]:List Al))),.row (.slice (some ⟨h4,0,none⟩) 1 1) 44 8 (Ap Ad ([(Al.mk ((Af d.fL ha).fOp) ((Af d.fL ha).fAnswer) ((Af d.fL ha).fFrom) ((Af d.fL ha).fTo))]:List Al))]) ((Ae (i:=2) Aa).trans (WZ _ ((Ae (i:=2) Aa).trans (WZ _ (Xd _))))) (AC (AA (he++([(Al.mk ((Af d.fL ha).fOp) ((Af d.fL ha).fAnswer) ((Af d.fL ha).fFrom) ((Af d.fL ha).fTo))]:List Al),hq) h6 (AJ.c Aa (AJ.c Aa (AJ.c Aa (AJ.c Aa AJ.nil)))) (sC (sC (sC (sS sN)))))))))
    ·exact A1 (AL (AC (AA (he,hg) h3 (AJ.c Aa (AJ.c Aa (AJ.c Aa (AJ.c Aa AJ.nil)))) (sC (sC (sC sN))))))
   ·rintro⟨hm,hn⟩ hi;refine BM (l':=[(0,rP hd 0),(1,rS e),(5,rv hn),(6,Aj ha)]) (H':=[.blk hd [Aj d.fTime,rv hb] 98,.row hb 44 8 (Ap Ad d.fL),.row hn 44 8 (Ap Ad hm)]) Aa Aa ?_;replace hi:Ga ha hm=some hl:=hi;unfold Ga at hi;refine Au (wm Aa (ck hi λh7 h8=>wv (B0 Aa Aa h7) (wa Aa (At ?_))));have h9:=Bn h8 hp;exact AC (AA (hw,(hm,ha+1),hn) ⟨h9,Xi _⟩ (AJ.c Aa (AJ.c Aa (AJ.c Aa (AJ.c Aa AJ.nil)))) (sC (sC (sC sN))))
  ·refine By (A4 ?_);have hA:=BQ hz hp ht;exact A4 (Bi (AA (he,hg) hA (AJ.c Aa AJ.nil) (sC (sC (sC sN)))))
 ·rintro⟨ho,hj⟩ hk;refine Cy (l':=[(5,rv hj)]) (H':=[.blk hd [Aj d.fTime,rv hb] 98,.row hb 44 8 (Ap Ad d.fL),.row hj 44 8 (Ap Ad ho)]) Aa Aa ?_;replace hk:GP ho=some r:=hk;unfold GP at hk;refine Bk (AT (An (wm Aa (wa Aa (Ax (A0 (BV (H2:=[.row hj 44 8 (Ap Ad ho),.blk hd [Aj d.fTime,rv hb] 98,.row hb 44 8 (Ap Ad d.fL)]) ((Ae (i:=2) Aa).trans (WZ _ (Xd _))) ?_)))))));obtain rfl:=A2 hk;exact Az (BI Tryz.results32 (AR Aa)) (sC (sC (sC sN))) ⟨hj,Aa,Aa⟩
theorem IP (F:Nat)(hd:Nat)(ha:Value)(d:Aw)(r:(List Aq))(h:G2 F d=some r):Fn Tryz.prog GE 33 [rP hd 0] [.blk hd [Aj d.fTime,rv ha] 98,.row ha 44 8 (Ap Ad d.fL)] (λR H=>∃u0:Value,R=rv u0∧H=[.row u0 9 1 (Ap eS r),.blk hd [Aj d.fTime,rv ha] 98,.row ha 44 8 (Ap Ad d.fL)]):=by
 refine enter (n:=41) Tryz.func33 Aa Tryz.ntmps33 Aa (λw Z=>?_);unfold G2 at h;refine An (wa Aa (B4 (wa Aa (Ax (Av (An (wa Aa (Ax (AN (WC.nilrow (e:=9) (sz:=1) (Gy (H2:=[.blk hd [Aj d.fTime,rv ha] 98,.row ha 44 8 (Ap Ad d.fL),.row (.slice none 0 0         ) 9 1 (Ap eS ([]:List Aq))]) ((Ae (i:=1) Aa).trans (WZ _ ((Ae (i:=1) Aa).trans (WZ _ (Xd _))))) (ob h λhu hw hx=>Bv (S:=Nat×((List Aq)×Int)×(Value)) (V:=((List Aq))×(Value)) 0 (λσ=>BW (λσ=>DM F d σ.1 σ.2) σ.1 σ.2.1=some hu) (λσ=>[(0,rP hd 0),(3,rv σ.2.2),(4,Aj σ.2.1.2)]) (λσ=>[.blk hd [Aj d.fTime,rv ha] 98,.row ha 44 8 (Ap Ad d.fL),.row σ.2.2 9 1 (Ap eS σ.2.1.1)]) (λσ=>σ.1) (F,(([]:List Aq),0),(.slice none 0 0         )) hw (AJ.c Aa (AJ.c Aa (AJ.c Aa AJ.nil))) (sC (sC (sC sN))) (λσ=>HO σ.1=some r) (λσ=>[(3,rv σ.2)]) (λσ=>[.blk hd [Aj d.fTime,rv ha] 98,.row ha 44 8 (Ap Ad d.fL),.row σ.2 9 1 (Ap eS σ.1)]) ?_ ?_))))))))))))
 ·rintro⟨hJ,⟨he,hb⟩,hg⟩ hy;refine BM (l':=[(0,rP hd 0),(3,rv hg),(4,Aj hb)]) (H':=[.blk hd [Aj d.fTime,rv ha] 98,.row ha 44 8 (Ap Ad d.fL),.row hg 9 1 (Ap eS he)]) Aa Aa ?_;obtain⟨hz,rfl,hl,hh,hq⟩:=Cz hy;replace hh:DM F d he hb=some hl:=hh;unfold DM at hh;refine Av (An (wm Aa (wm Aa (wv (AK Aa) (vF D3 Aa Eh (vL 0 Em Aa (wv (Ca (ys:=d.fL) (enc:=Ad) (i:=1) Cn Aa Aa) (wv (C2 Aa Aa) (Ax (cz hh Aa (λh0 h1=>?_) (λh0 h2=>?_)))))))))))
  ·refine A1 (AT (Co (S:=((List Aq))×(Value)) (λσ=>EZ hb σ.1=some hl) (λσ=>[(0,rP hd 0),(3,rv σ.2),(4,Aj hb)]) (λσ=>[.blk hd [Aj d.fTime,rv ha] 98,.row ha 44 8 (Ap Ad d.fL),.row σ.2 9 1 (Ap eS σ.1)]) ?_ ?_))
   ·refine AN (An (wm Aa (wm Aa (wv (AK Aa) (vF D3 Aa Eh (vL 0 Em Aa (wm Aa (ck h1 λhf h3=>wv (r:=rv (C0 8 ha (BU hb) 0)) (Cd (i:=1) Cn BL Aa Aa Aa (AX hf)) (wv (r:=rv (C0 8 ha (BU hb) 0)) (BE (k:=1) C3 Aa Cc Aa (AX hf) Aa Aa Aa) (wv (r:=rv (C0 8 ha (BU hb) 0)) (BE (k:=1) BG Aa CF Aa (AX hf) Aa Aa Aa) (wv (r:=rS (((Af d.fL hb).fOp).fEntity)) (Cs (enc:=Ad) (ys:=d.fL) (i:=1) (j:=hb) CZ Aa Aa hf Aa) (ob h3 λh4 h5 h6=>ER (Hr:=[.blk hd [Aj d.fTime,rv ha] 98,.row ha 44 8 (Ap Ad d.fL)]) Tryz.call52 (UO F hg he (((Af d.fL hb).fOp).fEntity) h4 h5) Aa ((Ae (i:=2) Aa).trans (WZ _ (Xd _))) Aa ?_))))))))))));rintro _ _ ⟨rfl,rfl⟩;refine wv (B8 Aa) (Ax (cz h6 Aa (λh7 h8=>?_) (λh7 h9=>?_)))
    ·refine An (wm Aa (wm Aa (wv (AK Aa) (vF D3 Aa Eh (vL 1 Em Aa (wm Aa (wv (r:=rv (C0 8 ha (BU hb) 0)) (Cd (i:=2) Cn BL Aa Aa Aa (AX hf)) (wv (r:=rv (C0 8 ha (BU hb) 0)) (BE (k:=2) C3 Aa Cc Aa (AX hf) Aa Aa Aa) (wv (r:=rv (C0 8 ha (BU hb) 0)) (BE (k:=2) BG Aa CF Aa (AX hf) Aa Aa Aa) (wv (r:=rS (((Af d.fL hb).fOp).fEntity)) (Cs (enc:=Ad) (ys:=d.fL) (i:=2) (j:=hb) CZ Aa Aa hf Aa) (Bl (ys:=([((Af d.fL hb).fOp).fEntity]:List Aq)) (enc:=eS) (css:=[[rS (((Af d.fL hb).fOp).fEntity)]]) (xs:=[.tmp 35]) DX CF Vh Aa Aa Aa ⟨Jm.one Aa (Up.refl _),trivial⟩ Aa EN Aa Aa Aa (λhr=>?_))))))))))));refine ck h8 λhA hB=>Exists.elim Nx λinf hinf=>Da (xs:=he) (ys:=([((Af d.fL hb).fOp).fEntity]:List Aq)) (enc:=eS) (i:=1) DX hinf.1 hinf.2.1 hinf.2.2.1 hinf.2.2.2 Aa Aa Aa Aa Aa (MK.w (i:=0) Aa Aa) EN Lb hA Aa (λhs=>?_);refine wa Aa (Ax (Au (wm Aa (ob hB λhm hC hD=>ER (Hr:=[.row (.slice (some ⟨hr,0,none⟩) 1 1) 9 1 (Ap eS ([((Af d.fL hb).fOp).fEntity]:List Aq)),.blk hd [Aj d.fTime,rv ha] 98,.row ha 44 8 (Ap Ad d.fL)]) Tryz.call53 (Q3 F hs (he++([((Af d.fL hb).fOp).fEntity]:List Aq)) hm hC) Aa (Xd _) Aa ?_))));rintro _ _ ⟨ht,rfl,rfl⟩;exact wa Aa (At (AL (BV (H2:=[.blk hd [Aj d.fTime,rv ha] 98,.row ha 44 8 (Ap Ad d.fL),.row ht 9 1 (Ap eS hm),.row hs 9 1 (Ap eS (he++([((Af d.fL hb).fOp).fEntity]:List Aq))),.row (.slice (some ⟨hr,0,none⟩) 1 1) 9 1 (Ap eS ([((Af d.fL hb).fOp).fEntity]:List Aq))]) ((Ae (i:=3) Aa).trans (WZ _ ((Ae (i:=3) Aa).trans (WZ _ (Xd _))))) (AC (AA (hm,ht) hD (AJ.c Aa (AJ.c Aa (AJ.c Aa AJ.nil))) (sC (sC (sC (sS (sS sN))))))))))
    ·exact A1 (AL (BV (H2:=[.blk hd [Aj d.fTime,rv ha] 98,.row ha 44 8 (Ap Ad d.fL),.row hg 9 1 (Ap eS he)]) ((Ae (i:=1) Aa).trans (WZ _ ((Ae (i:=1) Aa).trans (WZ _ (Xd _))))) (AC (AA (he,hg) h9 (AJ.c Aa (AJ.c Aa (AJ.c Aa AJ.nil))) (sC (sC (sC sN)))))))
   ·rintro⟨hn,ho⟩ hi;refine BM (l':=[(0,rP hd 0),(3,rv ho),(4,Aj hb)]) (H':=[.blk hd [Aj d.fTime,rv ha] 98,.row ha 44 8 (Ap Ad d.fL),.row ho 9 1 (Ap eS hn)]) Aa Aa ?_;replace hi:EZ hb hn=some hl:=hi;unfold EZ at hi;refine Au (wm Aa (ck hi λhE hG=>wv (B0 Aa Aa hE) (wa Aa (At ?_))));have hH:=Bn hG hq;exact AC (AA (hz,(hn,hb+1),ho) ⟨hH,Xi _⟩ (AJ.c Aa (AJ.c Aa (AJ.c Aa AJ.nil))) (sC (sC (sC sN))))
  ·refine By (A4 ?_);have hI:=BQ h2 hq hx;exact A4 (Bi (AA (he,hg) hI (AJ.c Aa AJ.nil) (sC (sC (sC sN)))))
 ·rintro⟨hp,hj⟩ hk;refine Cy (l':=[(3,rv hj)]) (H':=[.blk hd [Aj d.fTime,rv ha] 98,.row ha 44 8 (Ap Ad d.fL),.row hj 9 1 (Ap eS hp)]) Aa Aa ?_;replace hk:HO hp=some r:=hk;unfold HO at hk;refine Bk (AT (An (wm Aa (wa Aa (Ax (A0 (BV (H2:=[.row hj 9 1 (Ap eS hp),.blk hd [Aj d.fTime,rv ha] 98,.row ha 44 8 (Ap Ad d.fL)]) ((Ae (i:=2) Aa).trans (WZ _ (Xd _))) ?_)))))));obtain rfl:=A2 hk;exact Az (BI Tryz.results33 (AR Aa)) (sC (sC (sC sN))) ⟨hj,Aa,Aa⟩
theorem Qh (F:Nat)(hb:Nat)(ha:Value)(d:Aw)(op:A6)(now:Int)(r:Int×Aw)(h:DL F d op now=some r):Fn Tryz.prog GE 26 [rP hb 0,Bd (Am op),Aj now] [.blk hb [Aj d.fTime,rv ha] 98,.row ha 44 8 (Ap Ad d.fL)] (λR H=>∃w0_1:Value,R=Aj r.1∧H=[.blk hb [Aj r.2.fTime,rv w0_1] 98,.row w0_1 44 8 (Ap Ad r.2.fL)]):=by
 refine enter (n:=110) Tryz.func26 Aa Tryz.ntmps26 Aa (λw Z=>?_);unfold DL at h;refine An (BH Aa Aa (λb1=>?_));refine wa Aa (B4 (wv (Bf (i:=0) Es Cc Aa Aa Aa Aa) (ob h λr2 e4 h3=>Cl Tryz.call40 (Mg F op r2 e4) Aa (wa Aa (Ax (Av (An (wm Aa (wv (Dp Aa Aa) (Ax (cz h3 Aa (λc5 h6=>?_) (λc5 h7=>?_))))))))))))
 ·refine An (wm Aa (wa Aa (Ax (A0 (Ah ?_)))));obtain rfl:=A2 h6;exact Az (BI PT (AR Aa)) (sS (sC (sC sN))) ⟨ha,Aa,Aa⟩
 ·refine A1 (AT (Av (AU [(0,rP hb 0),(2,Aj now),(4,rP b1 0),(20,rB ((decide (now<0))||(decide (1073741824<now))))] [.blk b1 (Am op) 25,.blk hb [Aj d.fTime,rv ha] 98,.row ha 44 8 (Ap Ad d.fL)] ?_ ?_)))
  ·refine Au (wm Aa (wv (C2 Aa Aa) (wm Aa (AY (decide (now<0)) (λc8=>?_) (λc8=>?_)))))
   ·refine wf c8 (wf c8 (wv (r:=rB true) (Ar Aa c8 Aa) (At ?_)));exact Cg c8
   ·refine wo c8 (wm Aa (wo c8 (wv (DQ Aa Aa) (DB Aa c8 Aa (At ?_)))));exact Cg c8
  refine cz h7 Aa (λc9 hw=>?_) (λc9 hx=>?_)
  ·refine An (wa Aa (Ax (A0 (Ah ?_))));obtain rfl:=A2 hw;exact Az (BI PT (AR Aa)) (sS (sC (sC sN))) ⟨ha,Aa,Aa⟩
  ·refine A1 (AT (Av (An (wm Aa (wm Aa (wv (AK Aa) (vF D3 Aa C1 (vL 1 Dm Aa (wv (C2 Aa Aa) (Ax (cz hx Aa (λhy hz=>?_) (λhy h0=>?_))))))))))))
   ·refine An (wa Aa (Ax (A0 (Ah ?_))));obtain rfl:=A2 hz;exact Az (BI PT (AR Aa)) (sS (sC (sC sN))) ⟨ha,Aa,Aa⟩
   ·refine A1 (AT (An (wa Aa (Ax (Av (An (wa Aa (Ax (AN (ob h0 λh1 h2 hq=>Bv (S:=Nat×(Bool×Int)×(Unit)) (V:=(Bool)×(Unit)) 0 (λσ=>BW (λσ=>Cq F d op now σ.1 σ.2) σ.1 σ.2.1=some h1) (λσ=>[(0,rP hb 0),(2,Aj now),(4,rP b1 0),(8,rB σ.2.1.1),(9,Aj σ.2.1.2)]) (λσ=>[.blk b1 (Am op) 25,.blk hb [Aj d.fTime,rv ha] 98,.row ha 44 8 (Ap Ad d.fL)]) (λσ=>σ.1) (F,(false,0),()) h2 (AJ.c5 Aa Aa Aa Aa Aa AJ.nil) (sC (sC (sC sN))) (λσ=>Gk F d op now σ.1=some r) (λσ=>[(0,rP hb 0),(2,Aj now),(4,rP b1 0),(8,rB σ.1)]) (λσ=>[.blk b1 (Am op) 25,.blk hb [Aj d.fTime,rv ha] 98,.row ha 44 8 (Ap Ad d.fL)]) ?_ ?_))))))))))
    ·rintro⟨gh,⟨he,hd⟩,⟨⟩⟩ h4;refine BM (l':=[(0,rP hb 0),(2,Aj now),(4,rP b1 0),(8,rB he),(9,Aj hd)]) (H':=[.blk b1 (Am op) 25,.blk hb [Aj d.fTime,rv ha] 98,.row ha 44 8 (Ap Ad d.fL)]) Aa Aa ?_;obtain⟨h5,rfl,hr,hk,hl⟩:=Cz h4;replace hk:Cq F d op now he hd=some hr:=hk;unfold Cq at hk;refine Av (An (wm Aa (wm Aa (wv (AK Aa) (vF D3 Aa Eh (vL 1 Em Aa (wv (Ca (ys:=d.fL) (enc:=Ad) (i:=2) Cn Aa Aa) (wv (C2 Aa Aa) (Ax (cz hk Aa (λh8 h9=>?_) (λh8 hA=>?_)))))))))))
     ·refine A1 (AT (Co (S:=(Bool)×(Unit)) (λσ=>DK hd σ.1=some hr) (λσ=>[(0,rP hb 0),(2,Aj now),(4,rP b1 0),(8,rB σ.1),(9,Aj hd)]) (λσ=>[.blk b1 (Am op) 25,.blk hb [Aj d.fTime,rv ha] 98,.row ha 44 8 (Ap Ad d.fL)]) ?_ ?_))
      ·refine AN (Av (Av (ck h9 λhi hB=>Df [0,2,4,8,9] [⟨[],rP hb 0,0⟩,⟨[0],rP hb 0,0⟩,⟨[1],rP hb 1,0⟩,⟨[2],rv ha,1⟩,⟨[],Aj hd,0⟩,⟨[3,4],rv (C0 8 ha (BU hd) 0),1⟩,⟨[5],rv (C0 8 ha (BU hd) 0),1⟩,⟨[6],rv (C0 8 ha (BU hd) 1),1⟩,⟨[7],rS (((Af d.fL hd).fOp).fID),1⟩,⟨[],rP b1 1,0⟩,⟨[9],rS op.fID,1⟩,⟨[8,10],rB (decide ((((Af d.fL hd).fOp).fID)=op.fID)),0⟩] [47,0,2,4,8,9] ?_ ?_)))
       ·refine oq (Ay Aa) (oq (AK Aa) (oq (AS D3 Aa Eh Aa Aa) (of (B1 (i:=1) Em Aa Aa Aa) (oq (Ay Aa) (of (Cd (i:=2) Cn BL Aa Aa Aa (AX hi)) (of (BE (k:=2) C3 Aa Cc Aa (AX hi) Aa Aa Aa) (of (BE (k:=2) BG Aa CF Aa (AX hi) Aa Aa Aa) (of (Cs (enc:=Ad) (ys:=d.fL) (i:=2) (j:=hd) CZ Aa Aa hi Aa) (oq (AS BG Aa CF Aa Aa) (of (B1 (i:=0) CZ Aa Aa Aa) (oq (CC Aa Aa) ?_)))))))))));exact Di
       refine AT (cz hB Aa (λhC hD=>?_) (λhC hE=>?_))
       ·refine Av (Av (Cu 9 [0,2,4,9] [⟨[],rP hb 0,none,none,none⟩,⟨[0],rP hb 0,none,none,none⟩,⟨[1],rP hb 1,none,none,none⟩,⟨[2],rv ha,none,none,none⟩,⟨[],Aj hd,none,none,none⟩,⟨[3,4],rv (C0 8 ha (BU hd) 0),none,none,none⟩,⟨[5],rv (C0 8 ha (BU hd) 0),none,none,none⟩,⟨[6],Bd (Am ((Af d.fL hd).fOp)),none,none,none⟩,⟨[],Bd (Am op),none,none,none⟩] ?_ (λβ=>?_)))
        ·refine C5 (Ay Aa) (C5 (AK Aa) (C5 (AS D3 Aa Eh Aa Aa) (Ii (B1 (i:=1) Em Aa Aa Aa) (C5 (Ay Aa) (Ii (Cd (i:=2) Cn BL Aa Aa Aa (AX hi)) (Ii (BE (k:=2) C3 Aa Cc Aa (AX hi) Aa Aa Aa) (Ii (IU (enc:=Ad) (ys:=d.fL) (i:=2) (j:=hd) Es Cc Aa Aa hi Aa Aa) (Ii (Bf (i:=0) Es Cc Aa Aa Aa Aa) ?_))))))));exact Ml
        refine C4 (H1:=[.blk b1 (Am op) 25,.blk hb [Aj d.fTime,rv ha] 98,.row ha 44 8 (Ap Ad d.fL)]) [48,49,50,51,52,53,54,55,56,0,2,4,9] ?_;refine ob hD λhG hH hI=>Cl SG (H3 F ((Af d.fL hd).fOp) op hG hH) Aa (wv (B8 Aa) (Ax (cz hI Aa (λhJ hK=>?_) (λhJ hL=>?_))))
        ·refine An (wa Aa (Ax (A0 (Ah (Ah (A9 (Ah (Ah (Bm ?_)))))))));have hN:=B9 hK hl hq;refine A9 (Ah ?_);obtain rfl:=A2 hN;exact Az (BI PT (AR Aa)) (sS (sC (sC sN))) ⟨ha,Aa,Aa⟩
        ·refine A1 (AT (An (wm Aa (wm Aa (wv (AK Aa) (vF D3 Aa C1 (Cm (i:=1) C1 Aa Aa (C7 Aa) Aa Aa (cs':=[Aj now,rv ha]) Aa (H':=[.blk b1 (Am op) 25,.blk hb [Aj now,rv ha] 98,.row ha 44 8 (Ap Ad d.fL)]) Aa (B4 (wa Aa (Ax (A0 (Ah (A9 (Ah (Ah (Bm ?_))))))))))))))));have hO:=B9 hL hl hq;refine A9 (Ah ?_);obtain rfl:=A2 hO;exact Az (BI PT (AR Aa)) (sS (sC (sC sN))) ⟨ha,Aa,Aa⟩
       ·refine A1 (AT (bz hE (λhf hP=>?_) (λhf hQ=>?_)))
        ·refine PW 13 [] [0,2,4,8,9] [] [{ deps:=[],r:=λ_=>rB he },{ deps:=[0],r:=λ_=>rB he },{ deps:=[1],r:=λ_=>rv undef },{ deps:=[2,1],r:=λ_=>rv undef },{ deps:=[3,1],r:=λ_=>rv undef },{ deps:=[4,1],r:=λ_=>rv undef },{ deps:=[1],r:=λ_=>rv undef },{ deps:=[5,6,1],r:=λ_=>rv undef },{ deps:=[7,1],r:=λ_=>rv undef },{ deps:=[8,1],r:=λ_=>rv undef },{ deps:=[9,1],r:=λ_=>rv undef },{ deps:=[1],r:=λ_=>rv undef },{ deps:=[11,1],r:=λ_=>rv undef }] [λ_=>[.blk b1 (Am op) 25,.blk hb [Aj d.fTime,rv ha] 98,.row ha 44 8 (Ap Ad d.fL)]] ⟨Io,Io,Io,Io,Io,Io,Io,Io,Io,Io,Io,Io,Io,trivial⟩ ?_ (λu=>?_)
         ·exact Lo (fun {u _}=>CU (Ay Aa)) (Lo (fun {u _}=>CU (Ay Aa)) (Lo (fun {u _}=>CY (b:=he) Aa Aa hf) (Lo (fun {u _}=>CY (b:=he) Aa Aa hf) (Lo (fun {u _}=>CY (b:=he) Aa Aa hf) (Lo (fun {u _}=>CY (b:=he) Aa Aa hf) (Lo (fun {u _}=>CY (b:=he) Aa Aa hf) (Lo (fun {u _}=>CY (b:=he) Aa Aa hf) (Lo (fun {u _}=>CY (b:=he) Aa Aa hf) (Lo (fun {u _}=>CY (b:=he) Aa Aa hf) (Lo (fun {u _}=>CY (b:=he) Aa Aa hf) (Lo (fun {u _}=>CY (b:=he) Aa Aa hf) (Lo (fun {u _}=>CY (b:=he) Aa Aa hf) (W3)))))))))))))
         refine C4 (H1:=[.blk b1 (Am op) 25,.blk hb [Aj d.fTime,rv ha] 98,.row ha 44 8 (Ap Ad d.fL)]) [63,64,65,66,67,68,69,70,71,72,73,74,75,0,2,4,8,9] ?_;exact wf hf (wv (r:=rB true) (Ar Aa hf Aa) (wa Aa (At (AL (AC (AA (true,()) hP (AJ.c5 Aa Aa Aa Aa Aa AJ.nil) (sC (sC (sC sN)))))))))
        ·refine PW 13 [] [0,2,4,8,9] [] [{ deps:=[],r:=λ_=>rB he },{ deps:=[0],r:=λ_=>rB he },{ deps:=[1],r:=λ_=>rP hb 0 },{ deps:=[2,1],r:=λ_=>rP hb 0 },{ deps:=[3,1],r:=λ_=>rP hb 1 },{ deps:=[4,1],r:=λ_=>rv ha,fx:=true },{ deps:=[1],r:=λ_=>Aj hd },{ deps:=[5,6,1],r:=λ_=>rv (C0 8 ha (BU hd) 0),fx:=true },{ deps:=[7,1],r:=λ_=>rv (C0 8 ha (BU hd) 0),fx:=true },{ deps:=[8,1],r:=λ_=>rv (C0 8 ha (BU hd) 0),fx:=true },{ deps:=[9,1],r:=λ_=>rS (((Af d.fL hd).fOp).fEntity),fx:=true },{ deps:=[1],r:=λ_=>rP b1 0 },{ deps:=[11,1],r:=λ_=>rS op.fEntity,fx:=true }] [λ_=>[.blk b1 (Am op) 25,.blk hb [Aj d.fTime,rv ha] 98,.row ha 44 8 (Ap Ad d.fL)]] ⟨Io,Io,Io,Io,Io,Io,Io,Io,Io,Io,Io,Io,Io,trivial⟩ ?_ (λu=>?_)
         ·exact Lo (fun {u _}=>CU (Ay Aa)) (Lo (fun {u _}=>CU (Ay Aa)) (Lo (fun {u _}=>Dh (b:=he) Aa Aa hf (CU (Ay Aa))) (Lo (fun {u _}=>Dh (b:=he) Aa Aa hf (CU (AK Aa))) (Lo (fun {u _}=>Dh (b:=he) Aa Aa hf (CU (AS D3 Aa Eh Aa Aa))) (Vj (fun {u}=>Dh (b:=he) Aa Aa hf (CU (B1 (i:=1) Em Aa Aa Aa))) (Lo (fun {u _}=>Dh (b:=he) Aa Aa hf (CU (Ay Aa))) (Vj (fun {u}=>Dh (b:=he) Aa Aa hf (CU (r:=rv (C0 8 ha (BU hd) 0)) (Cd (i:=2) Cn BL Aa Aa Aa (AX hi)))) (Vj (fun {u}=>Dh (b:=he) Aa Aa hf (CU (r:=rv (C0 8 ha (BU hd) 0)) (BE (k:=2) C3 Aa Cc Aa (AX hi) Aa Aa Aa))) (Vj (fun {u}=>Dh (b:=he) Aa Aa hf (CU (r:=rv (C0 8 ha (BU hd) 0)) (BE (k:=2) BG Aa CF Aa (AX hi) Aa Aa Aa))) (Vj (fun {u}=>Dh (b:=he) Aa Aa hf (CU (r:=rS (((Af d.fL hd).fOp).fEntity)) (Cs (enc:=Ad) (ys:=d.fL) (i:=2) (j:=hd) CZ Aa Aa hi Aa))) (Lo (fun {u _}=>Dh (b:=he) Aa Aa hf (CU (AS BG Aa CF Aa Aa))) (Vj (fun {u}=>Dh (b:=he) Aa Aa hf (CU (B1 (i:=0) CZ Aa Aa Aa))) (W3)))))))))))))
         refine C4 (H1:=[.blk b1 (Am op) 25,.blk hb [Aj d.fTime,rv ha] 98,.row ha 44 8 (Ap Ad d.fL)]) [63,64,65,66,67,68,69,70,71,72,73,74,75,0,2,4,8,9] ?_;exact wo hf (wv (CC Aa Aa) (DB Aa hf Aa (wa Aa (At (AL (AC (AA (decide ((((Af d.fL hd).fOp).fEntity)=op.fEntity),()) hQ (AJ.c5 Aa Aa Aa Aa Aa AJ.nil) (sC (sC (sC sN))))))))))
      ·rintro⟨hs,⟨⟩⟩ hm;refine BM (l':=[(0,rP hb 0),(2,Aj now),(4,rP b1 0),(8,rB hs),(9,Aj hd)]) (H':=[.blk b1 (Am op) 25,.blk hb [Aj d.fTime,rv ha] 98,.row ha 44 8 (Ap Ad d.fL)]) Aa Aa ?_;replace hm:DK hd hs=some hr:=hm;unfold DK at hm;refine Au (wm Aa (ck hm λhR hS=>wv (B0 Aa Aa hR) (wa Aa (At ?_))));have hT:=Bn hS hl;exact AC (AA (h5,(hs,hd+1),()) ⟨hT,Xi _⟩ (AJ.c5 Aa Aa Aa Aa Aa AJ.nil) (sC (sC (sC sN))))
     ·refine By (A4 ?_);have hU:=BQ hA hl hq;exact A4 (Bi (AA (he,()) hU (AJ.c Aa (AJ.c Aa (AJ.c Aa (AJ.c Aa AJ.nil)))) (sC (sC (sC sN)))))
    ·rintro⟨ht,⟨⟩⟩ hn;refine Cy (l':=[(0,rP hb 0),(2,Aj now),(4,rP b1 0),(8,rB ht)]) (H':=[.blk b1 (Am op) 25,.blk hb [Aj d.fTime,rv ha] 98,.row ha 44 8 (Ap Ad d.fL)]) Aa Aa ?_;replace hn:Gk F d op now ht=some r:=hn;unfold Gk at hn;refine Bk (AT (Av (Co (S:=(Bool)×(Unit)) (λσ=>DJ d op now σ.1=some r) (λσ=>[(0,rP hb 0),(2,Aj now),(4,rP b1 0),(93,rB σ.1)]) (λσ=>[.blk b1 (Am op) 25,.blk hb [Aj d.fTime,rv ha] 98,.row ha 44 8 (Ap Ad d.fL)]) ?_ ?_)))
     ·refine Au (wm Aa (wv (AK Aa) (vF D3 Aa Eh (vL 1 Em Aa (wv (Ca (ys:=d.fL) (enc:=Ad) (i:=2) Cn Aa Aa) (wv (Iq Aa Aa) (wm Aa (bz hn (λhh hV=>?_) (λhh hW=>?_)))))))))
      ·exact wf hh (wf hh (wf hh (wu (wu (wu (wu (wf hh (wv (r:=rB true) (Ar Aa hh Aa) (At (AC (AA (true,()) hV (AJ.c Aa (AJ.c Aa (AJ.c Aa (AJ.c Aa AJ.nil)))) (sC (sC (sC sN))))))))))))))
      ·refine wo hh (wm Aa (wo hh (wv (B8 Aa) (wo hh (wm Aa (bz hW (λhj hX=>?_) (λhj hY=>?_)))))))
       ·refine wo hj (wm Aa (wo hj (ob hX λho hZ ga=>ER (Hr:=[.blk b1 (Am op) 25]) Tryz.call33 (IP F hb ha d ho hZ) Aa ((Ae (i:=1) Aa).trans (WZ _ ((Ae (i:=1) Aa).trans (WZ _ (Xd _))))) Aa ?_)));rintro _ _ ⟨gb,rfl,rfl⟩;exact wo hj (wv (Ca (ys:=ho) (enc:=eS) (i:=0) DX Aa Aa) (wo hj (wv (Iq Aa Aa) (wo hh (EP Aa hj Aa (DB Aa hh Aa (At (BV (H2:=[.blk b1 (Am op) 25,.blk hb [Aj d.fTime,rv ha] 98,.row ha 44 8 (Ap Ad d.fL),.row gb 9 1 (Ap eS ho)]) ((Ae (i:=3) Aa).trans (WZ _ ((Ae (i:=1) Aa).trans (WZ _ ((Ae (i:=1) Aa).trans (WZ _ (Xd _))))))) (AC (AA (decide (256≤(ho.length:Int)),()) ga (AJ.c Aa (AJ.c Aa (AJ.c Aa (AJ.c Aa AJ.nil)))) (sC (sC (sC (sS sN))))))))))))))
       ·exact wf hj (wf hj (wf hj (wf hj (wo hh (wv (r:=rB false) (AH Aa hj Aa) (DB Aa hh Aa (At (AC (AA (false,()) hY (AJ.c Aa (AJ.c Aa (AJ.c Aa (AJ.c Aa AJ.nil)))) (sC (sC (sC sN))))))))))))
     ·rintro⟨hu,⟨⟩⟩ hp;refine BM (l':=[(0,rP hb 0),(2,Aj now),(4,rP b1 0),(93,rB hu)]) (H':=[.blk b1 (Am op) 25,.blk hb [Aj d.fTime,rv ha] 98,.row ha 44 8 (Ap Ad d.fL)]) Aa Aa ?_;replace hp:DJ d op now hu=some r:=hp;unfold DJ at hp;refine cz hp Aa (λgc gd=>?_) (λgc ge=>?_)
      ·refine An (wa Aa (Ax (A0 (Ah ?_))));obtain rfl:=A2 gd;exact Az (BI PT (AR Aa)) (sS (sC (sC sN))) ⟨ha,Aa,Aa⟩
      ·refine A1 (AT (An (wm Aa (wm Aa (wv (AK Aa) (vF D3 Aa C1 (Cm (i:=1) C1 Aa Aa (C7 Aa) Aa Aa (cs':=[Aj now,rv ha]) Aa (H':=[.blk b1 (Am op) 25,.blk hb [Aj now,rv ha] 98,.row ha 44 8 (Ap Ad d.fL)]) Aa (Ax (Av (ck ge λgf gg=>Exists.elim Q2 λinf hinf=>Vv 10 9 [0,2,4] [] [{ deps:=[],r:=λ_=>rP hb 0 },{ deps:=[],r:=λ_=>rP hb 0 },{ deps:=[1],r:=λ_=>rP hb 0 },{ deps:=[2],r:=λ_=>rP hb 1 },{ deps:=[3],r:=λ_=>rv ha },{ deps:=[],r:=λ_=>Bd (Am op) },{ deps:=[],r:=λ_=>Aj now },{ deps:=[5,6],r:=λ_=>Bd [rS op.fEntity,rS op.fID,rS op.fOp,AD 1 (Ap Ai op.fArgs),Aj 0,rv (.slice none 0 0),Aj now,Aj (-1)] },{ deps:=[7],r:=λ_=>AD 8 (Ap Ad ([(Al.mk op (A8.mk 0 ([]:List Ac)) now (-1))]:List Al)) },{ deps:=[4,8],r:=λhg=>rv hg,dyn:=true }] (λhg=>[.row hg 44 8 (Ap Ad (d.fL++([(Al.mk op (A8.mk 0 ([]:List Ac)) now (-1))]:List Al))),.blk b1 (Am op) 25,.blk hb [Aj now,rv ha] 98]) ?_ (λhg=>?_)))))))))))
       ·refine VN (Ay Aa) (VN (Ay Aa) (VN (AK Aa) (VN (AS D3 Aa Eh Aa Aa) (WP (fun {hg}=>CU (B1 (i:=1) Em Aa Aa Aa)) (fun {hg}=>CU (B1 (i:=2) Em Aa Aa Aa)) (WP (fun {hg}=>CU (Bf (i:=0) Es Cc Aa Aa Aa Aa)) (fun {hg}=>CU (Bf (i:=1) Es Cc Aa Aa Aa Aa)) (VN (Ay Aa) (VN (Gq Aa Aa Aa Aa Aa) (WV (Js (ys:=([(Al.mk op (A8.mk 0 ([]:List Ac)) now (-1))]:List Al)) (enc:=Ad) (css:=[[rS op.fEntity,rS op.fID,rS op.fOp,AD 1 (Ap Ai op.fArgs),Aj 0,AD 4 (Ap Ab ([]:List Ac)),Aj now,Aj (-1)]]) (xs:=[.tmp 105]) Cn BL KB Aa Aa Aa ⟨Jm.agg ⟨Up.refl _,Up.refl _,Up.refl _,Up.refl _,Up.refl _,Up.le (Gx.nil _),Up.refl _,Up.refl _,trivial⟩,trivial⟩ Aa CL Aa Aa) (WT (SJ (xs:=d.fL) (ys:=([(Al.mk op (A8.mk 0 ([]:List Ac)) now (-1))]:List Al)) (enc:=Ad) (i:=2) Cn hinf.1 hinf.2.1 hinf.2.2.1 hinf.2.2.2 Aa Aa Aa Aa Aa (MK.z Aa Aa) CL Hq gf) ?_)))))))));exact WU
       refine C4 (H1:=[.row hg 44 8 (Ap Ad (d.fL++([(Al.mk op (A8.mk 0 ([]:List Ac)) now (-1))]:List Al))),.blk b1 (Am op) 25,.blk hb [Aj now,rv ha] 98]) [98,99,100,101,102,103,104,105,106,107,0,2,4] ?_;refine wv (AK Aa) (vF D3 Aa Eh (Cm (i:=2) Eh Aa Aa (IT (i:=0) Aa) Aa Aa (cs':=[Aj now,rv hg]) Aa (H':=[.row hg 44 8 (Ap Ad (d.fL++([(Al.mk op (A8.mk 0 ([]:List Ac)) now (-1))]:List Al))),.blk b1 (Am op) 25,.blk hb [Aj now,rv hg] 98]) Aa (B4 (wa Aa (Ax (A0 (BV (H2:=[.blk hb [Aj now,rv hg] 98,.row hg 44 8 (Ap Ad (d.fL++([(Al.mk op (A8.mk 0 ([]:List Ac)) now (-1))]:List Al))),.blk b1 (Am op) 25]) ((Ae (i:=2) Aa).trans (WZ _ (Xd _))) ?_)))))));obtain rfl:=A2 gg;exact Az (BI PT (AR Aa)) (sC (sC (sS sN))) ⟨hg,Aa,Aa⟩
theorem Tg (F:Nat)(he:Nat)(hb:Value)(d:Aw)(e:Aq)(now:Int)(r:Al×Bool×Aw)(h:Hl F d e now=some r):Fn Tryz.prog GE 27 [rP he 0,rS e,Aj now] [.blk he [Aj d.fTime,rv hb] 98,.row hb 44 8 (Ap Ad d.fL)] (λR H=>∃w0_1:Value,R=Dk [Bd (Ad r.1),rB r.2.1]∧H=[.blk he [Aj r.2.2.fTime,rv w0_1] 98,.row w0_1 44 8 (Ap Ad r.2.2.fL)]):=by
 refine enter (n:=104) Tryz.func27 Aa Tryz.ntmps27 Aa (λw Z=>?_);unfold Hl at h;refine An (B3 (cs:=[rS ([]:Aq),rS ([]:Aq),rS ([]:Aq),rv (.slice none 0 0),Aj 0,rv (.slice none 0 0),Aj 0,Aj 0]) KB Aa Aa (λb1=>?_));refine wa Aa (Ax (Av (AU [(0,rP he 0),(1,rS e),(2,Aj now),(6,rP b1 0),(26,rB ((decide (now<0))||((decide (1073741824<now))||(decide (now<d.fTime)))))] [.blk b1 [rS ([]:Aq),rS ([]:Aq),rS ([]:Aq),rv (.slice none 0 0),Aj 0,rv (.slice none 0 0),Aj 0,Aj 0] 44,.blk he [Aj d.fTime,rv hb] 98,.row hb 44 8 (Ap Ad d.fL)] ?_ ?_)))
 ·refine Au (wm Aa (wv (C2 Aa Aa) (wm Aa (AY (decide (now<0)) (λc2=>?_) (λc2=>?_)))))
  ·refine wf c2 (wf c2 (wv (r:=rB true) (Ar Aa c2 Aa) (wm Aa (wz Aa Aa (wz Aa Aa (wz Aa Aa (wz Aa Aa (wz Aa Aa (wz Aa Aa (wv (r:=rB true) (Ar (b:=true) Aa Aa Aa) (At ?_)))))))))));exact Cg c2
  ·refine wo c2 (wm Aa (wo c2 (wv (DQ Aa Aa) (DB Aa c2 Aa (wm Aa (AY (decide (1073741824<now)) (λc3=>?_) (λc3=>?_)))))))
   ·refine wf c3 (wf c3 (wf c3 (wf c3 (wf c3 (wf c3 (wv (r:=rB true) (Ar Aa c3 Aa) (At ?_)))))));exact Cg (And.intro c2 c3)
   ·refine wo c3 (wm Aa (wo c3 (wm Aa (wo c3 (wv (AK Aa) (wo c3 (vF D3 Aa C1 (wo c3 (vL 1 Dm Aa (wo c3 (wv (C2 Aa Aa) (DB Aa c3 Aa (At ?_)))))))))))));exact Cg (And.intro c2 c3)
 refine cz h Aa (λc4 h5=>?_) (λc4 h6=>?_)
 ·refine An (wv (r:=Bd [rS ([]:Aq),rS ([]:Aq),rS ([]:Aq),rv (.slice none 0 0),Aj 0,rv (.slice none 0 0),Aj 0,Aj 0]) (Gb ) (AF (i:=0) BL Aa Aa Aa (Be.c Aa) Aa Aa (cs':=[rS ([]:Aq),rS ([]:Aq),rS ([]:Aq),rv (.slice none 0 0),Aj 0,rv (.slice none 0 0),Aj 0,Aj 0]) Aa (H':=[.blk b1 [rS ([]:Aq),rS ([]:Aq),rS ([]:Aq),rv (.slice none 0 0),Aj 0,rv (.slice none 0 0),Aj 0,Aj 0] 44,.blk he [Aj d.fTime,rv hb] 98,.row hb 44 8 (Ap Ad d.fL)]) Aa (wa Aa (Ax (A0 (Ah (WK.upBlk (i:=0) (cs':=[rS ([]:Aq),rS ([]:Aq),rS ([]:Aq),AD 1 (Ap Ai ([]:List (List Ac))),Aj 0,AD 4 (Ap Ab ([]:List Ac)),Aj 0,Aj 0]) Aa ⟨Up.refl _,Up.refl _,Up.refl _,Up.le (Gx.nil _),Up.refl _,Up.le (Gx.nil _),Up.refl _,Up.refl _,trivial⟩ ?_)))))));obtain rfl:=A2 h5;exact Az (Ix Tryz.results27 (BO (i:=0) In BL Aa Aa Aa) (AR Aa)) (sS (sC (sC sN))) ⟨hb,Aa,Aa⟩
 ·refine A1 (AT (An (wm Aa (wm Aa (ob h6 λr7 e9 h8=>ER (Hr:=[.blk b1 [rS ([]:Aq),rS ([]:Aq),rS ([]:Aq),rv (.slice none 0 0),Aj 0,rv (.slice none 0 0),Aj 0,Aj 0] 44]) Tryz.call30 (IO F he hb d e r7 e9) Aa ((Ae (i:=1) Aa).trans (WZ _ ((Ae (i:=1) Aa).trans (WZ _ (Xd _))))) Aa ?_)))));rintro _ _ ⟨rfl,rfl⟩;refine wa Aa (Ax (Av (An (wa Aa (Ax (AN (ob h8 λhq hr ho=>Bv (S:=Nat×(Int)×(Unit)) (V:=(Unit)×(Unit)) 0 (λσ=>BW (λσ=>CB F d e now r7 σ) σ.1 σ.2.1=some hq) (λσ=>[(0,rP he 0),(1,rS e),(2,Aj now),(6,rP b1 0),(8,AD 4 (Ap Ab r7)),(9,Aj σ.2.1)]) (λσ=>[.blk he [Aj d.fTime,rv hb] 98,.row hb 44 8 (Ap Ad d.fL),.blk b1 [rS ([]:Aq),rS ([]:Aq),rS ([]:Aq),rv (.slice none 0 0),Aj 0,rv (.slice none 0 0),Aj 0,Aj 0] 44]) (λσ=>σ.1) (F,0,()) hr (AJ.c Aa (AJ.c5 Aa Aa Aa Aa Aa AJ.nil)) (sC (sC (sC sN))) (λσ=>IN d =some r) (λσ=>[(6,rP b1 0)]) (λσ=>[.blk he [Aj d.fTime,rv hb] 98,.row hb 44 8 (Ap Ad d.fL),.blk b1 [rS ([]:Aq),rS ([]:Aq),rS ([]:Aq),rv (.slice none 0 0),Aj 0,rv (.slice none 0 0),Aj 0,Aj 0] 44]) ?_ ?_)))))))
  ·rintro⟨hK,ha,⟨⟩⟩ hs;refine BM (l':=[(0,rP he 0),(1,rS e),(2,Aj now),(6,rP b1 0),(8,AD 4 (Ap Ab r7)),(9,Aj ha)]) (H':=[.blk he [Aj d.fTime,rv hb] 98,.row hb 44 8 (Ap Ad d.fL),.blk b1 [rS ([]:Aq),rS ([]:Aq),rS ([]:Aq),rv (.slice none 0 0),Aj 0,rv (.slice none 0 0),Aj 0,Aj 0] 44]) Aa Aa ?_;obtain⟨ht,rfl,hu,hk,hm⟩:=Cz hs;replace hk:CB F d e now r7 ha=some hu:=hk;unfold CB at hk;refine Av (An (wm Aa (wm Aa (wv (AK Aa) (vF D3 Aa Eh (vL 0 Em Aa (wv (Ca (ys:=d.fL) (enc:=Ad) (i:=1) Cn Aa Aa) (wv (C2 Aa Aa) (Ax (cz hk Aa (λhw hx=>?_) (λhw hy=>?_)))))))))))
   ·refine A1 (AT (Av (AN (ck hx λhg hz=>AU [(0,rP he 0),(1,rS e),(2,Aj now),(6,rP b1 0),(8,AD 4 (Ap Ab r7)),(9,Aj ha),(61,rB ((decide ((((Af d.fL ha).fOp).fEntity)=e))&&(decide (((Af d.fL ha).fTo)<0))))] [.blk he [Aj d.fTime,rv hb] 98,.row hb 44 8 (Ap Ad d.fL),.blk b1 [rS ([]:Aq),rS ([]:Aq),rS ([]:Aq),rv (.slice none 0 0),Aj 0,rv (.slice none 0 0),Aj 0,Aj 0] 44] ?_ ?_))))
    ·refine Au (wm Aa (wv (AK Aa) (vF D3 Aa Eh (vL 0 Em Aa (wm Aa (wv (r:=rv (C0 8 hb (BU ha) 0)) (Cd (i:=1) Cn BL Aa Aa Aa (AX hg)) (wv (r:=rv (C0 8 hb (BU ha) 0)) (BE (k:=1) C3 Aa Cc Aa (AX hg) Aa Aa Aa) (wv (r:=rv (C0 8 hb (BU ha) 0)) (BE (k:=1) BG Aa CF Aa (AX hg) Aa Aa Aa) (wv (r:=rS (((Af d.fL ha).fOp).fEntity)) (Cs (enc:=Ad) (ys:=d.fL) (i:=1) (j:=ha) CZ Aa Aa hg Aa) (wm Aa (wv (CC Aa Aa) (wm Aa (AY (decide ((((Af d.fL ha).fOp).fEntity)=e)) (λhf=>?_) (λhf=>?_))))))))))))))
     ·refine wo hf (wm Aa (wo hf (wv (AK Aa) (wo hf (vF D3 Aa Eh (wo hf (vL 0 Em Aa (wo hf (wm Aa (wo hf (wv (r:=rv (C0 8 hb (BU ha) 0)) (Cd (i:=1) Cn BL Aa Aa Aa (AX hg)) (wo hf (wv (r:=rv (C0 8 hb (BU ha) 7)) (BE (k:=1) C3 Aa C1 Aa (AX hg) Aa Aa Aa) (wo hf (wv (r:=Aj ((Af d.fL ha).fTo)) (Cs (enc:=Ad) (ys:=d.fL) (i:=1) (j:=ha) Dm Aa Aa hg Aa) (wo hf (wv (C2 Aa Aa) (EP Aa hf Aa (At ?_)))))))))))))))))));exact Cg hf
     ·refine wf hf (wf hf (wf hf (wf hf (wf hf (wf hf (wf hf (wf hf (wf hf (wv (r:=rB false) (AH Aa hf Aa) (At ?_))))))))));exact Cg hf
    refine cz hz Aa (λh0 h1=>?_) (λh0 h2=>?_)
    ·refine An (wm Aa (wm Aa (wv (AK Aa) (vF D3 Aa Eh (vL 0 Em Aa (wm Aa (wv (r:=rv (C0 8 hb (BU ha) 0)) (Cd (i:=1) Cn BL Aa Aa Aa (AX hg)) (wv (r:=rv (C0 8 hb (BU ha) 0)) (BE (k:=1) C3 Aa Cc Aa (AX hg) Aa Aa Aa) (wv (r:=Bd (Am ((Af d.fL ha).fOp))) (IU (enc:=Ad) (ys:=d.fL) (i:=1) (j:=ha) Es Cc Aa Aa hg Aa Aa) (ob h1 λhh h3 h4=>Cl Tryz.call12 (QP F r7 ((Af d.fL ha).fOp) hh h3) Aa (wm Aa (wv (AO Aa Aa) (wv (AO Aa Aa) (wv (AO Aa Aa) (B3 (cs:=[Aj 0,rv (.slice none 0 0)]) GL Aa Aa (λhj=>?_))))))))))))))));refine wa Aa (AF (i:=0) Bs Aa Aa Aa (Be.c Aa) Aa Aa (cs':=[Aj hh.2.1.fErr,AD 4 (Ap Ab hh.2.1.fValue)]) Aa (H':=[.blk hj (Ao hh.2.1) 31,.blk he [Aj d.fTime,rv hb] 98,.row hb 44 8 (Ap Ad d.fL),.blk b1 [rS ([]:Aq),rS ([]:Aq),rS ([]:Aq),rv (.slice none 0 0),Aj 0,rv (.slice none 0 0),Aj 0,Aj 0] 44]) Aa (wa Aa (Ax (Av (Cu 6 [0,2,6,9,11] [⟨[],rP he 0,none,none,none⟩,⟨[0],rP he 0,none,none,none⟩,⟨[1],rP he 1,none,none,none⟩,⟨[2],rv hb,none,none,none⟩,⟨[],Aj ha,none,none,none⟩,⟨[],Bd (Ao hh.2.1),none,none,none⟩] ?_ (λβ=>?_))))))
     ·refine C5 (Ay Aa) (C5 (AK Aa) (C5 (AS D3 Aa Eh Aa Aa) (Ii (B1 (i:=1) Em Aa Aa Aa) (C5 (Ay Aa) (Ii (Bf (i:=0) Cw Bs Aa Aa Aa Aa) ?_)))));exact Ml
     refine C4 (H1:=[.blk hj (Ao hh.2.1) 31,.blk he [Aj d.fTime,rv hb] 98,.row hb 44 8 (Ap Ad d.fL),.blk b1 [rS ([]:Aq),rS ([]:Aq),rS ([]:Aq),rv (.slice none 0 0),Aj 0,rv (.slice none 0 0),Aj 0,Aj 0] 44]) [76,77,78,79,80,81,0,2,6,9,11] ?_;refine wv (r:=rv (C0 8 hb (BU ha) 0)) (Cd (i:=2) Cn BL Aa Aa Aa (AX hg)) (wv (r:=rv (C0 8 hb (BU ha) 4)) (BE (k:=2) C3 Aa Bs Aa (AX hg) Aa Aa Aa) (Uv (enc:=Ad) (ys:=d.fL) (y':=(Al.mk ((Af d.fL ha).fOp) hh.2.1 ((Af d.fL ha).fFrom) ((Af d.fL ha).fTo))) (i:=2) (j:=ha) Bs Aa Aa (Be.c Aa) Aa hg Aa Aa Aa (H':=[.blk hj (Ao hh.2.1) 31,.blk he [Aj d.fTime,rv hb] 98,.row hb 44 8 (Ap Ad (List.set d.fL (BU ha) (Al.mk ((Af d.fL ha).fOp) hh.2.1 ((Af d.fL ha).fFrom) ((Af d.fL ha).fTo)))),.blk b1 [rS ([]:Aq),rS ([]:Aq),rS ([]:Aq),rv (.slice none 0 0),Aj 0,rv (.slice none 0 0),Aj 0,Aj 0] 44]) Aa (bd h4 λhi h7 h9=>?_)));rw[← h7];refine B4 (wm Aa (wv (AK Aa) (vF D3 Aa Eh (vL 1 Em Aa (wm Aa (wm Aa (ck h9 λhn hA=>wv (r:=rv (C0 8 hb (BU ha) 0)) (Cd (i:=2) Cn BL Aa Aa Aa (AX hn)) (wv (r:=rv (C0 8 hb (BU ha) 7)) (BE (k:=2) C3 Aa C1 Aa (AX hn) Aa Aa Aa) (J0 (enc:=Ad) (ys:=hi) (y':=(Al.mk ((Af hi ha).fOp) ((Af hi ha).fAnswer) ((Af hi ha).fFrom) now)) (i:=2) (j:=ha) C1 Aa Aa (C7 Aa) Aa hn Aa Aa (H':=[.blk hj (Ao hh.2.1) 31,.blk he [Aj d.fTime,rv hb] 98,.row hb 44 8 (Ap Ad (List.set hi (BU ha) (Al.mk ((Af hi ha).fOp) ((Af hi ha).fAnswer) ((Af hi ha).fFrom) now))),.blk b1 [rS ([]:Aq),rS ([]:Aq),rS ([]:Aq),rv (.slice none 0 0),Aj 0,rv (.slice none 0 0),Aj 0,Aj 0] 44]) Aa (bd hA λhd hB hC=>?_))))))))));rw[← hB];refine B4 (wm Aa (wm Aa (wv (AK Aa) (vF D3 Aa C1 (Cm (i:=1) C1 Aa Aa (C7 Aa) Aa Aa (cs':=[Aj now,rv hb]) Aa (H':=[.blk hj (Ao hh.2.1) 31,.blk he [Aj now,rv hb] 98,.row hb 44 8 (Ap Ad hd),.blk b1 [rS ([]:Aq),rS ([]:Aq),rS ([]:Aq),rv (.slice none 0 0),Aj 0,rv (.slice none 0 0),Aj 0,Aj 0] 44]) Aa (B4 (wm Aa (wv (AK Aa) (vF D3 Aa Eh (vL 1 Em Aa (wm Aa (ck hC λhp hD=>wv (r:=rv (C0 8 hb (BU ha) 0)) (Cd (i:=2) Cn BL Aa Aa Aa (AX hp)) (wv (r:=Bd [rS (((Af hd ha).fOp).fEntity),rS (((Af hd ha).fOp).fID),rS (((Af hd ha).fOp).fOp),AD 1 (Ap Ai (((Af hd ha).fOp).fArgs)),Aj (((Af hd ha).fAnswer).fErr),AD 4 (Ap Ab (((Af hd ha).fAnswer).fValue)),Aj ((Af hd ha).fFrom),Aj ((Af hd ha).fTo)]) (IU (enc:=Ad) (ys:=hd) (i:=2) (j:=ha) In BL Aa Aa hp Aa Aa) (AF (i:=3) BL Aa Aa Aa (Be.c Aa) Aa Aa (cs':=[rS (((Af hd ha).fOp).fEntity),rS (((Af hd ha).fOp).fID),rS (((Af hd ha).fOp).fOp),AD 1 (Ap Ai (((Af hd ha).fOp).fArgs)),Aj (((Af hd ha).fAnswer).fErr),AD 4 (Ap Ab (((Af hd ha).fAnswer).fValue)),Aj ((Af hd ha).fFrom),Aj ((Af hd ha).fTo)]) Aa (H':=[.blk hj (Ao hh.2.1) 31,.blk he [Aj now,rv hb] 98,.row hb 44 8 (Ap Ad hd),.blk b1 [rS (((Af hd ha).fOp).fEntity),rS (((Af hd ha).fOp).fID),rS (((Af hd ha).fOp).fOp),AD 1 (Ap Ai (((Af hd ha).fOp).fArgs)),Aj (((Af hd ha).fAnswer).fErr),AD 4 (Ap Ab (((Af hd ha).fAnswer).fValue)),Aj ((Af hd ha).fFrom),Aj ((Af hd ha).fTo)] 44]) Aa (wa Aa (Ax (A0 (A9 (Ah (Ah (Bm ?_)))))))))))))))))))));have hE:=B9 hD hm ho;refine A9 (Ah ?_);obtain rfl:=A2 hE;exact Az (Ix Tryz.results27 (BO (i:=3) In BL Aa Aa Aa) (AR Aa)) (sS (sC (sC (sS sN)))) ⟨hb,Aa,Aa⟩
    ·refine A1 (AL (AT (Au (wm Aa (ck h2 λhG hH=>wv (B0 Aa Aa hG) (wa Aa (At ?_)))))));have hI:=Bn hH hm;exact AC (AA (ht,ha+1,()) ⟨hI,Xi _⟩ (AJ.c Aa (AJ.c5 Aa Aa Aa Aa Aa AJ.nil)) (sC (sC (sC sN))))
   ·refine By (A4 ?_);have hJ:=BQ hy hm ho;exact A4 (Bi (AA ((),()) hJ (AJ.c Aa AJ.nil) (sC (sC (sC sN)))))
  ·rintro⟨⟨⟩,⟨⟩⟩ hl;refine Cy (l':=[(6,rP b1 0)]) (H':=[.blk he [Aj d.fTime,rv hb] 98,.row hb 44 8 (Ap Ad d.fL),.blk b1 [rS ([]:Aq),rS ([]:Aq),rS ([]:Aq),rv (.slice none 0 0),Aj 0,rv (.slice none 0 0),Aj 0,Aj 0] 44]) Aa Aa ?_;replace hl:IN d =some r:=hl;unfold IN at hl;refine Bk (AT (An (wv (r:=Bd [rS ([]:Aq),rS ([]:Aq),rS ([]:Aq),rv (.slice none 0 0),Aj 0,rv (.slice none 0 0),Aj 0,Aj 0]) (Gb ) (AF (i:=2) BL Aa Aa Aa (Be.c Aa) Aa Aa (cs':=[rS ([]:Aq),rS ([]:Aq),rS ([]:Aq),rv (.slice none 0 0),Aj 0,rv (.slice none 0 0),Aj 0,Aj 0]) Aa (H':=[.blk he [Aj d.fTime,rv hb] 98,.row hb 44 8 (Ap Ad d.fL),.blk b1 [rS ([]:Aq),rS ([]:Aq),rS ([]:Aq),rv (.slice none 0 0),Aj 0,rv (.slice none 0 0),Aj 0,Aj 0] 44]) Aa (wa Aa (Ax (A0 (WK.upBlk (i:=2) (cs':=[rS ([]:Aq),rS ([]:Aq),rS ([]:Aq),AD 1 (Ap Ai ([]:List (List Ac))),Aj 0,AD 4 (Ap Ab ([]:List Ac)),Aj 0,Aj 0]) Aa ⟨Up.refl _,Up.refl _,Up.refl _,Up.le (Gx.nil _),Up.refl _,Up.le (Gx.nil _),Up.refl _,Up.refl _,trivial⟩ ?_))))))));obtain rfl:=A2 hl;exact Az (Ix Tryz.results27 (BO (i:=2) In BL Aa Aa Aa) (AR Aa)) (sC (sC (sS sN))) ⟨hb,Aa,Aa⟩
theorem Mz (id:Aq)(n:Int)(r:A6)(h:M0 id n=some r):Fn Tryz.prog GE 35 [rS id,Aj n] [] (λR H=>R=Bd (Am r)∧H=[]):=by
 refine enter (n:=11) Tryz.func35 Aa Tryz.ntmps35 Aa (λw Z=>?_);unfold M0 at h;refine An (B3 (cs:=[rS ([]:Aq),rS ([]:Aq),rS ([]:Aq),rv (.slice none 0 0)]) Tryz.zeroValue25 Aa Aa (λb1=>?_));refine B4 (wm Aa (wm Aa (wv (r:=Bd [Aj 3,Aj n,rS ([]:Aq),Aj 0]) (Eo Aa Aa Aa Aa) (Bl (ys:=([(Ac.mk 3 n ([]:Aq) 0)]:List Ac)) (enc:=Ab) (css:=[[Aj 3,Aj n,rS ([]:Aq),Aj 0]]) (xs:=[.tmp 7]) Ci Cp Jn Aa Aa Aa ⟨Jm.agg ⟨Up.refl _,Up.refl _,Up.refl _,Up.refl _,trivial⟩,trivial⟩ Aa BT Aa Aa Aa (λb2=>?_)))));refine WL.freeze (i:=0) Aa (Bl (ys:=([([(Ac.mk 3 n ([]:Aq) 0)]:List Ac)]:List (List Ac))) (enc:=Ai) (css:=[[AD 4 (Ap Ab ([(Ac.mk 3 n ([]:Aq) 0)]:List Ac))]]) (xs:=[.tmp 8]) Du D9 Tryz.zeroValue22 Aa Aa Aa ⟨Jm.one Aa (Up.fact (i:=0) Aa),trivial⟩ Aa Er Aa Aa Aa (λb3=>?_));refine wv (r:=Bd [rS ([120]:Aq),rS id,rS ([97,100,100]:Aq),rv (.slice (some ⟨b3,0,none⟩) 1 1)]) (Kk Aa Aa Aa Aa Aa Aa Aa Aa) (AF (i:=2) Cc Aa Aa Aa ⟨(C7 Aa),(C7 Aa),(C7 Aa),(IT (i:=0) Aa),trivial⟩ Aa Aa (cs':=[rS ([120]:Aq),rS id,rS ([97,100,100]:Aq),rv (.slice (some ⟨b3,0,none⟩) 1 1)]) Aa (H':=[.row (.slice (some ⟨b3,0,none⟩) 1 1) 22 1 (Ap Ai ([([(Ac.mk 3 n ([]:Aq) 0)]:List Ac)]:List (List Ac))),.fact (.slice (some ⟨b2,0,none⟩) 1 1) (AD 4 (Ap Ab ([(Ac.mk 3 n ([]:Aq) 0)]:List Ac))),.blk b1 [rS ([120]:Aq),rS id,rS ([97,100,100]:Aq),rv (.slice (some ⟨b3,0,none⟩) 1 1)] 25]) Aa (Ax (A0 (WK.freeze (i:=0) Aa (WK.upBlk (i:=2) (cs':=[rS ([120]:Aq),rS id,rS ([97,100,100]:Aq),AD 1 (Ap Ai ([([(Ac.mk 3 n ([]:Aq) 0)]:List Ac)]:List (List Ac)))]) Aa ⟨Up.refl _,Up.refl _,Up.refl _,Up.fact (i:=0) Aa,trivial⟩ ?_)))));obtain rfl:=A2 h;exact Az (BI Tryz.results35 (BO (i:=2) Es Cc Aa Aa Aa)) (sS (sS (sS sN))) ⟨Aa,Aa⟩
theorem Gl (F:Nat)(a:(List Aq))(b:(List Aq))(r:Bool)(h:Ev F a b=some r):Fn Tryz.prog GE 23 [AD 1 (Ap eS a),AD 1 (Ap eS b)] [] (λR H=>R=rB r∧H=[]):=by
 refine enter (n:=26) Tryz.func23 Aa Tryz.ntmps23 Aa (λw Z=>?_);unfold Ev at h;refine An (wa Aa (Ax (Av (An (wm Aa (wv (Bo (ys:=a) (enc:=eS) DX Aa) (wm Aa (wv (Bo (ys:=b) (enc:=eS) DX Aa) (wv (Dp Aa Aa) (Ax (cz h Aa (λc1 h2=>?_) (λc1 h3=>?_))))))))))))
 ·refine An (wa Aa (Ax (A0 (Ah ?_))));obtain rfl:=A2 h2;exact Az (BI Tryz.results23 (AR Aa)) sN ⟨Aa,Aa⟩
 ·refine A1 (AT (Av (An (wm Aa (wv (Bo (ys:=a) (enc:=eS) DX Aa) (wv (r:=Aj 0) (Ay Aa) (Ax (AN (ob h3 λhg hh hf=>Bv (S:=Nat×(Int)×(Unit)) (V:=(Unit)×(Unit)) 0 (λσ=>BW (λσ=>GG a b σ) σ.1 σ.2.1=some hg) (λσ=>[(0,AD 1 (Ap eS a)),(1,AD 1 (Ap eS b)),(12,Aj (a.length:Int)),(13,Aj σ.2.1)]) (λσ=>[]) (λσ=>σ.1) (F,0,()) hh (AJ.c Aa (AJ.c Aa (AJ.c Aa (AJ.c Aa AJ.nil)))) sN (λσ=>Je =some r) (λσ=>[]) (λσ=>[]) ?_ ?_)))))))))
  ·rintro⟨h1,ha,⟨⟩⟩ hi;refine BM (l':=[(0,AD 1 (Ap eS a)),(1,AD 1 (Ap eS b)),(12,Aj (a.length:Int)),(13,Aj ha)]) (H':=[]) Aa Aa ?_;obtain⟨hj,rfl,hk,hb,he⟩:=Cz hi;replace hb:GG a b ha=some hk:=hb;unfold GG at hb;refine An (wv (C2 Aa Aa) (Ax (Av (cz hb Aa (λhl hm=>?_) (λhl hn=>?_)))))
   ·refine A1 (AT (Av (AN (An (wm Aa (wa Aa (Ax (Av (ck hm λho hp=>ck hp λhq hr=>Df [0,1,5,12,13] [⟨[],AD 1 (Ap eS a),0⟩,⟨[],Aj ha,0⟩,⟨[0,1],EF [rS (Af a ha)],0⟩,⟨[2],rS (Af a ha),0⟩,⟨[],AD 1 (Ap eS b),0⟩,⟨[],Aj ha,0⟩,⟨[4,5],EF [rS (Af b ha)],0⟩,⟨[6],rS (Af b ha),0⟩,⟨[3,7],rB (!decide ((Af a ha)=(Af b ha))),0⟩] [24,0,1,12,13] ?_ ?_)))))))))
    ·refine oq (Ay Aa) (oq (Ay Aa) (oq (Bh (enc:=eS) (ys:=a) DX CF Aa Aa ho) (oq (Bg CZ Aa Aa) (oq (Ay Aa) (oq (Ay Aa) (oq (Bh (enc:=eS) (ys:=b) DX CF Aa Aa hq) (oq (Bg CZ Aa Aa) (oq (Nq Aa Aa) ?_))))))));exact Di
    refine AT (cz hr Aa (λhs ht=>?_) (λhs hu=>?_))
    ·refine An (wa Aa (Ax (A0 (A9 (Ah (Ah (Bm ?_)))))));have hw:=B9 ht he hf;refine A9 (Ah ?_);obtain rfl:=A2 hw;exact Az (BI Tryz.results23 (AR Aa)) sN ⟨Aa,Aa⟩
    ·refine A1 (AL (AT (Au (ck hu λhx hy=>wv (B0 Aa Aa hx) (wm Aa (At ?_))))));have hz:=Bn hy he;exact AC (AA (hj,ha+1,()) ⟨hz,Xi _⟩ (AJ.c Aa (AJ.c Aa (AJ.c Aa (AJ.c Aa AJ.nil)))) sN)
   ·refine By (A4 ?_);have h0:=BQ hn he hf;exact A4 (Bi (AA ((),()) h0 AJ.nil sN))
  ·rintro⟨⟨⟩,⟨⟩⟩ hd;refine Cy (l':=[]) (H':=[]) Aa Aa ?_;replace hd:Je =some r:=hd;unfold Je at hd;refine Bk (AT (An (wa Aa (Ax (A0 ?_)))));obtain rfl:=A2 hd;exact Az (BI Tryz.results23 (AR Aa)) sN ⟨Aa,Aa⟩
theorem T7 (F:Nat)(v:(List Ac))(r:Bool)(h:Mx F v=some r):Fn Tryz.prog GE 8 [AD 4 (Ap Ab v)] [] (λR H=>R=rB r∧H=[]):=by
 refine enter (n:=20) Tryz.func8 Aa Tryz.ntmps8 Aa (λw Z=>?_);unfold Mx at h;refine An (wa Aa (Ax (Av (An (wm Aa (wv (Bo (ys:=v) (enc:=Ab) Ci Aa) (wv (DQ Aa Aa) (Ax (cz h Aa (λc1 h2=>?_) (λc1 h3=>?_))))))))))
 ·refine An (wa Aa (Ax (A0 (Ah ?_))));obtain rfl:=A2 h2;exact Az (BI Tryz.results8 (AR Aa)) sN ⟨Aa,Aa⟩
 ·refine A1 (AT (Av (An (wm Aa (wv (Bo (ys:=v) (enc:=Ab) Ci Aa) (wv (r:=Aj 0) (Ay Aa) (Ax (AN (ob h3 λhg hh hf=>Bv (S:=Nat×(Int)×(Unit)) (V:=(Unit)×(Unit)) 0 (λσ=>BW (λσ=>GI v σ) σ.1 σ.2.1=some hg) (λσ=>[(0,AD 4 (Ap Ab v)),(8,Aj (v.length:Int)),(9,Aj σ.2.1)]) (λσ=>[]) (λσ=>σ.1) (F,0,()) hh (AJ.c Aa (AJ.c Aa (AJ.c Aa AJ.nil))) sN (λσ=>Jg =some r) (λσ=>[]) (λσ=>[]) ?_ ?_)))))))))
  ·rintro⟨hy,hd,⟨⟩⟩ hi;refine BM (l':=[(0,AD 4 (Ap Ab v)),(8,Aj (v.length:Int)),(9,Aj hd)]) (H':=[]) Aa Aa ?_;obtain⟨hj,rfl,t37,ha,he⟩:=Cz hi;replace ha:GI v hd=some t37:=ha;unfold GI at ha;refine An (wv (C2 Aa Aa) (Ax (Av (cz ha Aa (λhk hl=>?_) (λhk hm=>?_)))))
   ·refine A1 (AT (Av (AN (An (wm Aa (wa Aa (B4 (wm Aa (wm Aa (ck hl λhn ho=>wv (Bh (enc:=Ab) (ys:=v) Ci Cp Aa Aa hn) (wv (AQ Bx Aa CF Aa Aa) (wv (Bg CZ Aa Aa) (wv (CJ Gn Aa) (wv (DQ Aa Aa) (Ax (cz ho Aa (λhp hq=>?_) (λhp hr=>?_)))))))))))))))))
    ·refine An (wa Aa (Ax (A0 (A9 (Ah (Ah (Bm ?_)))))));have hs:=B9 hq he hf;refine A9 (Ah ?_);obtain rfl:=A2 hs;exact Az (BI Tryz.results8 (AR Aa)) sN ⟨Aa,Aa⟩
    ·refine A1 (AL (AT (Au (ck hr λht hu=>wv (B0 Aa Aa ht) (wm Aa (At ?_))))));have hw:=Bn hu he;exact AC (AA (hj,hd+1,()) ⟨hw,Xi _⟩ (AJ.c Aa (AJ.c Aa (AJ.c Aa AJ.nil))) sN)
   ·refine By (A4 ?_);have hx:=BQ hm he hf;exact A4 (Bi (AA ((),()) hx AJ.nil sN))
  ·rintro⟨⟨⟩,⟨⟩⟩ hb;refine Cy (l':=[]) (H':=[]) Aa Aa ?_;replace hb:Jg =some r:=hb;unfold Jg at hb;refine Bk (AT (An (wa Aa (Ax (A0 ?_)))));obtain rfl:=A2 hb;exact Az (BI Tryz.results8 (AR Aa)) sN ⟨Aa,Aa⟩
theorem T6 (F:Nat)(op:A6)(r:Bool)(h:Mw F op=some r):Fn Tryz.prog GE 9 [Bd (Am op)] [] (λR H=>R=rB r∧H=[]):=by
 refine enter (n:=40) Tryz.func9 Aa Tryz.ntmps9 Aa (λw Z=>?_);unfold Mw at h;refine An (BH Aa Aa (λb1=>?_));refine wa Aa (Ax (Av (AU [(1,rP b1 0),(25,rB ((decide (100<(op.fEntity.length:Int)))||((decide (100<(op.fID.length:Int)))||((decide (100<(op.fOp.length:Int)))||(decide (4<(op.fArgs.length:Int)))))))] [.blk b1 (Am op) 25] ?_ ?_)))
 ·refine Au (vF BG Aa CF (vL 0 CZ Aa (wv (CJ Gn Aa) (wv (DQ Aa Aa) (wm Aa (AY (decide (100<(op.fEntity.length:Int))) (λc2=>?_) (λc2=>?_)))))))
  ·refine wf c2 (wf c2 (wf c2 (wf c2 (wv (r:=rB true) (Ar Aa c2 Aa) (wm Aa (wz Aa Aa (wz Aa Aa (wz Aa Aa (wz Aa Aa (wv (r:=rB true) (Ar (b:=true) Aa Aa Aa) (wm Aa (wz Aa Aa (wz Aa Aa (wz Aa Aa (wz Aa Aa (wv (r:=rB true) (Ar (b:=true) Aa Aa Aa) (At ?_)))))))))))))))));exact Cg c2
  ·refine wo c2 (vF BG Aa CF (wo c2 (vL 0 CZ Aa (wo c2 (wv (CJ Gn Aa) (wo c2 (wv (DQ Aa Aa) (DB Aa c2 Aa (wm Aa (AY (decide (100<(op.fID.length:Int))) (λc3=>?_) (λc3=>?_)))))))))))
   ·refine wf c3 (wf c3 (wf c3 (wf c3 (wv (r:=rB true) (Ar Aa c3 Aa) (wm Aa (wz Aa Aa (wz Aa Aa (wz Aa Aa (wz Aa Aa (wv (r:=rB true) (Ar (b:=true) Aa Aa Aa) (At ?_)))))))))));exact Cg (And.intro c2 c3)
   ·refine wo c3 (vF BG Aa CF (wo c3 (vL 0 CZ Aa (wo c3 (wv (CJ Gn Aa) (wo c3 (wv (DQ Aa Aa) (DB Aa c3 Aa (wm Aa (AY (decide (100<(op.fOp.length:Int))) (λc4=>?_) (λc4=>?_)))))))))))
    ·refine wf c4 (wf c4 (wf c4 (wf c4 (wv (r:=rB true) (Ar Aa c4 Aa) (At ?_)))));exact Cg (And.intro c2 (And.intro c3 c4))
    ·refine wo c4 (vF BG Aa Ei (wo c4 (vL 0 EG Aa (wo c4 (wv (Bo (ys:=op.fArgs) (enc:=Ai) Du Aa) (wo c4 (wv (DQ Aa Aa) (DB Aa c4 Aa (At ?_)))))))));exact Cg (And.intro c2 (And.intro c3 c4))
 refine cz h Aa (λc5 h6=>?_) (λc5 h7=>?_)
 ·refine An (wa Aa (Ax (A0 (Ah ?_))));obtain rfl:=A2 h6;exact Az (BI Tryz.results9 (AR Aa)) (sS sN) ⟨Aa,Aa⟩
 ·refine A1 (AT (Av (An (vF BG Aa Ei (vL 0 EG Aa (wv (Bo (ys:=op.fArgs) (enc:=Ai) Du Aa) (wv (r:=Aj 0) (Ay Aa) (Ax (AN (ob h7 λhg hh hf=>Bv (S:=Nat×(Int)×(Unit)) (V:=(Unit)×(Unit)) 0 (λσ=>BW (λσ=>GH F op σ) σ.1 σ.2.1=some hg) (λσ=>[(1,rP b1 0),(28,Aj (op.fArgs.length:Int)),(29,Aj σ.2.1)]) (λσ=>[.blk b1 (Am op) 25]) (λσ=>σ.1) (F,0,()) hh (AJ.c Aa (AJ.c Aa (AJ.c Aa AJ.nil))) (sC sN) (λσ=>Jf =some r) (λσ=>[]) (λσ=>[]) ?_ ?_))))))))))
  ·rintro⟨h2,ha,⟨⟩⟩ hi;refine BM (l':=[(1,rP b1 0),(28,Aj (op.fArgs.length:Int)),(29,Aj ha)]) (H':=[.blk b1 (Am op) 25]) Aa Aa ?_;obtain⟨hj,rfl,hk,hb,he⟩:=Cz hi;replace hb:GH F op ha=some hk:=hb;unfold GH at hb;refine An (wv (C2 Aa Aa) (Ax (Av (cz hb Aa (λhl hm=>?_) (λhl hn=>?_)))))
   ·refine A1 (AT (Av (AN (An (wm Aa (wa Aa (B4 (vF BG Aa Ei (vL 0 EG Aa (wm Aa (ck hm λho hp=>wv (Bh (enc:=Ai) (ys:=op.fArgs) Du D9 Aa Aa ho) (wv (Bg EE Aa Aa) (ob hp λhq hr hs=>Cl Tryz.call8 (T7 F (Af op.fArgs ha) hq hr) Aa (wv (B8 Aa) (Ax (cz hs Aa (λht hu=>?_) (λht hw=>?_)))))))))))))))))
    ·refine An (wa Aa (Ax (A0 (A9 (Ah (Ah (Bm ?_)))))));have hx:=B9 hu he hf;refine A9 (Ah ?_);obtain rfl:=A2 hx;exact Az (BI Tryz.results9 (AR Aa)) (sS sN) ⟨Aa,Aa⟩
    ·refine A1 (AL (AT (Au (ck hw λhy hz=>wv (B0 Aa Aa hy) (wm Aa (At ?_))))));have h0:=Bn hz he;exact AC (AA (hj,ha+1,()) ⟨h0,Xi _⟩ (AJ.c Aa (AJ.c Aa (AJ.c Aa AJ.nil))) (sC sN))
   ·refine By (A4 ?_);have h1:=BQ hn he hf;exact A4 (Bi (AA ((),()) h1 AJ.nil (sS sN)))
  ·rintro⟨⟨⟩,⟨⟩⟩ hd;refine Cy (l':=[]) (H':=[]) Aa Aa ?_;replace hd:Jf =some r:=hd;unfold Jf at hd;refine Bk (AT (An (wa Aa (Ax (A0 ?_)))));obtain rfl:=A2 hd;exact Az (BI Tryz.results9 (AR Aa)) sN ⟨Aa,Aa⟩
theorem Qz (F:Nat)(l:(List Bu))(r:Bool)(h:IA F l=some r):Fn Tryz.prog GE 15 [AD 6 (Ap Bp l)] [] (λR H=>R=rB r∧H=[]):=by
 refine enter (n:=20) Tryz.func15 Aa Tryz.ntmps15 Aa (λw Z=>?_);unfold IA at h;refine An (wa Aa (Ax (Av (An (wm Aa (wv (Bo (ys:=l) (enc:=Bp) S8 Aa) (wv (DQ Aa Aa) (Ax (cz h Aa (λc1 h2=>?_) (λc1 h3=>?_))))))))))
 ·refine An (wa Aa (Ax (A0 (Ah ?_))));obtain rfl:=A2 h2;exact Az (BI Tryz.results15 (AR Aa)) sN ⟨Aa,Aa⟩
 ·refine A1 (AT (Av (An (wm Aa (wv (Bo (ys:=l) (enc:=Bp) S8 Aa) (wv (r:=Aj 0) (Ay Aa) (Ax (AN (ob h3 λhg hh hf=>Bv (S:=Nat×(Int)×(Unit)) (V:=(Unit)×(Unit)) 0 (λσ=>BW (λσ=>E9 F l σ) σ.1 σ.2.1=some hg) (λσ=>[(0,AD 6 (Ap Bp l)),(8,Aj (l.length:Int)),(9,Aj σ.2.1)]) (λσ=>[]) (λσ=>σ.1) (F,0,()) hh (AJ.c Aa (AJ.c Aa (AJ.c Aa AJ.nil))) sN (λσ=>Hf =some r) (λσ=>[]) (λσ=>[]) ?_ ?_)))))))))
  ·rintro⟨h1,ha,⟨⟩⟩ hi;refine BM (l':=[(0,AD 6 (Ap Bp l)),(8,Aj (l.length:Int)),(9,Aj ha)]) (H':=[]) Aa Aa ?_;obtain⟨hj,rfl,t46,hb,he⟩:=Cz hi;replace hb:E9 F l ha=some t46:=hb;unfold E9 at hb;refine An (wv (C2 Aa Aa) (Ax (Av (cz hb Aa (λhk hl=>?_) (λhk hm=>?_)))))
   ·refine A1 (AT (Av (AN (An (wm Aa (wa Aa (B4 (wm Aa (wm Aa (ck hl λhn ho=>wv (Bh (enc:=Bp) (ys:=l) S8 Uh Aa Aa hn) (wv (AQ Jy Aa Cc Aa Aa) (wv (B6 Es Cc Aa Aa Aa) (ob ho λhp hq hr=>Cl Tryz.call9 (T6 F ((Af l ha).fOp) hp hq) Aa (wv (B8 Aa) (Ax (cz hr Aa (λhs ht=>?_) (λhs hu=>?_)))))))))))))))))
    ·refine An (wa Aa (Ax (A0 (A9 (Ah (Ah (Bm ?_)))))));have hw:=B9 ht he hf;refine A9 (Ah ?_);obtain rfl:=A2 hw;exact Az (BI Tryz.results15 (AR Aa)) sN ⟨Aa,Aa⟩
    ·refine A1 (AL (AT (Au (ck hu λhx hy=>wv (B0 Aa Aa hx) (wm Aa (At ?_))))));have hz:=Bn hy he;exact AC (AA (hj,ha+1,()) ⟨hz,Xi _⟩ (AJ.c Aa (AJ.c Aa (AJ.c Aa AJ.nil))) sN)
   ·refine By (A4 ?_);have h0:=BQ hm he hf;exact A4 (Bi (AA ((),()) h0 AJ.nil sN))
  ·rintro⟨⟨⟩,⟨⟩⟩ hd;refine Cy (l':=[]) (H':=[]) Aa Aa ?_;replace hd:Hf =some r:=hd;unfold Hf at hd;refine Bk (AT (An (wa Aa (Ax (A0 ?_)))));obtain rfl:=A2 hd;exact Az (BI Tryz.results15 (AR Aa)) sN ⟨Aa,Aa⟩
theorem Gd (F:Nat)(a:A8)(b:A8)(r:Bool)(h:BD F a b=some r):Fn Tryz.prog GE 14 [Bd (Ao a),Bd (Ao b)] [] (λR H=>R=rB r∧H=[]):=by
 refine enter (n:=17) Tryz.func14 Aa Tryz.ntmps14 Aa (λw Z=>?_);unfold BD at h;refine An (BH Aa Aa (λb1=>?_));refine BH Aa Aa (λb2=>?_);refine wa Aa (Ax (ck h λg3 h4=>AU [(4,rB ((decide (a.fErr=b.fErr))&&(ov (Gj F a.fValue b.fValue))))] [] ?_ ?_))
 ·refine Au (vF O7 Aa Tryz.sizeOf29 (vL 1 Tryz.isAgg29 Aa (vF O7 Aa Tryz.sizeOf29 (vL 0 Tryz.isAgg29 Aa (wv (B5 Aa Aa) (wm Aa (AY (decide (a.fErr=b.fErr)) (λc5=>?_) (λc5=>?_))))))))
  ·refine wo c5 (vF O7 Aa D9 (wo c5 (vL 1 EE Aa (wo c5 (vF O7 Aa D9 (wo c5 (vL 0 EE Aa (wo c5 (Cl PU (HK F a.fValue b.fValue (ov (Gj F a.fValue b.fValue)) (EQ (CW g3 c5))) Aa (EP Aa c5 Aa (wa Aa (At ?_))))))))))));exact Cg c5
  ·refine wf c5 (wf c5 (wf c5 (wf c5 (wf c5 (wv (r:=rB false) (AH Aa c5 Aa) (wa Aa (At ?_)))))));exact Cg c5
 refine A0 ?_;obtain rfl:=A2 h4;exact Az (BI Tryz.results14 (AR Aa)) sN ⟨Aa,Aa⟩
theorem Kv (F:Nat)(a:(List Al))(b:(List Al))(r:Bool)(h:EM F a b=some r):Fn Tryz.prog GE 24 [AD 8 (Ap Ad a),AD 8 (Ap Ad b)] [] (λR H=>R=rB r∧H=[]):=by
 refine enter (n:=69) Tryz.func24 Aa Tryz.ntmps24 Aa (λw Z=>?_);unfold EM at h;refine An (wa Aa (Ax (Av (An (wm Aa (wv (Bo (ys:=a) (enc:=Ad) Cn Aa) (wm Aa (wv (Bo (ys:=b) (enc:=Ad) Cn Aa) (wv (Dp Aa Aa) (Ax (cz h Aa (λc1 h2=>?_) (λc1 h3=>?_))))))))))))
 ·refine An (wa Aa (Ax (A0 (Ah ?_))));obtain rfl:=A2 h2;exact Az (BI Tryz.results24 (AR Aa)) sN ⟨Aa,Aa⟩
 ·refine A1 (AT (Av (An (wm Aa (wv (Bo (ys:=a) (enc:=Ad) Cn Aa) (wv (r:=Aj 0) (Ay Aa) (Ax (AN (ob h3 λhn ho hm=>Bv (S:=Nat×(Int)×(Unit)) (V:=(Unit)×(Unit)) 0 (λσ=>BW (λσ=>GJ F a b σ) σ.1 σ.2.1=some hn) (λσ=>[(0,AD 8 (Ap Ad a)),(1,AD 8 (Ap Ad b)),(12,Aj (a.length:Int)),(13,Aj σ.2.1)]) (λσ=>[]) (λσ=>σ.1) (F,0,()) ho (AJ.c Aa (AJ.c Aa (AJ.c Aa (AJ.c Aa AJ.nil)))) sN (λσ=>Jh =some r) (λσ=>[]) (λσ=>[]) ?_ ?_)))))))))
  ·rintro⟨h9,ha,⟨⟩⟩ hp;refine BM (l':=[(0,AD 8 (Ap Ad a)),(1,AD 8 (Ap Ad b)),(12,Aj (a.length:Int)),(13,Aj ha)]) (H':=[]) Aa Aa ?_;obtain⟨hq,rfl,t64,hh,hk⟩:=Cz hp;replace hh:GJ F a b ha=some t64:=hh;unfold GJ at hh;refine An (wv (C2 Aa Aa) (Ax (Av (cz hh Aa (λhr hs=>?_) (λhr ht=>?_)))))
   ·refine A1 (AT (Av (AN (An (wm Aa (wa Aa (Ax (ck hs λhf hu=>ck hu λhg hw=>ck hw λhi hx=>ck hx λhl hy=>AU [(0,AD 8 (Ap Ad a)),(1,AD 8 (Ap Ad b)),(12,Aj (a.length:Int)),(13,Aj ha),(67,rB ((!(ov (BR F ((Af a ha).fOp) ((Af b ha).fOp))))||((!(ov (BD F ((Af a ha).fAnswer) ((Af b ha).fAnswer))))||((!decide (((Af a ha).fFrom)=((Af b ha).fFrom)))||(!decide (((Af a ha).fTo)=((Af b ha).fTo)))))))] [] ?_ ?_))))))))
    ·refine AY (!(ov (BR F ((Af a ha).fOp) ((Af b ha).fOp)))) (λhb=>?_) (λhb=>?_)
     ·refine Df [0,1,5,12,13] [⟨[],AD 8 (Ap Ad a),0⟩,⟨[],Aj ha,0⟩,⟨[0,1],EF [rS (((Af a ha).fOp).fEntity),rS (((Af a ha).fOp).fID),rS (((Af a ha).fOp).fOp),AD 1 (Ap Ai (((Af a ha).fOp).fArgs)),Aj (((Af a ha).fAnswer).fErr),AD 4 (Ap Ab (((Af a ha).fAnswer).fValue)),Aj ((Af a ha).fFrom),Aj ((Af a ha).fTo)],0⟩,⟨[2],EF [rS (((Af a ha).fOp).fEntity),rS (((Af a ha).fOp).fID),rS (((Af a ha).fOp).fOp),AD 1 (Ap Ai (((Af a ha).fOp).fArgs)),Aj (((Af a ha).fAnswer).fErr),AD 4 (Ap Ab (((Af a ha).fAnswer).fValue)),Aj ((Af a ha).fFrom),Aj ((Af a ha).fTo)],0⟩,⟨[3],Bd (Am ((Af a ha).fOp)),0⟩,⟨[],AD 8 (Ap Ad b),0⟩,⟨[],Aj ha,0⟩,⟨[5,6],EF [rS (((Af b ha).fOp).fEntity),rS (((Af b ha).fOp).fID),rS (((Af b ha).fOp).fOp),AD 1 (Ap Ai (((Af b ha).fOp).fArgs)),Aj (((Af b ha).fAnswer).fErr),AD 4 (Ap Ab (((Af b ha).fAnswer).fValue)),Aj ((Af b ha).fFrom),Aj ((Af b ha).fTo)],0⟩,⟨[7],EF [rS (((Af b ha).fOp).fEntity),rS (((Af b ha).fOp).fID),rS (((Af b ha).fOp).fOp),AD 1 (Ap Ai (((Af b ha).fOp).fArgs)),Aj (((Af b ha).fAnswer).fErr),AD 4 (Ap Ab (((Af b ha).fAnswer).fValue)),Aj ((Af b ha).fFrom),Aj ((Af b ha).fTo)],0⟩,⟨[8],Bd (Am ((Af b ha).fOp)),0⟩,⟨[4,9],rB (ov (BR F ((Af a ha).fOp) ((Af b ha).fOp))),0⟩,⟨[10],rB (!(ov (BR F ((Af a ha).fOp) ((Af b ha).fOp)))),0⟩,⟨[11],rB (!(ov (BR F ((Af a ha).fOp) ((Af b ha).fOp)))),0⟩,⟨[12],rv undef,0⟩,⟨[12],rv undef,0⟩,⟨[13,14,12],rv undef,0⟩,⟨[15,12],rv undef,0⟩,⟨[16,12],rv undef,0⟩,⟨[12],rv undef,0⟩,⟨[12],rv undef,0⟩,⟨[18,19,12],rv undef,0⟩,⟨[20,12],rv undef,0⟩,⟨[21,12],rv undef,0⟩,⟨[17,22,12],rv undef,0⟩,⟨[23,12],rv undef,0⟩,⟨[12,24],rB true,0⟩,⟨[25],rB true,0⟩,⟨[26],rv undef,0⟩,⟨[26],rv undef,0⟩,⟨[27,28,26],rv undef,0⟩,⟨[29,26],rv undef,0⟩,⟨[30,26],rv undef,0⟩,⟨[26],rv undef,0⟩,⟨[26],rv undef,0⟩,⟨[32,33,26],rv undef,0⟩,⟨[34,26],rv undef,0⟩,⟨[35,26],rv undef,0⟩,⟨[31,36,26],rv undef,0⟩,⟨[26,37],rB true,0⟩,⟨[38],rB true,0⟩,⟨[39],rv undef,0⟩,⟨[39],rv undef,0⟩,⟨[40,41,39],rv undef,0⟩,⟨[42,39],rv undef,0⟩,⟨[43,39],rv undef,0⟩,⟨[39],rv undef,0⟩,⟨[39],rv undef,0⟩,⟨[45,46,39],rv undef,0⟩,⟨[47,39],rv undef,0⟩,⟨[48,39],rv undef,0⟩,⟨[44,49,39],rv undef,0⟩,⟨[39,50],rB true,0⟩] [67,0,1,12,13] ?_ ?_
      ·refine oq (Ay Aa) (oq (Ay Aa) (oq (Bh (enc:=Ad) (ys:=a) Cn BL Aa Aa hf) (oq (AQ C3 Aa Cc Aa Aa) (oq (B6 Es Cc Aa Aa Aa) (oq (Ay Aa) (oq (Ay Aa) (oq (Bh (enc:=Ad) (ys:=b) Cn BL Aa Aa hg) (oq (AQ C3 Aa Cc Aa Aa) (oq (B6 Es Cc Aa Aa Aa) (CV Aa (λH=>D7 SG (H3 F ((Af a ha).fOp) ((Af b ha).fOp) (ov (BR F ((Af a ha).fOp) ((Af b ha).fOp))) (EQ hi)) Aa) ?_))))))))));refine oq (B8 Aa) (oq (Ay Aa) (oz hb (oz hb (oz hb (oz hb (oz hb (oz hb (oz hb (oz hb (oz hb (oz hb (oz hb (oz hb (oq (Ar (b:=!(ov (BR F ((Af a ha).fOp) ((Af b ha).fOp)))) Aa hb Aa) (oq (Ay Aa) (oz Aa (oz Aa (oz Aa (oz Aa (oz Aa (oz Aa (oz Aa (oz Aa ?_)))))))))))))))))))))));refine oz Aa (oz Aa (oz Aa (oq (Ar (b:=true) Aa Aa Aa) (oq (Ay Aa) (oz Aa (oz Aa (oz Aa (oz Aa (oz Aa (oz Aa (oz Aa (oz Aa (oz Aa (oz Aa (oz Aa (oq (Ar (b:=true) Aa Aa Aa) ?_))))))))))))))));exact Di
      exact Cg hb
     ·refine AY (!(ov (BD F ((Af a ha).fAnswer) ((Af b ha).fAnswer)))) (λhd=>?_) (λhd=>?_)
      ·refine Df [0,1,5,12,13] [⟨[],AD 8 (Ap Ad a),0⟩,⟨[],Aj ha,0⟩,⟨[0,1],EF [rS (((Af a ha).fOp).fEntity),rS (((Af a ha).fOp).fID),rS (((Af a ha).fOp).fOp),AD 1 (Ap Ai (((Af a ha).fOp).fArgs)),Aj (((Af a ha).fAnswer).fErr),AD 4 (Ap Ab (((Af a ha).fAnswer).fValue)),Aj ((Af a ha).fFrom),Aj ((Af a ha).fTo)],0⟩,⟨[2],EF [rS (((Af a ha).fOp).fEntity),rS (((Af a ha).fOp).fID),rS (((Af a ha).fOp).fOp),AD 1 (Ap Ai (((Af a ha).fOp).fArgs)),Aj (((Af a ha).fAnswer).fErr),AD 4 (Ap Ab (((Af a ha).fAnswer).fValue)),Aj ((Af a ha).fFrom),Aj ((Af a ha).fTo)],0⟩,⟨[3],Bd (Am ((Af a ha).fOp)),0⟩,⟨[],AD 8 (Ap Ad b),0⟩,⟨[],Aj ha,0⟩,⟨[5,6],EF [rS (((Af b ha).fOp).fEntity),rS (((Af b ha).fOp).fID),rS (((Af b ha).fOp).fOp),AD 1 (Ap Ai (((Af b ha).fOp).fArgs)),Aj (((Af b ha).fAnswer).fErr),AD 4 (Ap Ab (((Af b ha).fAnswer).fValue)),Aj ((Af b ha).fFrom),Aj ((Af b ha).fTo)],0⟩,⟨[7],EF [rS (((Af b ha).fOp).fEntity),rS (((Af b ha).fOp).fID),rS (((Af b ha).fOp).fOp),AD 1 (Ap Ai (((Af b ha).fOp).fArgs)),Aj (((Af b ha).fAnswer).fErr),AD 4 (Ap Ab (((Af b ha).fAnswer).fValue)),Aj ((Af b ha).fFrom),Aj ((Af b ha).fTo)],0⟩,⟨[8],Bd (Am ((Af b ha).fOp)),0⟩,⟨[4,9],rB (ov (BR F ((Af a ha).fOp) ((Af b ha).fOp))),0⟩,⟨[10],rB (!(ov (BR F ((Af a ha).fOp) ((Af b ha).fOp)))),0⟩,⟨[11],rB (!(ov (BR F ((Af a ha).fOp) ((Af b ha).fOp)))),0⟩,⟨[12],AD 8 (Ap Ad a),0⟩,⟨[12],Aj ha,0⟩,⟨[13,14,12],EF [rS (((Af a ha).fOp).fEntity),rS (((Af a ha).fOp).fID),rS (((Af a ha).fOp).fOp),AD 1 (Ap Ai (((Af a ha).fOp).fArgs)),Aj (((Af a ha).fAnswer).fErr),AD 4 (Ap Ab (((Af a ha).fAnswer).fValue)),Aj ((Af a ha).fFrom),Aj ((Af a ha).fTo)],0⟩,⟨[15,12],EF [Aj (((Af a ha).fAnswer).fErr),AD 4 (Ap Ab (((Af a ha).fAnswer).fValue)),Aj ((Af a ha).fFrom),Aj ((Af a ha).fTo)],0⟩,⟨[16,12],Bd (Ao ((Af a ha).fAnswer)),0⟩,⟨[12],AD 8 (Ap Ad b),0⟩,⟨[12],Aj ha,0⟩,⟨[18,19,12],EF [rS (((Af b ha).fOp).fEntity),rS (((Af b ha).fOp).fID),rS (((Af b ha).fOp).fOp),AD 1 (Ap Ai (((Af b ha).fOp).fArgs)),Aj (((Af b ha).fAnswer).fErr),AD 4 (Ap Ab (((Af b ha).fAnswer).fValue)),Aj ((Af b ha).fFrom),Aj ((Af b ha).fTo)],0⟩,⟨[20,12],EF [Aj (((Af b ha).fAnswer).fErr),AD 4 (Ap Ab (((Af b ha).fAnswer).fValue)),Aj ((Af b ha).fFrom),Aj ((Af b ha).fTo)],0⟩,⟨[21,12],Bd (Ao ((Af b ha).fAnswer)),0⟩,⟨[17,22,12],rB (ov (BD F ((Af a ha).fAnswer) ((Af b ha).fAnswer))),0⟩,⟨[23,12],rB (!(ov (BD F ((Af a ha).fAnswer) ((Af b ha).fAnswer)))),0⟩,⟨[12,24],rB (!(ov (BD F ((Af a ha).fAnswer) ((Af b ha).fAnswer)))),0⟩,⟨[25],rB (!(ov (BD F ((Af a ha).fAnswer) ((Af b ha).fAnswer)))),0⟩,⟨[26],rv undef,0⟩,⟨[26],rv undef,0⟩,⟨[27,28,26],rv undef,0⟩,⟨[29,26],rv undef,0⟩,⟨[30,26],rv undef,0⟩,⟨[26],rv undef,0⟩,⟨[26],rv undef,0⟩,⟨[32,33,26],rv undef,0⟩,⟨[34,26],rv undef,0⟩,⟨[35,26],rv undef,0⟩,⟨[31,36,26],rv undef,0⟩,⟨[26,37],rB true,0⟩,⟨[38],rB true,0⟩,⟨[39],rv undef,0⟩,⟨[39],rv undef,0⟩,⟨[40,41,39],rv undef,0⟩,⟨[42,39],rv undef,0⟩,⟨[43,39],rv undef,0⟩,⟨[39],rv undef,0⟩,⟨[39],rv undef,0⟩,⟨[45,46,39],rv undef,0⟩,⟨[47,39],rv undef,0⟩,⟨[48,39],rv undef,0⟩,⟨[44,49,39],rv undef,0⟩,⟨[39,50],rB true,0⟩] [67,0,1,12,13] ?_ ?_
       ·refine oq (Ay Aa) (oq (Ay Aa) (oq (Bh (enc:=Ad) (ys:=a) Cn BL Aa Aa hf) (oq (AQ C3 Aa Cc Aa Aa) (oq (B6 Es Cc Aa Aa Aa) (oq (Ay Aa) (oq (Ay Aa) (oq (Bh (enc:=Ad) (ys:=b) Cn BL Aa Aa hg) (oq (AQ C3 Aa Cc Aa Aa) (oq (B6 Es Cc Aa Aa Aa) (CV Aa (λH=>D7 SG (H3 F ((Af a ha).fOp) ((Af b ha).fOp) (ov (BR F ((Af a ha).fOp) ((Af b ha).fOp))) (EQ hi)) Aa) ?_))))))))));refine oq (B8 Aa) (oq (Ay Aa) (on hb (oq (Ay Aa) (on hb (oq (Ay Aa) (on hb (oq (Bh (enc:=Ad) (ys:=a) Cn BL Aa Aa hf) (on hb (oq (AQ C3 Aa Bs Aa Aa) (on hb (oq (B6 Cw Bs Aa Aa Aa) (on hb (oq (Ay Aa) (on hb (oq (Ay Aa) (on hb (oq (Bh (enc:=Ad) (ys:=b) Cn BL Aa Aa hg) (on hb (oq (AQ C3 Aa Bs Aa Aa) (on hb (oq (B6 Cw Bs Aa Aa Aa) (CV Aa (λH=>Dh (b:=!(ov (BR F ((Af a ha).fOp) ((Af b ha).fOp)))) Aa Aa hb (D7 Rz (Gd F ((Af a ha).fAnswer) ((Af b ha).fAnswer) (ov (BD F ((Af a ha).fAnswer) ((Af b ha).fAnswer))) (EQ (Dj hl hb))) Aa)) ?_))))))))))))))))))))));refine on hb (oq (B8 Aa) (oq (AH Aa hb Aa) (oq (Ay Aa) (oz hd (oz hd (oz hd (oz hd (oz hd (oz hd (oz hd (oz hd (oz hd (oz hd (oz hd (oq (Ar (b:=!(ov (BD F ((Af a ha).fAnswer) ((Af b ha).fAnswer)))) Aa hd Aa) (oq (Ay Aa) (oz Aa (oz Aa (oz Aa (oz Aa (oz Aa (oz Aa (oz Aa ?_)))))))))))))))))))))));refine oz Aa (oz Aa (oz Aa (oz Aa (oq (Ar (b:=true) Aa Aa Aa) ?_))));exact Di
       exact Cg (And.intro hb hd)
      ·refine AY (!decide (((Af a ha).fFrom)=((Af b ha).fFrom))) (λhe=>?_) (λhe=>?_)
       ·refine Df [0,1,5,12,13] [⟨[],AD 8 (Ap Ad a),0⟩,⟨[],Aj ha,0⟩,⟨[0,1],EF [rS (((Af a ha).fOp).fEntity),rS (((Af a ha).fOp).fID),rS (((Af a ha).fOp).fOp),AD 1 (Ap Ai (((Af a ha).fOp).fArgs)),Aj (((Af a ha).fAnswer).fErr),AD 4 (Ap Ab (((Af a ha).fAnswer).fValue)),Aj ((Af a ha).fFrom),Aj ((Af a ha).fTo)],0⟩,⟨[2],EF [rS (((Af a ha).fOp).fEntity),rS (((Af a ha).fOp).fID),rS (((Af a ha).fOp).fOp),AD 1 (Ap Ai (((Af a ha).fOp).fArgs)),Aj (((Af a ha).fAnswer).fErr),AD 4 (Ap Ab (((Af a ha).fAnswer).fValue)),Aj ((Af a ha).fFrom),Aj ((Af a ha).fTo)],0⟩,⟨[3],Bd (Am ((Af a ha).fOp)),0⟩,⟨[],AD 8 (Ap Ad b),0⟩,⟨[],Aj ha,0⟩,⟨[5,6],EF [rS (((Af b ha).fOp).fEntity),rS (((Af b ha).fOp).fID),rS (((Af b ha).fOp).fOp),AD 1 (Ap Ai (((Af b ha).fOp).fArgs)),Aj (((Af b ha).fAnswer).fErr),AD 4 (Ap Ab (((Af b ha).fAnswer).fValue)),Aj ((Af b ha).fFrom),Aj ((Af b ha).fTo)],0⟩,⟨[7],EF [rS (((Af b ha).fOp).fEntity),rS (((Af b ha).fOp).fID),rS (((Af b ha).fOp).fOp),AD 1 (Ap Ai (((Af b ha).fOp).fArgs)),Aj (((Af b ha).fAnswer).fErr),AD 4 (Ap Ab (((Af b ha).fAnswer).fValue)),Aj ((Af b ha).fFrom),Aj ((Af b ha).fTo)],0⟩,⟨[8],Bd (Am ((Af b ha).fOp)),0⟩,⟨[4,9],rB (ov (BR F ((Af a ha).fOp) ((Af b ha).fOp))),0⟩,⟨[10],rB (!(ov (BR F ((Af a ha).fOp) ((Af b ha).fOp)))),0⟩,⟨[11],rB (!(ov (BR F ((Af a ha).fOp) ((Af b ha).fOp)))),0⟩,⟨[12],AD 8 (Ap Ad a),0⟩,⟨[12],Aj ha,0⟩,⟨[13,14,12],EF [rS (((Af a ha).fOp).fEntity),rS (((Af a ha).fOp).fID),rS (((Af a ha).fOp).fOp),AD 1 (Ap Ai (((Af a ha).fOp).fArgs)),Aj (((Af a ha).fAnswer).fErr),AD 4 (Ap Ab (((Af a ha).fAnswer).fValue)),Aj ((Af a ha).fFrom),Aj ((Af a ha).fTo)],0⟩,⟨[15,12],EF [Aj (((Af a ha).fAnswer).fErr),AD 4 (Ap Ab (((Af a ha).fAnswer).fValue)),Aj ((Af a ha).fFrom),Aj ((Af a ha).fTo)],0⟩,⟨[16,12],Bd (Ao ((Af a ha).fAnswer)),0⟩,⟨[12],AD 8 (Ap Ad b),0⟩,⟨[12],Aj ha,0⟩,⟨[18,19,12],EF [rS (((Af b ha).fOp).fEntity),rS (((Af b ha).fOp).fID),rS (((Af b ha).fOp).fOp),AD 1 (Ap Ai (((Af b ha).fOp).fArgs)),Aj (((Af b ha).fAnswer).fErr),AD 4 (Ap Ab (((Af b ha).fAnswer).fValue)),Aj ((Af b ha).fFrom),Aj ((Af b ha).fTo)],0⟩,⟨[20,12],EF [Aj (((Af b ha).fAnswer).fErr),AD 4 (Ap Ab (((Af b ha).fAnswer).fValue)),Aj ((Af b ha).fFrom),Aj ((Af b ha).fTo)],0⟩,⟨[21,12],Bd (Ao ((Af b ha).fAnswer)),0⟩,⟨[17,22,12],rB (ov (BD F ((Af a ha).fAnswer) ((Af b ha).fAnswer))),0⟩,⟨[23,12],rB (!(ov (BD F ((Af a ha).fAnswer) ((Af b ha).fAnswer)))),0⟩,⟨[12,24],rB (!(ov (BD F ((Af a ha).fAnswer) ((Af b ha).fAnswer)))),0⟩,⟨[25],rB (!(ov (BD F ((Af a ha).fAnswer) ((Af b ha).fAnswer)))),0⟩,⟨[26],AD 8 (Ap Ad a),0⟩,⟨[26],Aj ha,0⟩,⟨[27,28,26],EF [rS (((Af a ha).fOp).fEntity),rS (((Af a ha).fOp).fID),rS (((Af a ha).fOp).fOp),AD 1 (Ap Ai (((Af a ha).fOp).fArgs)),Aj (((Af a ha).fAnswer).fErr),AD 4 (Ap Ab (((Af a ha).fAnswer).fValue)),Aj ((Af a ha).fFrom),Aj ((Af a ha).fTo)],0⟩,⟨[29,26],EF [Aj ((Af a ha).fFrom),Aj ((Af a ha).fTo)],0⟩,⟨[30,26],Aj ((Af a ha).fFrom),0⟩,⟨[26],AD 8 (Ap Ad b),0⟩,⟨[26],Aj ha,0⟩,⟨[32,33,26],EF [rS (((Af b ha).fOp).fEntity),rS (((Af b ha).fOp).fID),rS (((Af b ha).fOp).fOp),AD 1 (Ap Ai (((Af b ha).fOp).fArgs)),Aj (((Af b ha).fAnswer).fErr),AD 4 (Ap Ab (((Af b ha).fAnswer).fValue)),Aj ((Af b ha).fFrom),Aj ((Af b ha).fTo)],0⟩,⟨[34,26],EF [Aj ((Af b ha).fFrom),Aj ((Af b ha).fTo)],0⟩,⟨[35,26],Aj ((Af b ha).fFrom),0⟩,⟨[31,36,26],rB (!decide (((Af a ha).fFrom)=((Af b ha).fFrom))),0⟩,⟨[26,37],rB (!decide (((Af a ha).fFrom)=((Af b ha).fFrom))),0⟩,⟨[38],rB (!decide (((Af a ha).fFrom)=((Af b ha).fFrom))),0⟩,⟨[39],rv undef,0⟩,⟨[39],rv undef,0⟩,⟨[40,41,39],rv undef,0⟩,⟨[42,39],rv undef,0⟩,⟨[43,39],rv undef,0⟩,⟨[39],rv undef,0⟩,⟨[39],rv undef,0⟩,⟨[45,46,39],rv undef,0⟩,⟨[47,39],rv undef,0⟩,⟨[48,39],rv undef,0⟩,⟨[44,49,39],rv undef,0⟩,⟨[39,50],rB true,0⟩] [67,0,1,12,13] ?_ ?_
        ·refine oq (Ay Aa) (oq (Ay Aa) (oq (Bh (enc:=Ad) (ys:=a) Cn BL Aa Aa hf) (oq (AQ C3 Aa Cc Aa Aa) (oq (B6 Es Cc Aa Aa Aa) (oq (Ay Aa) (oq (Ay Aa) (oq (Bh (enc:=Ad) (ys:=b) Cn BL Aa Aa hg) (oq (AQ C3 Aa Cc Aa Aa) (oq (B6 Es Cc Aa Aa Aa) (CV Aa (λH=>D7 SG (H3 F ((Af a ha).fOp) ((Af b ha).fOp) (ov (BR F ((Af a ha).fOp) ((Af b ha).fOp))) (EQ hi)) Aa) ?_))))))))));refine oq (B8 Aa) (oq (Ay Aa) (on hb (oq (Ay Aa) (on hb (oq (Ay Aa) (on hb (oq (Bh (enc:=Ad) (ys:=a) Cn BL Aa Aa hf) (on hb (oq (AQ C3 Aa Bs Aa Aa) (on hb (oq (B6 Cw Bs Aa Aa Aa) (on hb (oq (Ay Aa) (on hb (oq (Ay Aa) (on hb (oq (Bh (enc:=Ad) (ys:=b) Cn BL Aa Aa hg) (on hb (oq (AQ C3 Aa Bs Aa Aa) (on hb (oq (B6 Cw Bs Aa Aa Aa) (CV Aa (λH=>Dh (b:=!(ov (BR F ((Af a ha).fOp) ((Af b ha).fOp)))) Aa Aa hb (D7 Rz (Gd F ((Af a ha).fAnswer) ((Af b ha).fAnswer) (ov (BD F ((Af a ha).fAnswer) ((Af b ha).fAnswer))) (EQ (Dj hl hb))) Aa)) ?_))))))))))))))))))))));refine on hb (oq (B8 Aa) (oq (AH Aa hb Aa) (oq (Ay Aa) (on hd (oq (Ay Aa) (on hd (oq (Ay Aa) (on hd (oq (Bh (enc:=Ad) (ys:=a) Cn BL Aa Aa hf) (on hd (oq (AQ C3 Aa C1 Aa Aa) (on hd (oq (Bg Dm Aa Aa) (on hd (oq (Ay Aa) (on hd (oq (Ay Aa) (on hd (oq (Bh (enc:=Ad) (ys:=b) Cn BL Aa Aa hg) (on hd (oq (AQ C3 Aa C1 Aa Aa) (on hd (oq (Bg Dm Aa Aa) ?_)))))))))))))))))))))));refine on hd (oq (Dp Aa Aa) (oq (AH Aa hd Aa) (oq (Ay Aa) (oz he (oz he (oz he (oz he (oz he (oz he (oz he (oz he (oz he (oz he (oz he (oq (Ar (b:=!decide (((Af a ha).fFrom)=((Af b ha).fFrom))) Aa he Aa) ?_)))))))))))))));exact Di
        exact Cg (And.intro hb (And.intro hd he))
       ·refine Df [0,1,5,12,13] [⟨[],AD 8 (Ap Ad a),0⟩,⟨[],Aj ha,0⟩,⟨[0,1],EF [rS (((Af a ha).fOp).fEntity),rS (((Af a ha).fOp).fID),rS (((Af a ha).fOp).fOp),AD 1 (Ap Ai (((Af a ha).fOp).fArgs)),Aj (((Af a ha).fAnswer).fErr),AD 4 (Ap Ab (((Af a ha).fAnswer).fValue)),Aj ((Af a ha).fFrom),Aj ((Af a ha).fTo)],0⟩,⟨[2],EF [rS (((Af a ha).fOp).fEntity),rS (((Af a ha).fOp).fID),rS (((Af a ha).fOp).fOp),AD 1 (Ap Ai (((Af a ha).fOp).fArgs)),Aj (((Af a ha).fAnswer).fErr),AD 4 (Ap Ab (((Af a ha).fAnswer).fValue)),Aj ((Af a ha).fFrom),Aj ((Af a ha).fTo)],0⟩,⟨[3],Bd (Am ((Af a ha).fOp)),0⟩,⟨[],AD 8 (Ap Ad b),0⟩,⟨[],Aj ha,0⟩,⟨[5,6],EF [rS (((Af b ha).fOp).fEntity),rS (((Af b ha).fOp).fID),rS (((Af b ha).fOp).fOp),AD 1 (Ap Ai (((Af b ha).fOp).fArgs)),Aj (((Af b ha).fAnswer).fErr),AD 4 (Ap Ab (((Af b ha).fAnswer).fValue)),Aj ((Af b ha).fFrom),Aj ((Af b ha).fTo)],0⟩,⟨[7],EF [rS (((Af b ha).fOp).fEntity),rS (((Af b ha).fOp).fID),rS (((Af b ha).fOp).fOp),AD 1 (Ap Ai (((Af b ha).fOp).fArgs)),Aj (((Af b ha).fAnswer).fErr),AD 4 (Ap Ab (((Af b ha).fAnswer).fValue)),Aj ((Af b ha).fFrom),Aj ((Af b ha).fTo)],0⟩,⟨[8],Bd (Am ((Af b ha).fOp)),0⟩,⟨[4,9],rB (ov (BR F ((Af a ha).fOp) ((Af b ha).fOp))),0⟩,⟨[10],rB (!(ov (BR F ((Af a ha).fOp) ((Af b ha).fOp)))),0⟩,⟨[11],rB (!(ov (BR F ((Af a ha).fOp) ((Af b ha).fOp)))),0⟩,⟨[12],AD 8 (Ap Ad a),0⟩,⟨[12],Aj ha,0⟩,⟨[13,14,12],EF [rS (((Af a ha).fOp).fEntity),rS (((Af a ha).fOp).fID),rS (((Af a ha).fOp).fOp),AD 1 (Ap Ai (((Af a ha).fOp).fArgs)),Aj (((Af a ha).fAnswer).fErr),AD 4 (Ap Ab (((Af a ha).fAnswer).fValue)),Aj ((Af a ha).fFrom),Aj ((Af a ha).fTo)],0⟩,⟨[15,12],EF [Aj (((Af a ha).fAnswer).fErr),AD 4 (Ap Ab (((Af a ha).fAnswer).fValue)),Aj ((Af a ha).fFrom),Aj ((Af a ha).fTo)],0⟩,⟨[16,12],Bd (Ao ((Af a ha).fAnswer)),0⟩,⟨[12],AD 8 (Ap Ad b),0⟩,⟨[12],Aj ha,0⟩,⟨[18,19,12],EF [rS (((Af b ha).fOp).fEntity),rS (((Af b ha).fOp).fID),rS (((Af b ha).fOp).fOp),AD 1 (Ap Ai (((Af b ha).fOp).fArgs)),Aj (((Af b ha).fAnswer).fErr),AD 4 (Ap Ab (((Af b ha).fAnswer).fValue)),Aj ((Af b ha).fFrom),Aj ((Af b ha).fTo)],0⟩,⟨[20,12],EF [Aj (((Af b ha).fAnswer).fErr),AD 4 (Ap Ab (((Af b ha).fAnswer).fValue)),Aj ((Af b ha).fFrom),Aj ((Af b ha).fTo)],0⟩,⟨[21,12],Bd (Ao ((Af b ha).fAnswer)),0⟩,⟨[17,22,12],rB (ov (BD F ((Af a ha).fAnswer) ((Af b ha).fAnswer))),0⟩,⟨[23,12],rB (!(ov (BD F ((Af a ha).fAnswer) ((Af b ha).fAnswer)))),0⟩,⟨[12,24],rB (!(ov (BD F ((Af a ha).fAnswer) ((Af b ha).fAnswer)))),0⟩,⟨[25],rB (!(ov (BD F ((Af a ha).fAnswer) ((Af b ha).fAnswer)))),0⟩,⟨[26],AD 8 (Ap Ad a),0⟩,⟨[26],Aj ha,0⟩,⟨[27,28,26],EF [rS (((Af a ha).fOp).fEntity),rS (((Af a ha).fOp).fID),rS (((Af a ha).fOp).fOp),AD 1 (Ap Ai (((Af a ha).fOp).fArgs)),Aj (((Af a ha).fAnswer).fErr),AD 4 (Ap Ab (((Af a ha).fAnswer).fValue)),Aj ((Af a ha).fFrom),Aj ((Af a ha).fTo)],0⟩,⟨[29,26],EF [Aj ((Af a ha).fFrom),Aj ((Af a ha).fTo)],0⟩,⟨[30,26],Aj ((Af a ha).fFrom),0⟩,⟨[26],AD 8 (Ap Ad b),0⟩,⟨[26],Aj ha,0⟩,⟨[32,33,26],EF [rS (((Af b ha).fOp).fEntity),rS (((Af b ha).fOp).fID),rS (((Af b ha).fOp).fOp),AD 1 (Ap Ai (((Af b ha).fOp).fArgs)),Aj (((Af b ha).fAnswer).fErr),AD 4 (Ap Ab (((Af b ha).fAnswer).fValue)),Aj ((Af b ha).fFrom),Aj ((Af b ha).fTo)],0⟩,⟨[34,26],EF [Aj ((Af b ha).fFrom),Aj ((Af b ha).fTo)],0⟩,⟨[35,26],Aj ((Af b ha).fFrom),0⟩,⟨[31,36,26],rB (!decide (((Af a ha).fFrom)=((Af b ha).fFrom))),0⟩,⟨[26,37],rB (!decide (((Af a ha).fFrom)=((Af b ha).fFrom))),0⟩,⟨[38],rB (!decide (((Af a ha).fFrom)=((Af b ha).fFrom))),0⟩,⟨[39],AD 8 (Ap Ad a),0⟩,⟨[39],Aj ha,0⟩,⟨[40,41,39],EF [rS (((Af a ha).fOp).fEntity),rS (((Af a ha).fOp).fID),rS (((Af a ha).fOp).fOp),AD 1 (Ap Ai (((Af a ha).fOp).fArgs)),Aj (((Af a ha).fAnswer).fErr),AD 4 (Ap Ab (((Af a ha).fAnswer).fValue)),Aj ((Af a ha).fFrom),Aj ((Af a ha).fTo)],0⟩,⟨[42,39],EF [Aj ((Af a ha).fTo)],0⟩,⟨[43,39],Aj ((Af a ha).fTo),0⟩,⟨[39],AD 8 (Ap Ad b),0⟩,⟨[39],Aj ha,0⟩,⟨[45,46,39],EF [rS (((Af b ha).fOp).fEntity),rS (((Af b ha).fOp).fID),rS (((Af b ha).fOp).fOp),AD 1 (Ap Ai (((Af b ha).fOp).fArgs)),Aj (((Af b ha).fAnswer).fErr),AD 4 (Ap Ab (((Af b ha).fAnswer).fValue)),Aj ((Af b ha).fFrom),Aj ((Af b ha).fTo)],0⟩,⟨[47,39],EF [Aj ((Af b ha).fTo)],0⟩,⟨[48,39],Aj ((Af b ha).fTo),0⟩,⟨[44,49,39],rB (!decide (((Af a ha).fTo)=((Af b ha).fTo))),0⟩,⟨[39,50],rB (!decide (((Af a ha).fTo)=((Af b ha).fTo))),0⟩] [67,0,1,12,13] ?_ ?_
        ·refine oq (Ay Aa) (oq (Ay Aa) (oq (Bh (enc:=Ad) (ys:=a) Cn BL Aa Aa hf) (oq (AQ C3 Aa Cc Aa Aa) (oq (B6 Es Cc Aa Aa Aa) (oq (Ay Aa) (oq (Ay Aa) (oq (Bh (enc:=Ad) (ys:=b) Cn BL Aa Aa hg) (oq (AQ C3 Aa Cc Aa Aa) (oq (B6 Es Cc Aa Aa Aa) (CV Aa (λH=>D7 SG (H3 F ((Af a ha).fOp) ((Af b ha).fOp) (ov (BR F ((Af a ha).fOp) ((Af b ha).fOp))) (EQ hi)) Aa) ?_))))))))));refine oq (B8 Aa) (oq (Ay Aa) (on hb (oq (Ay Aa) (on hb (oq (Ay Aa) (on hb (oq (Bh (enc:=Ad) (ys:=a) Cn BL Aa Aa hf) (on hb (oq (AQ C3 Aa Bs Aa Aa) (on hb (oq (B6 Cw Bs Aa Aa Aa) (on hb (oq (Ay Aa) (on hb (oq (Ay Aa) (on hb (oq (Bh (enc:=Ad) (ys:=b) Cn BL Aa Aa hg) (on hb (oq (AQ C3 Aa Bs Aa Aa) (on hb (oq (B6 Cw Bs Aa Aa Aa) (CV Aa (λH=>Dh (b:=!(ov (BR F ((Af a ha).fOp) ((Af b ha).fOp)))) Aa Aa hb (D7 Rz (Gd F ((Af a ha).fAnswer) ((Af b ha).fAnswer) (ov (BD F ((Af a ha).fAnswer) ((Af b ha).fAnswer))) (EQ (Dj hl hb))) Aa)) ?_))))))))))))))))))))));refine on hb (oq (B8 Aa) (oq (AH Aa hb Aa) (oq (Ay Aa) (on hd (oq (Ay Aa) (on hd (oq (Ay Aa) (on hd (oq (Bh (enc:=Ad) (ys:=a) Cn BL Aa Aa hf) (on hd (oq (AQ C3 Aa C1 Aa Aa) (on hd (oq (Bg Dm Aa Aa) (on hd (oq (Ay Aa) (on hd (oq (Ay Aa) (on hd (oq (Bh (enc:=Ad) (ys:=b) Cn BL Aa Aa hg) (on hd (oq (AQ C3 Aa C1 Aa Aa) (on hd (oq (Bg Dm Aa Aa) ?_)))))))))))))))))))))));refine on hd (oq (Dp Aa Aa) (oq (AH Aa hd Aa) (oq (Ay Aa) (on he (oq (Ay Aa) (on he (oq (Ay Aa) (on he (oq (Bh (enc:=Ad) (ys:=a) Cn BL Aa Aa hf) (on he (oq (AQ C3 Aa C1 Aa Aa) (on he (oq (Bg Dm Aa Aa) (on he (oq (Ay Aa) (on he (oq (Ay Aa) (on he (oq (Bh (enc:=Ad) (ys:=b) Cn BL Aa Aa hg) (on he (oq (AQ C3 Aa C1 Aa Aa) (on he (oq (Bg Dm Aa Aa) ?_)))))))))))))))))))))));refine on he (oq (Dp Aa Aa) (oq (AH Aa he Aa) ?_));exact Di
        exact Cg (And.intro hb (And.intro hd he))
    refine cz hy Aa (λhz h0=>?_) (λhz h1=>?_)
    ·refine An (wa Aa (Ax (A0 (A9 (Ah (Ah (Bm ?_)))))));have h4:=B9 h0 hk hm;refine A9 (Ah ?_);obtain rfl:=A2 h4;exact Az (BI Tryz.results24 (AR Aa)) sN ⟨Aa,Aa⟩
    ·refine A1 (AL (AT (Au (ck h1 λh5 h6=>wv (B0 Aa Aa h5) (wm Aa (At ?_))))));have h7:=Bn h6 hk;exact AC (AA (hq,ha+1,()) ⟨h7,Xi _⟩ (AJ.c Aa (AJ.c Aa (AJ.c Aa (AJ.c Aa AJ.nil)))) sN)
   ·refine By (A4 ?_);have h8:=BQ ht hk hm;exact A4 (Bi (AA ((),()) h8 AJ.nil sN))
  ·rintro⟨⟨⟩,⟨⟩⟩ hj;refine Cy (l':=[]) (H':=[]) Aa Aa ?_;replace hj:Jh =some r:=hj;unfold Jh at hj;refine Bk (AT (An (wa Aa (Ax (A0 ?_)))));obtain rfl:=A2 hj;exact Az (BI Tryz.results24 (AR Aa)) sN ⟨Aa,Aa⟩
end Go.Proofs.YtfbmdidnlhifjaaGreatDoor.Q
namespace Go.Proofs.YtfbmdidnlhifjaaGreatDoor
open Go
def M1 {T:Type}(xs:List (Aq×T)):Bool:=decide (xs.length*16≤140737488355328)&&xs.all λp=>Ub p.1
def Ls {T:Type}(xs:List (Aq×T)):List Aq:=(xs.map (·.1)).mergeSort λx y=>decide (x≤y)
end Go.Proofs.YtfbmdidnlhifjaaGreatDoor
namespace Go.Proofs.YtfbmdidnlhifjaaGreatDoor.Q
open Go Go.RowKit Go.ChangeMaps
set_option linter.unusedVariables false
set_option linter.unusedSimpArgs false
def RU:Value→Option (DataW Unit×List MemPlace):=λ_=>some (.nil,[])
theorem V3 {P:Program}{k:TypeId}(hkt:P.underlying k=some .string){e:MapEntry}{s:Aq}(he:e.key = .string (B s))(hs:s.length≤maxLen):WideElems.rd P k RU e=some (.string s,.nil):=by
 obtain⟨key,val,born⟩:=e;simp only at he;subst he;exact WideElems.rd_mk (yv:=(.nil,[])) (by simp[keyOf,hkt,mapKey,B];exact hs) rfl
theorem JN.rgs {P:Program}{k:TypeId}(hkt:P.underlying k=some .string){Z:Fz}:∀{f:List (Aq×Rp)} {es:List MapEntry},JN Z f es→(∀p∈f,p.1.length≤maxLen)→es.map (WideElems.rg P k RU)=f.map (λp=>(Lit.string p.1,(.nil:DataW Unit)))∧(∀x∈es,∃y,WideElems.rd P k RU x=some y)∧es.map (·.key)=f.map λp=>Value.string (B p.1)
 | [],[],_,_=>⟨rfl,(λ_ h=>by cases h),rfl⟩
 | p::f,e::es,⟨⟨h1,_⟩,h2⟩,hk=>by
  obtain⟨a1,a2,a3⟩:=JN.rgs hkt h2 λq hq=>hk q (List.mem_cons_of_mem _ hq);have hr:=V3 hkt h1 (hk p (List.mem_cons_self ..));refine⟨?_,λx hx=>?_,?_⟩
  ·rw[XC,XC,a1,WideElems.rg_of hr]
  ·rcases List.mem_cons.1 hx with rfl | hx
   ·exact⟨_,hr⟩
   ·exact a2 x hx
  ·rw[XC,XC,a3,h1]
theorem U7 {P:Program}{k:TypeId}(hkt:P.underlying k=some .string){w:World}{Z:Fz}{b:Nat}{m:List (Aq×Rp)}{es:Array MapEntry}{ck:Nat}(hb:w.heap[b]? =some (.map es ck))(hm:Gm Z m es.toList ck)(hk:∀p∈m,p.1.length≤maxLen)(hsz:m.length≤maxLen) :
  ∃D0:DataW Unit,w.ownsMap P k RU b es.size D0∧(strKeys D0).Perm (m.map (·.1))∧Maps.size D0=m.length:=by
 obtain⟨h1,h2,h3,f,h4,h5⟩:=hm;obtain⟨a1,a2,a3⟩:=JN.rgs hkt h5 λp hp=>hk p (h4.subset hp);have hlen:es.size=m.length:=by
  have e:=congrArg List.length a3;simp only[Xo,Array.length_toList] at e;rw[e];exact h4.length_eq
 have hkey:es.toList.Pairwise (λx y=>x.key≠y.key):=by
  have e:(es.toList.map (·.key)).Nodup:=by
   rw[a3];have hf:(f.map (·.1)).Nodup:=(h4.map _).nodup_iff.2 h1;have:f.map (λp=>Value.string (B p.1))=(f.map (·.1)).map λs=>Value.string (B s):=by rw[XR];rfl
   rw[this];refine List.Pairwise.map _ (λx y hxy e=>hxy ?_) hf;simp[B] at e;exact e
  exact List.pairwise_map.1 e
 refine⟨.map ((es.toList.map (WideElems.rg P k RU)).foldr DataW.insert []),⟨es,ck,hb,⟨by rw[hlen];exact hsz,(MapKept.stamped_iff es ck).2 ⟨h3,h2,hkey⟩,a2⟩,Xq _,rfl⟩,?_,?_⟩
 ·show(((es.toList.map (WideElems.rg P k RU)).foldr DataW.insert []).map λp=>strOf p.1).Perm _;rw[a1];refine((WideShapes.sorted_perm _).map _).trans ?_;rw[XR];exact h4.map _
 ·show((es.toList.map (WideElems.rg P k RU)).foldr DataW.insert []).length=_;rw[length_sorted,Xo,Array.length_toList,hlen]
theorem Qm {w:World}{a b:Nat}{e:TypeId}{sz n:Nat}{v:Value}{us:List Value}(h:w.ownsRow a e sz v n us)(hb:b≤a):w.ownsRow b e sz v n us:=by
 refine⟨h.1,?_⟩;rcases h.2 with hn | ⟨g,cap,cur,rfl,hg,rest⟩
 ·exact .inl hn
 ·exact .inr ⟨g,cap,cur,rfl,Nat.le_trans hb hg,rest⟩
theorem Pb {w:World}{a:Nat}{e:TypeId}{sz n:Nat}{v:Value}{us:List Value}(h:w.ownsRow a e sz v n us):∀k∈v.ownBlock.toList,a≤k:=by
 rcases h.2 with⟨rfl,_⟩ | ⟨g,cap,cur,rfl,hg,rest⟩
 ·intro k hk;simp[Value.ownBlock] at hk
 ·intro k hk;simp[Value.ownBlock] at hk;omega
theorem St.newrow {c:Cx}{H:List Ent}{Z:Fz}{w w':World}(h:St c H Z w)(hb:Below w.heap.size w w'){v:Value}{e:TypeId}{ys:List Aq}(hr:w'.ownsRow w.heap.size e 1 v ys.length (ys.map Go.Proofs.encStr)):St c (.row v e 1 (ys.map eS)::H) Z w':=by
 refine h.add hb.os hb.tape hb.output hb.size (λk hk=>hb.block k hk) ⟨λc hc=>?_,ys.map Go.Proofs.encStr,?_,?_⟩ (λk hk=>Pb hr k hk)
 ·obtain⟨y,_,rfl⟩:=List.mem_map.1 hc;rfl
 ·rw[Xo];exact Qm hr (X5 _)
 ·clear hr
  induction ys with
  | nil=>exact trivial
  | cons y r ih=>exact⟨by show Go.Proofs.encStr y=Value.string (B y);rfl,ih⟩
end Go.Proofs.YtfbmdidnlhifjaaGreatDoor.Q
namespace Go.Proofs.YtfbmdidnlhifjaaGreatDoor
open Go
set_option linter.unusedVariables false
structure A5 where
 fNow:Int
 fEntities:(List (Aq×Int))
 fCalls:(List (Aq×Int))
 deriving DecidableEq,Inhabited
structure As where
 fState:(List Ac)
 fCalls:(List Int)
 fDone:Int
 deriving DecidableEq,Inhabited
def Tv :Option ((A5×(List As)×(List Al))):=
 some ((A5.mk 0 ([]:List (Aq×Int)) ([]:List (Aq×Int))),([]:List As),([]:List Al))
def Vm (d:A5):Option (Bool):=
 some true
def Dy (F:Nat)(d:A5)(d_p1:(List As))(d_p2:(List Al))(op:A6)(now:Int):Option (Int×A5×(List As)×(List Al)):=
 Bt (KT F op) λr2=>Bq (!decide (r2=0)) (some (r2,d,d_p1,d_p2)) (Bq (((decide (now<0))||(decide (1073741824<now)))) (some (2,d,d_p1,d_p2)) (Bq (decide (now<d.fNow)) (some (11,d,d_p1,d_p2)) (Bq (BB d.fCalls op.fID) (Br (decide (0≤(AE d.fCalls op.fID (-1))))<|Br (Ct (AE d.fCalls op.fID (-1)) (d_p2.length:Int))<|Bt (Po F ((Af d_p2 (AE d.fCalls op.fID (-1))).fOp) op) λhb=>Bq (!hb) (some (19,d,d_p1,d_p2)) (some (0,(A5.mk now d.fEntities d.fCalls),d_p1,d_p2))) (Bq (((decide ((d.fCalls.length:Int)=256))||((!(BB d.fEntities op.fEntity))&&(decide ((d.fEntities.length:Int)=256))))) (some (3,d,d_p1,d_p2)) (Bq (!(BB d.fEntities op.fEntity)) (Bt (Nb) λha=>Bt (JA F op) λhd=>Br (Ct (d_p1.length:Int) ((d_p1++[(As.mk ha ([]:List Int) 0)]).length:Int))<|Br (L4 8 (((Af (d_p1++[(As.mk ha ([]:List Int) 0)]) (d_p1.length:Int)).fCalls).length+([(d_p2.length:Int)]:List Int).length))<|some (0,(A5.mk now (mset d.fEntities op.fEntity (d_p1.length:Int)) (mset d.fCalls op.fID (d_p2.length:Int))),List.set (d_p1++[(As.mk ha ([]:List Int) 0)]) (Int.toNat (d_p1.length:Int)) (As.mk ((Af (d_p1++[(As.mk ha ([]:List Int) 0)]) (d_p1.length:Int)).fState) (((Af (d_p1++[(As.mk ha ([]:List Int) 0)]) (d_p1.length:Int)).fCalls)++([(d_p2.length:Int)]:List Int)) ((Af (d_p1++[(As.mk ha ([]:List Int) 0)]) (d_p1.length:Int)).fDone)),d_p2++[(Al.mk hd (A8.mk 0 ([]:List Ac)) now (-1))])) (Bt (JA F op) λhe=>Br (Ct (AE d.fEntities op.fEntity (-1)) (d_p1.length:Int))<|Br (L4 8 (((Af d_p1 (AE d.fEntities op.fEntity (-1))).fCalls).length+([(d_p2.length:Int)]:List Int).length))<|some (0,(A5.mk now d.fEntities (mset d.fCalls op.fID (d_p2.length:Int))),List.set d_p1 (Int.toNat (AE d.fEntities op.fEntity (-1))) (As.mk ((Af d_p1 (AE d.fEntities op.fEntity (-1))).fState) (((Af d_p1 (AE d.fEntities op.fEntity (-1))).fCalls)++([(d_p2.length:Int)]:List Int)) ((Af d_p1 (AE d.fEntities op.fEntity (-1))).fDone)),d_p2++[(Al.mk he (A8.mk 0 ([]:List Ac)) now (-1))])))))))
def DS (F:Nat)(d:A5)(d_p1:(List As))(d_p2:(List Al))(e:Aq)(now:Int)(x5:Bool):Option (Al×Bool×A5×(List As)×(List Al)):=
 Bq (x5) (some ((Al.mk (A6.mk ([]:Aq) ([]:Aq) ([]:Aq) ([]:List (List Ac))) (A8.mk 0 ([]:List Ac)) 0 0),false,d,d_p1,d_p2)) (Bq (BB d.fEntities e) (Br (Ct (AE d.fEntities e (-1)) (d_p1.length:Int))<|Bq (decide (((Af d_p1 (AE d.fEntities e (-1))).fDone)=(((Af d_p1 (AE d.fEntities e (-1))).fCalls).length:Int))) (some ((Al.mk (A6.mk ([]:Aq) ([]:Aq) ([]:Aq) ([]:List (List Ac))) (A8.mk 0 ([]:List Ac)) 0 0),false,d,d_p1,d_p2)) (Br (Ct ((Af d_p1 (AE d.fEntities e (-1))).fDone) (((Af d_p1 (AE d.fEntities e (-1))).fCalls).length:Int))<|Br (decide (0≤(Af ((Af d_p1 (AE d.fEntities e (-1))).fCalls) ((Af d_p1 (AE d.fEntities e (-1))).fDone))))<|Br (Ct (Af ((Af d_p1 (AE d.fEntities e (-1))).fCalls) ((Af d_p1 (AE d.fEntities e (-1))).fDone)) (d_p2.length:Int))<|Bt (VW F ((Af d_p1 (AE d.fEntities e (-1))).fState) ((Af d_p2 (Af ((Af d_p1 (AE d.fEntities e (-1))).fCalls) ((Af d_p1 (AE d.fEntities e (-1))).fDone))).fOp)) λhd=>Bq (!decide (hd.2.2=0)) (some ((Al.mk (A6.mk ([]:Aq) ([]:Aq) ([]:Aq) ([]:List (List Ac))) (A8.mk 0 ([]:List Ac)) 0 0),false,d,d_p1,d_p2)) (Br (Cj .i64 (((Af d_p1 (AE d.fEntities e (-1))).fDone)+1))<|NC (List.set d_p2 (Int.toNat (Af ((Af d_p1 (AE d.fEntities e (-1))).fCalls) ((Af d_p1 (AE d.fEntities e (-1))).fDone))) (Al.mk ((Af d_p2 (Af ((Af d_p1 (AE d.fEntities e (-1))).fCalls) ((Af d_p1 (AE d.fEntities e (-1))).fDone))).fOp) hd.2.1 ((Af d_p2 (Af ((Af d_p1 (AE d.fEntities e (-1))).fCalls) ((Af d_p1 (AE d.fEntities e (-1))).fDone))).fFrom) ((Af d_p2 (Af ((Af d_p1 (AE d.fEntities e (-1))).fCalls) ((Af d_p1 (AE d.fEntities e (-1))).fDone))).fTo))) λhb=>Br (Ct (Af ((Af d_p1 (AE d.fEntities e (-1))).fCalls) ((Af d_p1 (AE d.fEntities e (-1))).fDone)) (hb.length:Int))<|NC (List.set hb (Int.toNat (Af ((Af d_p1 (AE d.fEntities e (-1))).fCalls) ((Af d_p1 (AE d.fEntities e (-1))).fDone))) (Al.mk ((Af hb (Af ((Af d_p1 (AE d.fEntities e (-1))).fCalls) ((Af d_p1 (AE d.fEntities e (-1))).fDone))).fOp) ((Af hb (Af ((Af d_p1 (AE d.fEntities e (-1))).fCalls) ((Af d_p1 (AE d.fEntities e (-1))).fDone))).fAnswer) ((Af hb (Af ((Af d_p1 (AE d.fEntities e (-1))).fCalls) ((Af d_p1 (AE d.fEntities e (-1))).fDone))).fFrom) now)) λha=>Br (Ct (Af ((Af d_p1 (AE d.fEntities e (-1))).fCalls) ((Af d_p1 (AE d.fEntities e (-1))).fDone)) (ha.length:Int))<|Bt (EK F (Al.mk ((Af ha (Af ((Af d_p1 (AE d.fEntities e (-1))).fCalls) ((Af d_p1 (AE d.fEntities e (-1))).fDone))).fOp) ((Af ha (Af ((Af d_p1 (AE d.fEntities e (-1))).fCalls) ((Af d_p1 (AE d.fEntities e (-1))).fDone))).fAnswer) ((Af ha (Af ((Af d_p1 (AE d.fEntities e (-1))).fCalls) ((Af d_p1 (AE d.fEntities e (-1))).fDone))).fFrom) ((Af ha (Af ((Af d_p1 (AE d.fEntities e (-1))).fCalls) ((Af d_p1 (AE d.fEntities e (-1))).fDone))).fTo))) λhe=>some (he,true,(A5.mk now d.fEntities d.fCalls),List.set d_p1 (Int.toNat (AE d.fEntities e (-1))) (As.mk hd.1 ((Af d_p1 (AE d.fEntities e (-1))).fCalls) (((Af d_p1 (AE d.fEntities e (-1))).fDone)+1)),ha)))) (some ((Al.mk (A6.mk ([]:Aq) ([]:Aq) ([]:Aq) ([]:List (List Ac))) (A8.mk 0 ([]:List Ac)) 0 0),false,d,d_p1,d_p2)))
def I5 (F:Nat)(d:A5)(d_p1:(List As))(d_p2:(List Al))(e:Aq)(now:Int):Option (Al×Bool×A5×(List As)×(List Al)):=
 Bq (decide (now<d.fNow)) (DS F d d_p1 d_p2 e now true) (DS F d d_p1 d_p2 e now (decide (1073741824<now)))
def HX (d:A5)(d_p1:(List As))(d_p2:(List Al))(e:Aq):Option ((List Ac)):=
 Bq (BB d.fEntities e) (Br (Ct (AE d.fEntities e (-1)) (d_p1.length:Int))<|Bt (Dr ((Af d_p1 (AE d.fEntities e (-1))).fState)) λr7=>some r7) (Bt (Nb) λha=>some ha)
def E7 (F:Nat)(d:A5)(d_p1:(List As))(d_p2:(List Al))(e:Aq)(hb:(List Al))(ha:Int):Option (Stp ((List Al)×Int) (Out ((List Al)) ((List Al)))):=
 Bq (decide (ha<(((Af d_p1 (AE d.fEntities e (-1))).fCalls).length:Int))) (Br (Ct ha (((Af d_p1 (AE d.fEntities e (-1))).fCalls).length:Int))<|Br (decide (0≤(Af ((Af d_p1 (AE d.fEntities e (-1))).fCalls) ha)))<|Br (Ct (Af ((Af d_p1 (AE d.fEntities e (-1))).fCalls) ha) (d_p2.length:Int))<|Bt (EK F (Al.mk ((Af d_p2 (Af ((Af d_p1 (AE d.fEntities e (-1))).fCalls) ha)).fOp) ((Af d_p2 (Af ((Af d_p1 (AE d.fEntities e (-1))).fCalls) ha)).fAnswer) ((Af d_p2 (Af ((Af d_p1 (AE d.fEntities e (-1))).fCalls) ha)).fFrom) ((Af d_p2 (Af ((Af d_p1 (AE d.fEntities e (-1))).fCalls) ha)).fTo))) λhd=>Br (L4 120 (hb.length+([hd]:List Al).length))<|Br (Cj .i64 (ha+1))<|some (.next (hb++([hd]:List Al),ha+1))) (some (.out (.go hb)))
def Jc (ha:(List Al)):Option ((List Al)):=
 some ha
def HZ (F:Nat)(d:A5)(d_p1:(List As))(d_p2:(List Al))(e:Aq):Option ((List Al)):=
 Bq (!(BB d.fEntities e)) (some ([]:List Al)) (Br (Ct (AE d.fEntities e (-1)) (d_p1.length:Int))<|Bt (BW (λσ=>E7 F d d_p1 d_p2 e σ.1 σ.2) F (([]:List Al),0)) (Cf λν=>Jc ν))
def E4 (ha:Int)(hb:(List Aq)):Option (Stp ((List Aq)×Int) (Out ((List Aq)) ((List Aq)))):=
 Br (Cj .i64 (ha+1))<|some (.next (hb,ha+1))
def Dt (r1:(List Al))(hb:(List Aq))(ha:Int):Option (Stp ((List Aq)×Int) (Out ((List Aq)) ((List Aq)))):=
 Bq (decide (ha<(r1.length:Int))) (Br (Ct ha (r1.length:Int))<|Bq (decide (((Af r1 ha).fTo)=(-1))) (Br (L4 16 (hb.length+([((Af r1 ha).fOp).fID]:List Aq).length))<|E4 ha (hb++([((Af r1 ha).fOp).fID]:List Aq))) (E4 ha hb)) (some (.out (.go hb)))
def Hd (ha:(List Aq)):Option ((List Aq)):=
 some ha
def EJ (F:Nat)(d:A5)(d_p1:(List As))(d_p2:(List Al))(e:Aq):Option ((List Aq)):=
 Bt (HZ F d d_p1 d_p2 e) λr1=>Bt (BW (λσ=>Dt r1 σ.1 σ.2) F (([]:List Aq),0)) (Cf λν=>Hd ν)
def He (F:Nat)(d:A5)(d_p1:(List As))(d_p2:(List Al))(id:Aq):Option (A8×Bool):=
 Br (imp (!(!(BB d.fCalls id))) (decide (0≤(AE d.fCalls id (-1)))))<|Br (imp (!(!(BB d.fCalls id))) (Ct (AE d.fCalls id (-1)) (d_p2.length:Int)))<|Bq (((!(BB d.fCalls id))||(decide (((Af d_p2 (AE d.fCalls id (-1))).fTo)=(-1))))) (some ((A8.mk 0 ([]:List Ac)),false)) (Br (decide (0≤(AE d.fCalls id (-1))))<|Br (Ct (AE d.fCalls id (-1)) (d_p2.length:Int))<|Bt (EK F (Al.mk ((Af d_p2 (AE d.fCalls id (-1))).fOp) ((Af d_p2 (AE d.fCalls id (-1))).fAnswer) ((Af d_p2 (AE d.fCalls id (-1))).fFrom) ((Af d_p2 (AE d.fCalls id (-1))).fTo))) λha=>some (ha.fAnswer,true))
def HY (d:A5)(d_p1:(List As))(d_p2:(List Al)):Option ((List Aq)):=
 Br (M1 d.fEntities)<|some (Ls d.fEntities)
end Go.Proofs.YtfbmdidnlhifjaaGreatDoor
namespace Go.Proofs.YtfbmdidnlhifjaaGreatDoor.Q
open Go Go.RowKit
set_option linter.unusedVariables false
set_option linter.unusedSimpArgs false
set_option linter.unusedSectionVars false
section
variable {P : Program} {n : Nat} {c : Cx} {ops : Array Oper} {Q : Exit → Act → World → Prop} {rest : List Oper} {l : Fr} {H H' Hr : List Ent} {d k b rz : Nat} {ty t e re : TypeId} {pos : String} {af : Array Edge} {pv r : Value} {cs : List Rp} {ys : List (List Rp)} {K : Act → World → Prop} {cx : Code}
theorem P5 {ps:List (Nat×Value)}{i:Nat}{p:Nat×Value}(h:ps[i]? =some p):(N0 ps).Perm ((p.1::p.2.ownBlock.toList)++N0 (ps.eraseIdx i)):=by
 have:ps.Perm (p::ps.eraseIdx i):=by
  induction ps generalizing i with
  | nil=>cases h
  | cons x r ih=>
   cases i with
   | zero=>simp at h;subst h;exact Xd _
   | succ i=>
    simp at h;exact((ih h).cons x).trans (List.Perm.swap p x _)
 exact this.flatMap_right _
theorem UR {ps:List (Nat×Value)}{i:Nat}{p q:Nat×Value}(h:ps[i]? =some p):(N0 (ps.set i q)).Perm ((q.1::q.2.ownBlock.toList)++N0 (ps.eraseIdx i)):=by
 have hi:=(List.getElem?_eq_some_iff.1 h).1;have h1:=P5 (ps:=ps.set i q) (i:=i) (p:=q) (by simp[hi]);have h2:(ps.set i q).eraseIdx i=ps.eraseIdx i:=by
  refine List.ext_getElem? λj=>?_;rw[List.getElem?_eraseIdx,List.getElem?_eraseIdx]
  split
  ·rw[List.getElem?_set_ne (by omega)]
  ·rw[List.getElem?_set_ne (by omega)]
 rw[h2] at h1;exact h1
theorem Rj (ps:List (Nat×Value))(q:Nat×Value):N0 (ps++[q])=N0 ps++(q.1::q.2.ownBlock.toList):=by
 unfold N0;rw[List.flatMap_append];simp
section
variable {Z : Fz} {w : World} {xs : List ((Value → List Rp) × List (List Rp))}
theorem St.takeout (h:St c (.poolw k pv e re rz xs none::Hr) Z w){i:Nat}(hi:i<xs.length) :
  ∃b r,Z.nm k i=some b∧St c (.blk b (xs[i].1 r) e::.row r re rz xs[i].2::.poolw k pv e re rz xs (some (i,(b,r)))::Hr) Z w:=by
 obtain⟨hl,hn,hm,_,hx⟩:=h.has (.poolw k pv e re rz xs none) (by simp);have hp:(Ek pv)[i]? =some (Ek pv)[i]:=Xg (by omega);generalize(Ek pv)[i]=p at hp;obtain⟨b,r⟩:=p;have hperm:=P5 hp;have hnd:=hperm.nodup hn;have hd:=List.pairwise_cons.1 h.dis;have gd:=List.pairwise_cons.1 h.gst.dis;obtain⟨⟨us,h1,h2⟩,h3,vs,h4,h5⟩:=hx i (b,r) xs[i] hp (Xg hi) (λo ho=>by cases ho);rw[List.nodup_append] at hnd;have hin:∀q,q∈(b::r.ownBlock.toList)∨q∈N0 ((Ek pv).eraseIdx i)→q∈(Ent.poolw k pv e re rz xs none).foot:=λq hq=>hperm.symm.subset (List.mem_append.2 hq);have fb:∀q∈(Ent.blk b (xs[i].1 r) e).foot,q∈(Ent.poolw k pv e re rz xs none).foot:=λq hq=>hin q (.inl (by simp[Ent.foot] at hq;simp[hq]));have fr:∀q∈(Ent.row r re rz xs[i].2).foot,q∈(Ent.poolw k pv e re rz xs none).foot:=λq hq=>hin q (.inl (List.mem_cons_of_mem _ hq));have fo:∀q∈(Ent.poolw k pv e re rz xs (some (i,(b,r)))).foot,q∈(Ent.poolw k pv e re rz xs none).foot:=λq hq=>hin q (.inr hq);have hmem:∀en∈(.blk b (xs[i].1 r) e::.row r re rz xs[i].2::.poolw k pv e re rz xs (some (i,(b,r)))::Hr:List Ent),(∀q∈en.foot,q∈(Ent.poolw k pv e re rz xs none).foot)∨en∈Hr:=λen he=>by
  simp only[XG] at he;rcases he with rfl | rfl | rfl | he
  ·exact .inl fb
  ·exact .inl fr
  ·exact .inl fo
  ·exact .inr he
 have hgk:∀en∈(.blk b (xs[i].1 r) e::.row r re rz xs[i].2::.poolw k pv e re rz xs (some (i,(b,r)))::Hr:List Ent),∀q∈en.gk,∃en'∈(.poolw k pv e re rz xs none::Hr:List Ent),q∈en'.gk∧en'.gn=en.gn:=λen he q hq=>by
  simp only[XG] at he;rcases he with rfl | rfl | rfl | he
  ·cases hq
  ·cases hq
  ·exact⟨_,List.mem_cons_self ..,hq,rfl⟩
  ·exact⟨en,List.mem_cons_of_mem _ he,hq,rfl⟩
 refine⟨b,r,hm i _ hp,{ h with has:=λen he=>?_,own:=λen he q hq=>?_,dis:=?_,zdis:=λen he q hq=>?_,gst:=⟨λen he q hq=>?_,λen he q hq=>?_,?_,h.gst.new,λen he q hq j hj=>?_⟩ }⟩
 ·simp only[XG] at he;rcases he with rfl | rfl | rfl | he
  ·exact⟨us,h1,h2⟩
  ·exact⟨h3,vs,h4,h5⟩
  ·exact⟨hl,hnd.2.1,hm,λo ho=>by cases ho;exact hp,λj p x hj hxj hne=>hx j p x hj hxj (λo ho=>by cases ho)⟩
  ·exact h.has en (List.mem_cons_of_mem _ he)
 ·rcases hmem en he with h6 | h6
  ·exact h.own _ (List.mem_cons_self ..) q (h6 q hq)
  ·exact h.own en (List.mem_cons_of_mem _ h6) q hq
 ·have hbr:=List.nodup_cons.1 hnd.1;refine List.pairwise_cons.2 ⟨λen he q hq hq'=>?_,List.pairwise_cons.2 ⟨λen he q hq hq'=>?_,List.pairwise_cons.2 ⟨λen he q hq hq'=>hd.1 en he q (fo q hq) hq',hd.2⟩⟩⟩
  ·have e1:q=b:=by simpa[Ent.foot] using hq
   subst e1;simp only[XG] at he;rcases he with rfl | rfl | he
   ·exact hbr.1 hq'
   ·exact hnd.2.2 q (List.mem_cons_self ..) q hq' rfl
   ·exact hd.1 en he q (fb q hq) hq'
  ·simp only[XG] at he;rcases he with rfl | he
   ·exact hnd.2.2 q (List.mem_cons_of_mem _ hq) q hq' rfl
   ·exact hd.1 en he q (fr q hq) hq'
 ·rcases hmem en he with h6 | h6
  ·exact h.zdis _ (List.mem_cons_self ..) q (h6 q hq)
  ·exact h.zdis en (List.mem_cons_of_mem _ h6) q hq
 ·obtain⟨en',h6,h7,_⟩:=hgk en he q hq;exact h.gst.own en' h6 q h7
 ·obtain⟨en',h6,h7,_⟩:=hgk en he q hq;exact h.gst.sz en' h6 q h7
 ·exact List.pairwise_cons.2 ⟨λ_ _ _ hq=>(by cases hq),List.pairwise_cons.2 ⟨λ_ _ _ hq=>(by cases hq),List.pairwise_cons.2 ⟨gd.1,gd.2⟩⟩⟩
 ·obtain⟨en',h6,h7,h8⟩:=hgk en he q hq;exact h.gst.cap en' h6 q h7 j (by rw[h8];exact hj)
theorem St.putback {i:Nat}{r0:Value}{y:(Value→List Rp)×List (List Rp)}(h:St c (.blk b cs e::.row r re rz ys::.poolw k pv e re rz xs (some (i,(b,r0)))::Hr) Z w)(hcs:y.1 r=cs)(hys:y.2=ys){pv':Value}(hpv:Ek pv'=(Ek pv).set i (b,r)) :
  Z.nm k i=some b∧St c (.poolw k pv' e re rz (xs.set i y) none::Hr) Z w:=by
 obtain⟨us,h1,h2⟩:=h.has (.blk b cs e) (by simp);obtain⟨h3,vs,h4,h5⟩:=h.has (.row r re rz ys) (by simp);obtain⟨hl,hn,hm,ho,hx⟩:=h.has (.poolw k pv e re rz xs (some (i,(b,r0)))) (by simp);have hp:(Ek pv)[i]? =some (b,r0):=ho _ rfl;have hi:i<(Ek pv).length:=(List.getElem?_eq_some_iff.1 hp).1;have hd:=List.pairwise_cons.1 h.dis;have hd2:=List.pairwise_cons.1 hd.2;have hd3:=List.pairwise_cons.1 hd2.2;have gd:=List.pairwise_cons.1 (List.pairwise_cons.1 (List.pairwise_cons.1 h.gst.dis).2).2;have hperm:=UR (q:=(b,r)) hp;have hback:∀q∈(Ent.poolw k pv' e re rz (xs.set i y) none).foot,q=b∨q∈r.ownBlock.toList∨q∈(Ent.poolw k pv e re rz xs (some (i,(b,r0)))).foot:=λq hq=>by
  have h6:q∈N0 ((Ek pv).set i (b,r)):=by rw[← hpv];exact hq
  rcases List.mem_append.1 (hperm.subset h6) with h7 | h7
  ·rcases List.mem_cons.1 h7 with h8 | h8
   ·exact .inl h8
   ·exact .inr (.inl h8)
  ·exact .inr (.inr h7)
 have hbr:b ∉ r.ownBlock.toList:=λhb=>hd.1 (.row r re rz ys) (by simp) b (by simp[Ent.foot]) hb;have hbo:b ∉ (Ent.poolw k pv e re rz xs (some (i,(b,r0)))).foot:=λhb=>hd.1 (.poolw k pv e re rz xs (some (i,(b,r0)))) (by simp) b (by simp[Ent.foot]) hb;have hro:∀q∈r.ownBlock.toList,q ∉ (Ent.poolw k pv e re rz xs (some (i,(b,r0)))).foot:=λq hq hq'=>hd2.1 (.poolw k pv e re rz xs (some (i,(b,r0)))) (by simp) q hq hq';have hrn:(r.ownBlock.toList).Nodup:=by cases r.ownBlock<;>simp
 refine⟨hm i _ hp,{ h with has:=λen he=>?_,own:=λen he q hq=>?_,dis:=List.pairwise_cons.2 ⟨λen he q hq hq'=>?_,hd3.2⟩,zdis:=λen he q hq=>?_,gst:=⟨λen he q hq=>?_,λen he q hq=>?_,List.pairwise_cons.2 ⟨gd.1,gd.2⟩,h.gst.new,λen he q hq j hj=>?_⟩ }⟩
 ·rcases List.mem_cons.1 he with rfl | he
  ·refine⟨by rw[hpv];simpa using hl,?_,λj p hj=>?_,λo ho=>(by cases ho),λj p x hj hxj _=>?_⟩
   ·show(N0 (Ek pv')).Nodup;rw[hpv];refine hperm.symm.nodup ?_;rw[List.nodup_append];exact⟨List.nodup_cons.2 ⟨hbr,hrn⟩,hn,λq hq q' hq' e=>by
     subst e;rcases List.mem_cons.1 hq with rfl | hq
     ·exact hbo hq'
     ·exact hro q hq hq'⟩
   ·rw[hpv,XQ] at hj
    split at hj
    ·rename_i e1;subst e1;simp[hi] at hj;subst hj;exact(hm i _ hp:Z.nm k i=some b)
    ·exact hm j p hj
   ·rw[hpv,XQ] at hj;rw[XQ] at hxj
    by_cases e1:i=j
    ·subst e1;rw[Xr rfl,Xr hi] at hj;rw[Xr rfl,Xr (by omega)] at hxj
     cases hj;cases hxj
     subst hcs;subst hys;exact⟨⟨us,h1,h2⟩,h3,vs,h4,h5⟩
    ·rw[Xn e1] at hj hxj;exact hx j p x hj hxj (λo ho=>by cases ho;exact e1)
  ·exact h.has en (by simp[he])
 ·rcases List.mem_cons.1 he with rfl | he
  ·rcases hback q hq with rfl | h6 | h6
   ·exact h.own (.blk q cs e) (by simp) q (by simp[Ent.foot])
   ·exact h.own (.row r re rz ys) (by simp) q h6
   ·exact h.own (.poolw k pv e re rz xs (some (i,(b,r0)))) (by simp) q h6
  ·exact h.own en (by simp[he]) q hq
 ·rcases hback q hq with rfl | h6 | h6
  ·exact hd.1 en (by simp[he]) q (by simp[Ent.foot]) hq'
  ·exact hd2.1 en (by simp[he]) q h6 hq'
  ·exact hd3.1 en he q h6 hq'
 ·rcases List.mem_cons.1 he with rfl | he
  ·rcases hback q hq with rfl | h6 | h6
   ·exact h.zdis (.blk q cs e) (by simp) q (by simp[Ent.foot])
   ·exact h.zdis (.row r re rz ys) (by simp) q h6
   ·exact h.zdis (.poolw k pv e re rz xs (some (i,(b,r0)))) (by simp) q h6
  ·exact h.zdis en (by simp[he]) q hq
 ·rcases List.mem_cons.1 he with rfl | he
  ·exact h.gst.own (.poolw k pv e re rz xs (some (i,(b,r0)))) (by simp) q hq
  ·exact h.gst.own en (by simp[he]) q hq
 ·rcases List.mem_cons.1 he with rfl | he
  ·exact h.gst.sz (.poolw k pv e re rz xs (some (i,(b,r0)))) (by simp) q hq
  ·exact h.gst.sz en (by simp[he]) q hq
 ·rcases List.mem_cons.1 he with rfl | he
  ·refine h.gst.cap (.poolw k pv e re rz xs (some (i,(b,r0)))) (by simp) q hq j ?_;have:(Ek pv').length≤j:=hj;rw[hpv,XJ] at this;exact this
  ·exact h.gst.cap en (by simp[he]) q hq j hj
theorem St.putsame {i:Nat}(hi:i<xs.length)(h:St c (.blk b (xs[i].1 r) e::.row r re rz xs[i].2::.poolw k pv e re rz xs (some (i,(b,r)))::Hr) Z w):Z.nm k i=some b∧St c (.poolw k pv e re rz xs none::Hr) Z w:=by
 obtain⟨hl,hn,hm,ho,hx⟩:=h.has (.poolw k pv e re rz xs (some (i,(b,r)))) (by simp);have hp:(Ek pv)[i]? =some (b,r):=ho _ rfl;have h1:=St.putback (y:=xs[i]) (pv':=pv) h rfl rfl (by
  refine(List.ext_getElem? λj=>?_);rw[XQ]
  split
  ·rename_i e1;subst e1
   have:=(List.getElem?_eq_some_iff.1 hp).1;rw[Xr this,hp]
  ·rfl)
 rw[List.set_getElem_self] at h1;exact h1
theorem St.adoptW {y:(Value→List Rp)×List (List Rp)}(h:St c (.blk b cs e::.row r re rz ys::.poolw k pv e re rz xs none::Hr) Z w)(hcs:y.1 r=cs)(hys:y.2=ys){pv':Value}(hpv:Ek pv'=Ek pv++[(b,r)]) :
  ∃Z',Fz.le Z Z'∧Z'.nm k xs.length=some b∧St c (.poolw k pv' e re rz (xs++[y]) none::Hr) Z' w:=by
 obtain⟨us,h1,h2⟩:=h.has (.blk b cs e) (by simp);obtain⟨h3,vs,h4,h5⟩:=h.has (.row r re rz ys) (by simp);obtain⟨hl,hn,hm,ho,hx⟩:=h.has (.poolw k pv e re rz xs none) (by simp);have hd:=List.pairwise_cons.1 h.dis;have hd2:=List.pairwise_cons.1 hd.2;have hd3:=List.pairwise_cons.1 hd2.2;have gd:=List.pairwise_cons.1 (List.pairwise_cons.1 (List.pairwise_cons.1 h.gst.dis).2).2;have hcap:=h.gst.cap (.poolw k pv e re rz xs none) (by simp) k (by simp[Ent.gk]);have hksz:=h.gst.sz (.poolw k pv e re rz xs none) (by simp) k (by simp[Ent.gk]);have hkown:=h.gst.own (.poolw k pv e re rz xs none) (by simp) k (by simp[Ent.gk])
 let Z':Fz:=⟨Z.f,λq i=>if q=k∧i=xs.length then some b else Z.nm q i⟩
 have hnew:Z'.nm k xs.length=some b:=by simp[Z']
 have hle:Fz.le Z Z':=⟨λ_ _ h=>h,λq i b' hq=>by
  by_cases hqi:q=k∧i=xs.length
  ·obtain⟨rfl,rfl⟩:=hqi;rw[hcap _ (by simp[Ent.gn,hl])] at hq;cases hq
  ·simpa[Z',hqi] using hq⟩
 have hbr:b ∉ r.ownBlock.toList:=λhb=>hd.1 (.row r re rz ys) (by simp) b (by simp[Ent.foot]) hb;have hbo:b ∉ (Ent.poolw k pv e re rz xs none).foot:=λhb=>hd.1 (.poolw k pv e re rz xs none) (by simp) b (by simp[Ent.foot]) hb;have hro:∀q∈r.ownBlock.toList,q ∉ (Ent.poolw k pv e re rz xs none).foot:=λq hq hq'=>hd2.1 (.poolw k pv e re rz xs none) (by simp) q hq hq';have hrn:(r.ownBlock.toList).Nodup:=by cases r.ownBlock<;>simp
 have hback:∀q∈(Ent.poolw k pv' e re rz (xs++[y]) none).foot,q=b∨q∈r.ownBlock.toList∨q∈(Ent.poolw k pv e re rz xs none).foot:=λq hq=>by
  have h6:q∈N0 (Ek pv++[(b,r)]):=by rw[← hpv];exact hq
  rw[Rj] at h6;rcases List.mem_append.1 h6 with h7 | h7
  ·exact .inr (.inr h7)
  ·rcases List.mem_cons.1 h7 with h8 | h8
   ·exact .inl h8
   ·exact .inr (.inl h8)
 refine⟨Z',hle,hnew,{ h with has:=λen he=>?_,own:=λen he q hq=>?_,dis:=List.pairwise_cons.2 ⟨λen he q hq hq'=>?_,hd3.2⟩,frz:=⟨λb o hb=>h.frz.f b o hb,λq i b' hq=>?_⟩,le:=h.le.trans hle,new:=λb o hb=>h.new b o hb,zdis:=λen he q hq=>?_,env:=h.emono hle h.env,gst:=⟨λen he q hq=>?_,λen he q hq=>?_,List.pairwise_cons.2 ⟨gd.1,gd.2⟩,λq i b' hq=>?_,λen he q hq i hi=>?_⟩ }⟩
 ·rcases List.mem_cons.1 he with rfl | he
  ·refine⟨by rw[hpv];simp[hl],?_,λj p hj=>?_,λo ho=>(by cases ho),λj p x hj hxj _=>?_⟩
   ·show(N0 (Ek pv')).Nodup;rw[hpv,Rj,List.nodup_append];exact⟨hn,List.nodup_cons.2 ⟨hbr,hrn⟩,λq hq q' hq' e=>by
     subst e;rcases List.mem_cons.1 hq' with rfl | hq'
     ·exact hbo hq
     ·exact hro q hq' hq⟩
   ·rw[hpv] at hj
    by_cases hjl:j<(Ek pv).length
    ·rw[X6 hjl] at hj;exact hle.nm k j _ (hm j p hj)
    ·have hj2:j=(Ek pv).length:=by have:=(List.getElem?_eq_some_iff.1 hj).1;simp at this;omega
     subst hj2;simp at hj;subst hj;rw[hl];exact hnew
   ·rw[hpv] at hj
    by_cases hjl:j<(Ek pv).length
    ·rw[X6 hjl] at hj;rw[X6 (by omega)] at hxj;obtain⟨⟨us',g1,g2⟩,g3,vs',g4,g5⟩:=hx j p x hj hxj (λo ho=>by cases ho);exact⟨⟨us',g1,g2.mono hle⟩,g3,vs',g4,g5.mono hle⟩
    ·have hj2:j=(Ek pv).length:=by have:=(List.getElem?_eq_some_iff.1 hj).1;simp at this;omega
     subst hj2;simp at hj;subst hj;rw[hl] at hxj;simp at hxj;subst hxj;subst hcs;subst hys;exact⟨⟨us,h1,h2.mono hle⟩,h3,vs,h4,h5.mono hle⟩
  ·exact Ent.keep (h.has en (by simp[he])) hle λ_ _=>rfl
 ·rcases List.mem_cons.1 he with rfl | he
  ·rcases hback q hq with rfl | h6 | h6
   ·exact h.own (.blk q cs e) (by simp) q (by simp[Ent.foot])
   ·exact h.own (.row r re rz ys) (by simp) q h6
   ·exact h.own (.poolw k pv e re rz xs none) (by simp) q h6
  ·exact h.own en (by simp[he]) q hq
 ·rcases hback q hq with rfl | h6 | h6
  ·exact hd.1 en (by simp[he]) q (by simp[Ent.foot]) hq'
  ·exact hd2.1 en (by simp[he]) q h6 hq'
  ·exact hd3.1 en he q h6 hq'
 ·by_cases hqi:q=k∧i=xs.length
  ·rw[hqi.1];exact hksz
  ·exact h.frz.nm q i b' (by simpa[Z',hqi] using hq)
 ·rcases List.mem_cons.1 he with rfl | he
  ·rcases hback q hq with rfl | h6 | h6
   ·exact h.zdis (.blk q cs e) (by simp) q (by simp[Ent.foot])
   ·exact h.zdis (.row r re rz ys) (by simp) q h6
   ·exact h.zdis (.poolw k pv e re rz xs none) (by simp) q h6
  ·exact h.zdis en (by simp[he]) q hq
 ·rcases List.mem_cons.1 he with rfl | he
  ·simp[Ent.gk] at hq;subst hq;exact hkown
  ·exact h.gst.own en (by simp[he]) q hq
 ·rcases List.mem_cons.1 he with rfl | he
  ·simp[Ent.gk] at hq;subst hq;exact hksz
  ·exact h.gst.sz en (by simp[he]) q hq
 ·by_cases hqi:q=k∧i=xs.length
  ·rw[hqi.1];exact .inr hkown
  ·exact h.gst.new q i b' (by simpa[Z',hqi] using hq)
 ·rcases List.mem_cons.1 he with rfl | he
  ·simp[Ent.gk] at hq;subst hq;have hi':(Ek pv').length≤i:=hi;rw[hpv,Xm] at hi';simp at hi';have hne : ¬ i=xs.length:=by omega
   simp only[Z',hne,and_false,XV];exact hcap i (by simp[Ent.gn];omega)
  ·have hqk:q≠k:=λe1=>gd.1 en he k (by simp[Ent.gk]) (e1▸hq);simp only[Z',hqk,false_and,XV];exact h.gst.cap en (by simp[he]) q hq i hi
end
def Vg (l:Fr)(k:Nat)(i:Int):List Nat→Prop
 | []=>True
 | d::ds=>look l d=some (Gp k i 0)∧Vg l k i ds
def Wp (b:Nat):List Nat→Fr→Fr
 | [],l=>l
 | d::ds,l=>(d,rv (.pointer (some ⟨b,0,none⟩)))::Wp b ds l
def Vb (k:Nat)(i:Int):List Nat→Fr→Fr
 | [],l=>l
 | d::ds,l=>(d,Gp k i 0)::Vb k i ds l
theorem QE {Z:Fz}{a:Act}{i:Int}{l:Fr}(ha:CE n l a Z)(h0:0≤i)(hn:Z.nm k i.toNat=some b):∀{ds:List Nat},Vg l k i ds→CE n (Wp b ds l) a Z
 | [],_=>ha
 | d::ds,⟨h1,h2⟩=>by
  have h3:=QE ha h0 hn h2;refine⟨h3.size,h3.defers,λj u hj=>?_⟩;rw[Wp,BX] at hj
  split at hj
  ·rename_i e;subst e;simp at hj;subst hj
   obtain⟨v,h4,h5⟩:=ha.tm d _ h1
   change NF k i 0 Z v at h5
   unfold NF at h5;rw[Xn (by omega)] at h5;obtain⟨b',g1,g2⟩:=h5;rw[hn] at g1;obtain rfl:=Option.some.inj g1;exact⟨v,h4,g2⟩
  ·exact h3.tm j u hj
theorem JH {Z:Fz}{a:Act}{i:Int}{l:Fr}(ha:CE n l a Z)(h0:0≤i)(hn:Z.nm k i.toNat=some b):∀{ds:List Nat},K9 l b ds→CE n (Vb k i ds l) a Z
 | [],_=>ha
 | d::ds,⟨h1,h2⟩=>by
  have h3:=JH ha h0 hn h2;refine⟨h3.size,h3.defers,λj u hj=>?_⟩;rw[Vb,BX] at hj
  split at hj
  ·rename_i e;subst e;simp at hj;subst hj
   obtain⟨v,h4,h5⟩:=ha.tm d _ h1;refine⟨v,h4,?_⟩;show NF k i 0 Z v;unfold NF;rw[Xn (by omega)];exact⟨b,hn,h5⟩
  ·exact h3.tm j u hj
section
variable {β : Type} [Inhabited β] {xs : List β} {encw : β → (Value → List Rp) × List (List Rp)} {i : Int} {y : β}
theorem St.takeoutE {Z:Fz}{w:World}(hw:St c H Z w)(hp:H.Perm (.poolw k pv e re rz (xs.map encw) none::Hr))(hg:Ct i (xs.length:Int)=true) :
  ∃b r,0≤i∧Z.nm k i.toNat=some b∧St c (.blk b ((encw (Af xs i)).1 r) e::.row r re rz (encw (Af xs i)).2::.poolw k pv e re rz (xs.map encw) (some (i.toNat,(b,r)))::Hr) Z w:=by
 have h0:=(BZ hg).1;have h1:i.toNat<xs.length:=by have:=(BZ hg).2;omega
 obtain⟨b,r,h2,h3⟩:=(hw.perm hp).takeout (i:=i.toNat) (by simpa using h1);have e1:(xs.map encw)[i.toNat]'(by simpa using h1)=encw (Af xs i):=by simp[Af,h1]
 rw[e1] at h3;exact⟨b,r,h0,h2,h3⟩
theorem WL.takeout (hp:H.Perm (.poolw k pv e re rz (xs.map encw) none::Hr))(hg:Ct i (xs.length:Int)=true)(ds:List Nat)(hd:Vg l k i ds)
  (h:∀b r,WL P n c ops Q rest (Wp b ds l) (.blk b ((encw (Af xs i)).1 r) e::.row r re rz (encw (Af xs i)).2::.poolw k pv e re rz (xs.map encw) (some (i.toNat,(b,r)))::Hr)):WL P n c ops Q rest l H:=λa w Z ha hw=>by
 obtain⟨b,r,h0,h1,h2⟩:=St.takeoutE hw hp hg;exact h b r a w Z (QE ha h0 h1 hd) h2
theorem WC.takeout (hp:H.Perm (.poolw k pv e re rz (xs.map encw) none::Hr))(hg:Ct i (xs.length:Int)=true)(ds:List Nat)(hd:Vg l k i ds)
  (h:∀b r,WC P n c cx Q (Wp b ds l) (.blk b ((encw (Af xs i)).1 r) e::.row r re rz (encw (Af xs i)).2::.poolw k pv e re rz (xs.map encw) (some (i.toNat,(b,r)))::Hr)):WC P n c cx Q l H:=λa w Z ha hw=>by
 obtain⟨b,r,h0,h1,h2⟩:=St.takeoutE hw hp hg;exact h b r a w Z (QE ha h0 h1 hd) h2
theorem St.putbackE {Z:Fz}{w:World}{r0:Value}(hw:St c H Z w)(hp:H.Perm (.blk b cs e::.row r re rz ys::.poolw k pv e re rz (xs.map encw) (some (i.toNat,(b,r0)))::Hr))(hcs:(encw y).1 r=cs)(hys:(encw y).2=ys) :
  ∃pv',Z.nm k i.toNat=some b∧St c (.poolw k pv' e re rz ((xs.set i.toNat y).map encw) none::Hr) Z w:=by
 obtain⟨h1,h2⟩:=(hw.perm hp).putback (y:=encw y) (pv':=UD ((Ek pv).set i.toNat (b,r))) hcs hys (QQ _);rw[← List.map_set] at h2;exact⟨_,h1,h2⟩
theorem WL.putback {r0:Value}(hp:H.Perm (.blk b cs e::.row r re rz ys::.poolw k pv e re rz (xs.map encw) (some (i.toNat,(b,r0)))::Hr))(hg:Ct i (xs.length:Int)=true)(ds:List Nat)(hd:K9 l b ds)(hcs:(encw y).1 r=cs)(hys:(encw y).2=ys)
  (h:∀pv',WL P n c ops Q rest (Vb k i ds l) (.poolw k pv' e re rz ((xs.set i.toNat y).map encw) none::Hr)):WL P n c ops Q rest l H:=λa w Z ha hw=>by
 obtain⟨pv',h1,h2⟩:=St.putbackE hw hp hcs hys;exact h pv' a w Z (JH ha (BZ hg).1 h1 hd) h2
theorem WC.putback {r0:Value}(hp:H.Perm (.blk b cs e::.row r re rz ys::.poolw k pv e re rz (xs.map encw) (some (i.toNat,(b,r0)))::Hr))(hg:Ct i (xs.length:Int)=true)(ds:List Nat)(hd:K9 l b ds)(hcs:(encw y).1 r=cs)(hys:(encw y).2=ys)
  (h:∀pv',WC P n c cx Q (Vb k i ds l) (.poolw k pv' e re rz ((xs.set i.toNat y).map encw) none::Hr)):WC P n c cx Q l H:=λa w Z ha hw=>by
 obtain⟨pv',h1,h2⟩:=St.putbackE hw hp hcs hys;exact h pv' a w Z (JH ha (BZ hg).1 h1 hd) h2
theorem WK.putback {r0:Value}(hp:H.Perm (.blk b cs e::.row r re rz ys::.poolw k pv e re rz (xs.map encw) (some (i.toNat,(b,r0)))::Hr))(hg:Ct i (xs.length:Int)=true)(ds:List Nat)(hd:K9 l b ds)(hcs:(encw y).1 r=cs)(hys:(encw y).2=ys)
  (h:∀pv',WK n c K (Vb k i ds l) (.poolw k pv' e re rz ((xs.set i.toNat y).map encw) none::Hr)):WK n c K l H:=λa w Z ha hw=>by
 obtain⟨pv',h1,h2⟩:=St.putbackE hw hp hcs hys;exact h pv' a w Z (JH ha (BZ hg).1 h1 hd) h2
theorem St.putsameE {Z:Fz}{w:World}(hw:St c H Z w)(hp:H.Perm (.blk b cs e::.row r re rz ys::.poolw k pv e re rz (xs.map encw) (some (i.toNat,(b,r)))::Hr))(hg:Ct i (xs.length:Int)=true)(hcs:(encw (Af xs i)).1 r=cs)(hys:(encw (Af xs i)).2=ys) :
  Z.nm k i.toNat=some b∧St c (.poolw k pv e re rz (xs.map encw) none::Hr) Z w:=by
 have h1:i.toNat<xs.length:=by have:=BZ hg;omega
 have e1:(xs.map encw)[i.toNat]'(by simpa using h1)=encw (Af xs i):=by simp[Af,h1]
 subst hcs;subst hys;have h2:=hw.perm hp;rw[← e1] at h2;exact St.putsame (by simpa using h1) h2
theorem WL.putsame (hp:H.Perm (.blk b cs e::.row r re rz ys::.poolw k pv e re rz (xs.map encw) (some (i.toNat,(b,r)))::Hr))(hg:Ct i (xs.length:Int)=true)(ds:List Nat)(hd:K9 l b ds)(hcs:(encw (Af xs i)).1 r=cs)(hys:(encw (Af xs i)).2=ys)
  (h:WL P n c ops Q rest (Vb k i ds l) (.poolw k pv e re rz (xs.map encw) none::Hr)):WL P n c ops Q rest l H:=λa w Z ha hw=>by
 obtain⟨h1,h2⟩:=St.putsameE hw hp hg hcs hys;exact h a w Z (JH ha (BZ hg).1 h1 hd) h2
theorem WC.putsame (hp:H.Perm (.blk b cs e::.row r re rz ys::.poolw k pv e re rz (xs.map encw) (some (i.toNat,(b,r)))::Hr))(hg:Ct i (xs.length:Int)=true)(ds:List Nat)(hd:K9 l b ds)(hcs:(encw (Af xs i)).1 r=cs)(hys:(encw (Af xs i)).2=ys)
  (h:WC P n c cx Q (Vb k i ds l) (.poolw k pv e re rz (xs.map encw) none::Hr)):WC P n c cx Q l H:=λa w Z ha hw=>by
 obtain⟨h1,h2⟩:=St.putsameE hw hp hg hcs hys;exact h a w Z (JH ha (BZ hg).1 h1 hd) h2
theorem WK.putsame (hp:H.Perm (.blk b cs e::.row r re rz ys::.poolw k pv e re rz (xs.map encw) (some (i.toNat,(b,r)))::Hr))(hg:Ct i (xs.length:Int)=true)(ds:List Nat)(hd:K9 l b ds)(hcs:(encw (Af xs i)).1 r=cs)(hys:(encw (Af xs i)).2=ys)
  (h:WK n c K (Vb k i ds l) (.poolw k pv e re rz (xs.map encw) none::Hr)):WK n c K l H:=λa w Z ha hw=>by
 obtain⟨h1,h2⟩:=St.putsameE hw hp hg hcs hys;exact h a w Z (JH ha (BZ hg).1 h1 hd) h2
theorem St.adoptWE {Z:Fz}{w:World}(hw:St c H Z w)(hp:H.Perm (.blk b cs e::.row r re rz ys::.poolw k pv e re rz (xs.map encw) none::Hr))(hcs:(encw y).1 r=cs)(hys:(encw y).2=ys) :
  ∃Z' pv',Fz.le Z Z'∧Z'.nm k xs.length=some b∧St c (.poolw k pv' e re rz ((xs++[y]).map encw) none::Hr) Z' w:=by
 obtain⟨Z',h1,h2,h3⟩:=(hw.perm hp).adoptW (y:=encw y) (pv':=UD (Ek pv++[(b,r)])) hcs hys (QQ _);rw[Xo] at h2;exact⟨Z',_,h1,h2,by rw[XM];exact h3⟩
theorem WL.adoptW (hp:H.Perm (.blk b cs e::.row r re rz ys::.poolw k pv e re rz (xs.map encw) none::Hr))(ds:List Nat)(hd:K9 l b ds)(hcs:(encw y).1 r=cs)(hys:(encw y).2=ys)
  (h:∀pv',WL P n c ops Q rest (Vp k xs.length ds l) (.poolw k pv' e re rz ((xs++[y]).map encw) none::Hr)):WL P n c ops Q rest l H:=λa w Z ha hw=>by
 obtain⟨Z',pv',h1,h2,h3⟩:=St.adoptWE hw hp hcs hys;exact h pv' a w Z' (Le (ha.mono h1) h2 hd) h3
theorem WC.adoptW (hp:H.Perm (.blk b cs e::.row r re rz ys::.poolw k pv e re rz (xs.map encw) none::Hr))(ds:List Nat)(hd:K9 l b ds)(hcs:(encw y).1 r=cs)(hys:(encw y).2=ys)
  (h:∀pv',WC P n c cx Q (Vp k xs.length ds l) (.poolw k pv' e re rz ((xs++[y]).map encw) none::Hr)):WC P n c cx Q l H:=λa w Z ha hw=>by
 obtain⟨Z',pv',h1,h2,h3⟩:=St.adoptWE hw hp hcs hys;exact h pv' a w Z' (Le (ha.mono h1) h2 hd) h3
end
theorem I2:Ek (.tuple #[])=[]:=rfl
theorem L0 (hn:Nat.blt d n=true)(h:∀b,WL P n c ops Q rest ((d,rv (.map (some b)))::l) (.poolw b (.tuple #[]) e re rz [] none::.map b []::H)) :
  WL P n c ops Q ({ dst:=some d,op:=.makeMap t none,type:=ty,pos:=pos,after:=af,guard:=none }::rest) l H:=
 KC (λa w Z ha hw=>by
  have h1:=hw.alloc (.map #[] 0) (e:=.map w.heap.size []) ⟨#[],0,by simpa using heap_alloc_new w _,by simp,by simp,by simp,[],Xd _,trivial⟩ rfl;refine⟨_,w.alloc (.map #[] 0),_,_,Z,by simp[execOp,run_makeMap],Fz.le.refl _,rfl,?_,h w.heap.size⟩;have hz:∀i,Z.nm w.heap.size i=none:=λi=>by
   cases hq:Z.nm w.heap.size i with
   | none=>rfl
   | some b=>have:=hw.frz.nm _ _ _ hq;omega
  have hold:∀en∈(Ent.map w.heap.size []::H),∀q∈en.gk,q<w.heap.size:=λen he q hq=>by
   rcases List.mem_cons.1 he with rfl | he
   ·simp[Ent.gk] at hq
   ·exact hw.gst.sz en he q hq
  have hf:∀q,q ∉ (Ent.poolw w.heap.size (.tuple #[]) e re rz [] none).foot:=λq hq=>by simp[Ent.foot,I2,Qp,N0] at hq
  refine { h1 with has:=λen he=>?_,own:=λen he q hq=>?_,dis:=List.pairwise_cons.2 ⟨λen he q hq=>absurd hq (hf q),h1.dis⟩,zdis:=λen he q hq=>?_,gst:=⟨λen he q hq=>?_,λen he q hq=>?_,List.pairwise_cons.2 ⟨λen he q hq hq'=>?_,h1.gst.dis⟩,h1.gst.new,λen he q hq i hi=>?_⟩ }
  ·rcases List.mem_cons.1 he with rfl | he
   ·exact⟨by simp[I2],by simp[I2,Qp,N0],by simp[I2],λo ho=>(by cases ho),by simp[I2]⟩
   ·exact h1.has en he
  ·rcases List.mem_cons.1 he with rfl | he
   ·exact absurd hq (hf q)
   ·exact h1.own en he q hq
  ·rcases List.mem_cons.1 he with rfl | he
   ·exact absurd hq (hf q)
   ·exact h1.zdis en he q hq
  ·rcases List.mem_cons.1 he with rfl | he
   ·simp[Ent.gk] at hq;subst hq;exact .inl hw.size
   ·exact h1.gst.own en he q hq
  ·rcases List.mem_cons.1 he with rfl | he
   ·simp[Ent.gk] at hq;subst hq;simp
   ·exact h1.gst.sz en he q hq
  ·simp[Ent.gk] at hq;subst hq;have:=hold en he _ hq';omega
  ·rcases List.mem_cons.1 he with rfl | he
   ·simp[Ent.gk] at hq;subst hq;exact hz i
   ·exact h1.gst.cap en he q hq i hi) hn
end
end Go.Proofs.YtfbmdidnlhifjaaGreatDoor.Q
namespace Go.Proofs
open Go.Shelf
def Tryz.sort73_ren:Go.Shelf.Ren:=⟨fun | 6=>73 | 8=>89 | 9=>88 | 19=>113 | 20=>114 | 21=>104 | 22=>105 | 23=>106 | 24=>107 | 25=>108 | 26=>109 | 27=>110 | 28=>111 | 29=>112 | 36=>120 | 31=>121 | 32=>122 | 37=>123 | 38=>124 | 39=>125 | 41=>131 | n=>n,fun | 27=>49 | 29=>9 | 3=>3 | 32=>134 | 26=>49 | 0=>0 | 44=>149 | 46=>151 | 4=>4 | 36=>142 | 35=>141 | 41=>101 | 5=>5 | 9=>9 | 53=>155 | 57=>159 | 63=>166 | 64=>167 | n=>n,fun | n=>n⟩
theorem Tryz.sort73:Go.Proofs.SlLaysM.n6 Tryz.prog Tryz.sort73_ren:={
 mixed:=by kernel_rfl
 f6:=⟨Tryz.f73.name,by decide,Tryz.func73.trans (congrArg some (by kernel_rfl))⟩
 f8:=Tryz.func89.trans (congrArg some (by kernel_rfl))
 f9:=⟨Tryz.f88.name,by decide,Tryz.func88.trans (congrArg some (by kernel_rfl))⟩
 f19:=Tryz.func113.trans (congrArg some (by kernel_rfl))
 f20:=Tryz.func114.trans (congrArg some (by kernel_rfl))
 f21:=⟨Tryz.f104.name,by decide,Tryz.func104.trans (congrArg some (by kernel_rfl))⟩
 f22:=⟨Tryz.f105.name,by decide,Tryz.func105.trans (congrArg some (by kernel_rfl))⟩
 f23:=⟨Tryz.f106.name,by decide,Tryz.func106.trans (congrArg some (by kernel_rfl))⟩
 f24:=⟨Tryz.f107.name,by decide,Tryz.func107.trans (congrArg some (by kernel_rfl))⟩
 f25:=⟨Tryz.f108.name,by decide,Tryz.func108.trans (congrArg some (by kernel_rfl))⟩
 f26:=⟨Tryz.f109.name,by decide,Tryz.func109.trans (congrArg some (by kernel_rfl))⟩
 f27:=⟨Tryz.f110.name,by decide,Tryz.func110.trans (congrArg some (by kernel_rfl))⟩
 f28:=⟨Tryz.f111.name,by decide,Tryz.func111.trans (congrArg some (by kernel_rfl))⟩
 f29:=⟨Tryz.f112.name,by decide,Tryz.func112.trans (congrArg some (by kernel_rfl))⟩
 f31:=Tryz.func121.trans (congrArg some (by kernel_rfl))
 f32:=Tryz.func122.trans (congrArg some (by kernel_rfl))
 f36:=⟨Tryz.f120.name,by decide,Tryz.func120.trans (congrArg some (by kernel_rfl))⟩
 f37:=⟨Tryz.f123.name,by decide,Tryz.func123.trans (congrArg some (by kernel_rfl))⟩
 f38:=⟨Tryz.f124.name,by decide,Tryz.func124.trans (congrArg some (by kernel_rfl))⟩
 f39:=⟨Tryz.f125.name,by decide,Tryz.func125.trans (congrArg some (by kernel_rfl))⟩
 f41:=⟨Tryz.f131.name,by decide,Tryz.func131.trans (congrArg some (by kernel_rfl))⟩
 t0:=Tryz.underlying0
 a0:=Tryz.isAgg0
 z0:=Tryz.sizeOf0
 v0:=Tryz.zeroValue0
 t3:=Tryz.underlying3
 a3:=Tryz.isAgg3
 z3:=Tryz.sizeOf3
 v3:=Tryz.zeroValue3
 t4:=Tryz.underlying4
 a4:=Tryz.isAgg4
 z4:=Tryz.sizeOf4
 v4:=Tryz.zeroValue4
 t5:=Tryz.underlying5
 a5:=Tryz.isAgg5
 z5:=Tryz.sizeOf5
 v5:=Tryz.zeroValue5
 t9:=Tryz.underlying9
 a9:=Tryz.isAgg9
 z9:=Tryz.sizeOf9
 v9:=Tryz.zeroValue9
 t26:=Tryz.underlying49
 a26:=Tryz.isAgg49
 z26:=Tryz.sizeOf49
 v26:=Tryz.zeroValue49
 t27:=Tryz.underlying49
 a27:=Tryz.isAgg49
 z27:=Tryz.sizeOf49
 v27:=Tryz.zeroValue49
 t29:=Tryz.underlying9
 a29:=Tryz.isAgg9
 z29:=Tryz.sizeOf9
 v29:=Tryz.zeroValue9
 t32:=Tryz.underlying134
 a32:=Tryz.isAgg134
 z32:=Tryz.sizeOf134
 v32:=Tryz.zeroValue134
 t35:=Tryz.underlying141
 a35:=Tryz.isAgg141
 z35:=Tryz.sizeOf141
 v35:=Tryz.zeroValue141
 t36:=Tryz.underlying142
 a36:=Tryz.isAgg142
 z36:=Tryz.sizeOf142
 v36:=Tryz.zeroValue142
 t41:=Tryz.underlying101
 a41:=Tryz.isAgg101
 z41:=Tryz.sizeOf101
 v41:=Tryz.zeroValue101
 t44:=Tryz.underlying149
 a44:=Tryz.isAgg149
 z44:=Tryz.sizeOf149
 v44:=Tryz.zeroValue149
 t46:=Tryz.underlying151
 a46:=Tryz.isAgg151
 z46:=Tryz.sizeOf151
 v46:=Tryz.zeroValue151
 t53:=Tryz.underlying155
 a53:=Tryz.isAgg155
 z53:=Tryz.sizeOf155
 v53:=Tryz.zeroValue155
 t57:=Tryz.underlying159
 a57:=Tryz.isAgg159
 z57:=Tryz.sizeOf159
 v57:=Tryz.zeroValue159
 t63:=Tryz.underlying166
 a63:=Tryz.isAgg166
 z63:=Tryz.sizeOf166
 v63:=Tryz.zeroValue166
 t64:=Tryz.underlying167
 a64:=Tryz.isAgg167
 z64:=Tryz.sizeOf167
 v64:=Tryz.zeroValue167 }
def Tryz.sorted49_ren:Go.Shelf.Ren:=⟨fun | 6=>49 | 8=>72 | 9=>73 | 11=>87 | 13=>89 | 12=>88 | 23=>113 | 24=>114 | 14=>104 | 15=>105 | 16=>106 | 17=>107 | 18=>108 | 19=>109 | 20=>110 | 21=>111 | 22=>112 | 25=>120 | 26=>121 | 27=>122 | 28=>123 | 29=>124 | 30=>125 | 31=>131 | n=>n,fun | 26=>9 | 28=>95 | 24=>49 | 0=>0 | 3=>3 | 37=>134 | 48=>149 | 50=>151 | 4=>4 | 40=>142 | 39=>141 | 45=>101 | 5=>5 | 9=>9 | 51=>155 | 55=>159 | 57=>166 | 58=>167 | 33=>103 | n=>n,fun | n=>n⟩
theorem Tryz.sorted49:Go.Proofs.SlLaysZ.n6 Tryz.prog Tryz.sorted49_ren:={
 mixed:=by kernel_rfl
 f6:=⟨Tryz.f49.name,by decide,Tryz.func49.trans (congrArg some (by kernel_rfl))⟩
 f8:=⟨Tryz.f72.name,by decide,Tryz.func72.trans (congrArg some (by kernel_rfl))⟩
 f11:=⟨Tryz.f87.name,by decide,Tryz.func87.trans (congrArg some (by kernel_rfl))⟩
 t0:=Tryz.underlying0
 a0:=Tryz.isAgg0
 z0:=Tryz.sizeOf0
 v0:=Tryz.zeroValue0
 t24:=Tryz.underlying49
 a24:=Tryz.isAgg49
 z24:=Tryz.sizeOf49
 v24:=Tryz.zeroValue49
 t26:=Tryz.underlying9
 a26:=Tryz.isAgg9
 z26:=Tryz.sizeOf9
 v26:=Tryz.zeroValue9
 t28:=Tryz.underlying95
 a28:=Tryz.isAgg95
 z28:=Tryz.sizeOf95
 v28:=Tryz.zeroValue95
 i26:=by kernel_rfl }
def Tryz.keys50_ren:Go.Shelf.Ren:=⟨fun | 7=>50 | 10=>74 | n=>n,fun | 23=>65 | 26=>9 | 3=>83 | 28=>95 | 0=>0 | 27=>94 | 33=>103 | 4=>4 | n=>n,fun | n=>n⟩
theorem Tryz.keys50:Go.Proofs.SlLaysZ.n7 Tryz.prog Tryz.keys50_ren:={
 mixed:=by kernel_rfl
 f7:=⟨Tryz.f50.name,by decide,Tryz.func50.trans (congrArg some (by kernel_rfl))⟩
 f10:=⟨Tryz.f74.name,by decide,Tryz.func74.trans (congrArg some (by kernel_rfl))⟩
 t0:=Tryz.underlying0
 a0:=Tryz.isAgg0
 z0:=Tryz.sizeOf0
 v0:=Tryz.zeroValue0
 t4:=Tryz.underlying4
 a4:=Tryz.isAgg4
 z4:=Tryz.sizeOf4
 v4:=Tryz.zeroValue4
 t23:=Tryz.underlying65
 a23:=Tryz.isAgg65
 z23:=Tryz.sizeOf65
 v23:=Tryz.zeroValue65
 t26:=Tryz.underlying9
 a26:=Tryz.isAgg9
 z26:=Tryz.sizeOf9
 v26:=Tryz.zeroValue9
 t27:=Tryz.underlying94
 a27:=Tryz.isAgg94
 z27:=Tryz.sizeOf94
 v27:=Tryz.zeroValue94
 t28:=Tryz.underlying95
 a28:=Tryz.isAgg95
 z28:=Tryz.sizeOf95
 v28:=Tryz.zeroValue95
 t33:=Tryz.underlying103
 a33:=Tryz.isAgg103
 z33:=Tryz.sizeOf103
 v33:=Tryz.zeroValue103 }
end Go.Proofs
