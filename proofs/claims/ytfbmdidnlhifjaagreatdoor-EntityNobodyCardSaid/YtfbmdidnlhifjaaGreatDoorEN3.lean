/-
  Texts of the proof, put together: Qw, Iter, QKs, WNc, PNd, Qy, WNd, OkEntityNobody, LvA, LvB, LvC, LvD, LvE, LvF, LvG, LvH, LvI, LvJ, LvK, LvL, LnS, LnA, LnB, LnC, LnN, LwENobody.
-/
import Derived.Test.YtfbmdidnlhifjaaGreatDoorEN2
import Derived.Shelf.SlIter.Nil
import Derived.Shelf.SortM.Plain
import Derived.Shelf.SortM.SortNone
import Derived.Test.YtfbmdidnlhifjaaGreatDoorProg
import Derived.LoopN
import GoSem.ClaimData
namespace Go.Proofs.YtfbmdidnlhifjaaGreatDoor.Q
open Go Go.RowKit
set_option linter.unusedVariables false
set_option linter.unusedSimpArgs false
set_option linter.unusedSectionVars false
section
variable {P : Program} {n : Nat} {c : Cx} {ops : Array Oper} {Q : Exit → Act → World → Prop} {rest : List Oper} {l : Fr} {H H' Hr : List Ent} {d k b rz : Nat} {ty t e re : TypeId} {pos : String} {af : Array Edge} {pv r : Value} {cs : List Rp} {ys : List (List Rp)} {K : Act → World → Prop} {cx : Code}
theorem Kr {ps:List (Nat×Value)}{i:Nat}{p:Nat×Value}(h:ps[i]? =some p):(IO ps).Perm ((p.1::p.2.ownBlock.toList)++IO (ps.eraseIdx i)):=by
 have:ps.Perm (p::ps.eraseIdx i):=by
  induction ps generalizing i with
  | nil=>cases h
  | cons x r ih=>
   cases i with
   | zero=>simp at h;subst h;exact PO _
   | succ i=>
    simp at h;exact((ih h).cons x).trans (List.Perm.swap p x _)
 exact this.flatMap_right _
theorem NV {ps:List (Nat×Value)}{i:Nat}{p q:Nat×Value}(h:ps[i]? =some p):(IO (ps.set i q)).Perm ((q.1::q.2.ownBlock.toList)++IO (ps.eraseIdx i)):=by
 have hi:=(List.getElem?_eq_some_iff.1 h).1;have h1:=Kr (ps:=ps.set i q) (i:=i) (p:=q) (by simp[hi]);have h2:(ps.set i q).eraseIdx i=ps.eraseIdx i:=by
  refine List.ext_getElem? λj=>?_;rw[List.getElem?_eraseIdx,List.getElem?_eraseIdx]
  split
  ·rw[List.getElem?_set_ne (by omega)]
  ·rw[List.getElem?_set_ne (by omega)]
 rw[h2] at h1;exact h1
theorem Lz (ps:List (Nat×Value))(q:Nat×Value):IO (ps++[q])=IO ps++(q.1::q.2.ownBlock.toList):=by
 unfold IO;rw[List.flatMap_append];simp
section
variable {Z : Fz} {w : World} {xs : List ((Value → List Rp) × List (List Rp))}
theorem St.takeout (h:St c (.poolw k pv e re rz xs none::Hr) Z w){i:Nat}(hi:i<xs.length) :
  ∃b r,Z.nm k i=some b∧St c (.blk b (xs[i].1 r) e::.row r re rz xs[i].2::.poolw k pv e re rz xs (some (i,(b,r)))::Hr) Z w:=by
 obtain⟨hl,hn,hm,_,hx⟩:=h.has (.poolw k pv e re rz xs none) (by simp);have hp:(Cz pv)[i]? =some (Cz pv)[i]:=PR (by omega);generalize(Cz pv)[i]=p at hp;obtain⟨b,r⟩:=p;have hperm:=Kr hp;have hnd:=hperm.nodup hn;have hd:=List.pairwise_cons.1 h.dis;have gd:=List.pairwise_cons.1 h.gst.dis;obtain⟨⟨us,h1,h2⟩,h3,vs,h4,h5⟩:=hx i (b,r) xs[i] hp (PR hi) (λo ho=>by cases ho);rw[List.nodup_append] at hnd;have hin:∀q,q∈(b::r.ownBlock.toList)∨q∈IO ((Cz pv).eraseIdx i)→q∈(Ent.poolw k pv e re rz xs none).foot:=λq hq=>hperm.symm.subset (List.mem_append.2 hq);have fb:∀q∈(Ent.blk b (xs[i].1 r) e).foot,q∈(Ent.poolw k pv e re rz xs none).foot:=λq hq=>hin q (.inl (by simp[Ent.foot] at hq;simp[hq]));have fr:∀q∈(Ent.row r re rz xs[i].2).foot,q∈(Ent.poolw k pv e re rz xs none).foot:=λq hq=>hin q (.inl (List.mem_cons_of_mem _ hq));have fo:∀q∈(Ent.poolw k pv e re rz xs (some (i,(b,r)))).foot,q∈(Ent.poolw k pv e re rz xs none).foot:=λq hq=>hin q (.inr hq);have hmem:∀en∈(.blk b (xs[i].1 r) e::.row r re rz xs[i].2::.poolw k pv e re rz xs (some (i,(b,r)))::Hr:List Ent),(∀q∈en.foot,q∈(Ent.poolw k pv e re rz xs none).foot)∨en∈Hr:=λen he=>by
  simp only[Qq] at he;rcases he with rfl | rfl | rfl | he
  ·exact .inl fb
  ·exact .inl fr
  ·exact .inl fo
  ·exact .inr he
 have hgk:∀en∈(.blk b (xs[i].1 r) e::.row r re rz xs[i].2::.poolw k pv e re rz xs (some (i,(b,r)))::Hr:List Ent),∀q∈en.gk,∃en'∈(.poolw k pv e re rz xs none::Hr:List Ent),q∈en'.gk∧en'.gn=en.gn:=λen he q hq=>by
  simp only[Qq] at he;rcases he with rfl | rfl | rfl | he
  ·cases hq
  ·cases hq
  ·exact⟨_,List.mem_cons_self ..,hq,rfl⟩
  ·exact⟨en,List.mem_cons_of_mem _ he,hq,rfl⟩
 refine⟨b,r,hm i _ hp,{ h with has:=λen he=>?_,own:=λen he q hq=>?_,dis:=?_,zdis:=λen he q hq=>?_,gst:=⟨λen he q hq=>?_,λen he q hq=>?_,?_,h.gst.new,λen he q hq j hj=>?_⟩ }⟩
 ·simp only[Qq] at he;rcases he with rfl | rfl | rfl | he
  ·exact⟨us,h1,h2⟩
  ·exact⟨h3,vs,h4,h5⟩
  ·exact⟨hl,hnd.2.1,hm,λo ho=>by cases ho;exact hp,λj p x hj hxj hne=>hx j p x hj hxj (λo ho=>by cases ho)⟩
  ·exact h.has en (List.mem_cons_of_mem _ he)
 ·rcases hmem en he with h6 | h6
  ·exact h.own _ (List.mem_cons_self ..) q (h6 q hq)
  ·exact h.own en (List.mem_cons_of_mem _ h6) q hq
 ·have hbr:=List.nodup_cons.1 hnd.1;refine List.pairwise_cons.2 ⟨λen he q hq hq'=>?_,List.pairwise_cons.2 ⟨λen he q hq hq'=>?_,List.pairwise_cons.2 ⟨λen he q hq hq'=>hd.1 en he q (fo q hq) hq',hd.2⟩⟩⟩
  ·have e1:q=b:=by simpa[Ent.foot] using hq
   subst e1;simp only[Qq] at he;rcases he with rfl | rfl | he
   ·exact hbr.1 hq'
   ·exact hnd.2.2 q (List.mem_cons_self ..) q hq' rfl
   ·exact hd.1 en he q (fb q hq) hq'
  ·simp only[Qq] at he;rcases he with rfl | he
   ·exact hnd.2.2 q (List.mem_cons_of_mem _ hq) q hq' rfl
   ·exact hd.1 en he q (fr q hq) hq'
 ·rcases hmem en he with h6 | h6
  ·exact h.zdis _ (List.mem_cons_self ..) q (h6 q hq)
  ·exact h.zdis en (List.mem_cons_of_mem _ h6) q hq
 ·obtain⟨en',h6,h7,_⟩:=hgk en he q hq;exact h.gst.own en' h6 q h7
 ·obtain⟨en',h6,h7,_⟩:=hgk en he q hq;exact h.gst.sz en' h6 q h7
 ·exact List.pairwise_cons.2 ⟨λ_ _ _ hq=>(by cases hq),List.pairwise_cons.2 ⟨λ_ _ _ hq=>(by cases hq),List.pairwise_cons.2 ⟨gd.1,gd.2⟩⟩⟩
 ·obtain⟨en',h6,h7,h8⟩:=hgk en he q hq;exact h.gst.cap en' h6 q h7 j (by rw[h8];exact hj)
theorem St.putback {i:Nat}{r0:Value}{y:(Value→List Rp)×List (List Rp)}(h:St c (.blk b cs e::.row r re rz ys::.poolw k pv e re rz xs (some (i,(b,r0)))::Hr) Z w)(hcs:y.1 r=cs)(hys:y.2=ys){pv':Value}(hpv:Cz pv'=(Cz pv).set i (b,r)) :
  Z.nm k i=some b∧St c (.poolw k pv' e re rz (xs.set i y) none::Hr) Z w:=by
 obtain⟨us,h1,h2⟩:=h.has (.blk b cs e) (by simp);obtain⟨h3,vs,h4,h5⟩:=h.has (.row r re rz ys) (by simp);obtain⟨hl,hn,hm,ho,hx⟩:=h.has (.poolw k pv e re rz xs (some (i,(b,r0)))) (by simp);have hp:(Cz pv)[i]? =some (b,r0):=ho _ rfl;have hi:i<(Cz pv).length:=(List.getElem?_eq_some_iff.1 hp).1;have hd:=List.pairwise_cons.1 h.dis;have hd2:=List.pairwise_cons.1 hd.2;have hd3:=List.pairwise_cons.1 hd2.2;have gd:=List.pairwise_cons.1 (List.pairwise_cons.1 (List.pairwise_cons.1 h.gst.dis).2).2;have hperm:=NV (q:=(b,r)) hp;have hback:∀q∈(Ent.poolw k pv' e re rz (xs.set i y) none).foot,q=b∨q∈r.ownBlock.toList∨q∈(Ent.poolw k pv e re rz xs (some (i,(b,r0)))).foot:=λq hq=>by
  have h6:q∈IO ((Cz pv).set i (b,r)):=by rw[← hpv];exact hq
  rcases List.mem_append.1 (hperm.subset h6) with h7 | h7
  ·rcases List.mem_cons.1 h7 with h8 | h8
   ·exact .inl h8
   ·exact .inr (.inl h8)
  ·exact .inr (.inr h7)
 have hbr:b ∉ r.ownBlock.toList:=λhb=>hd.1 (.row r re rz ys) (by simp) b (by simp[Ent.foot]) hb;have hbo:b ∉ (Ent.poolw k pv e re rz xs (some (i,(b,r0)))).foot:=λhb=>hd.1 (.poolw k pv e re rz xs (some (i,(b,r0)))) (by simp) b (by simp[Ent.foot]) hb;have hro:∀q∈r.ownBlock.toList,q ∉ (Ent.poolw k pv e re rz xs (some (i,(b,r0)))).foot:=λq hq hq'=>hd2.1 (.poolw k pv e re rz xs (some (i,(b,r0)))) (by simp) q hq hq';have hrn:(r.ownBlock.toList).Nodup:=by cases r.ownBlock<;>simp
 refine⟨hm i _ hp,{ h with has:=λen he=>?_,own:=λen he q hq=>?_,dis:=List.pairwise_cons.2 ⟨λen he q hq hq'=>?_,hd3.2⟩,zdis:=λen he q hq=>?_,gst:=⟨λen he q hq=>?_,λen he q hq=>?_,List.pairwise_cons.2 ⟨gd.1,gd.2⟩,h.gst.new,λen he q hq j hj=>?_⟩ }⟩
 ·rcases List.mem_cons.1 he with rfl | he
  ·refine⟨by rw[hpv];simpa using hl,?_,λj p hj=>?_,λo ho=>(by cases ho),λj p x hj hxj _=>?_⟩
   ·show(IO (Cz pv')).Nodup;rw[hpv];refine hperm.symm.nodup ?_;rw[List.nodup_append];exact⟨List.nodup_cons.2 ⟨hbr,hrn⟩,hn,λq hq q' hq' e=>by
     subst e;rcases List.mem_cons.1 hq with rfl | hq
     ·exact hbo hq'
     ·exact hro q hq hq'⟩
   ·rw[hpv,Q1] at hj
    split at hj
    ·rename_i e1;subst e1;simp[hi] at hj;subst hj;exact(hm i _ hp:Z.nm k i=some b)
    ·exact hm j p hj
   ·rw[hpv,Q1] at hj;rw[Q1] at hxj
    by_cases e1:i=j
    ·subst e1;rw[if_pos rfl,if_pos hi] at hj;rw[if_pos rfl,if_pos (by omega)] at hxj
     cases hj;cases hxj
     subst hcs;subst hys;exact⟨⟨us,h1,h2⟩,h3,vs,h4,h5⟩
    ·rw[Qm e1] at hj hxj;exact hx j p x hj hxj (λo ho=>by cases ho;exact e1)
  ·exact h.has en (by simp[he])
 ·rcases List.mem_cons.1 he with rfl | he
  ·rcases hback q hq with rfl | h6 | h6
   ·exact h.own (.blk q cs e) (by simp) q (by simp[Ent.foot])
   ·exact h.own (.row r re rz ys) (by simp) q h6
   ·exact h.own (.poolw k pv e re rz xs (some (i,(b,r0)))) (by simp) q h6
  ·exact h.own en (by simp[he]) q hq
 ·rcases hback q hq with rfl | h6 | h6
  ·exact hd.1 en (by simp[he]) q (by simp[Ent.foot]) hq'
  ·exact hd2.1 en (by simp[he]) q h6 hq'
  ·exact hd3.1 en he q h6 hq'
 ·rcases List.mem_cons.1 he with rfl | he
  ·rcases hback q hq with rfl | h6 | h6
   ·exact h.zdis (.blk q cs e) (by simp) q (by simp[Ent.foot])
   ·exact h.zdis (.row r re rz ys) (by simp) q h6
   ·exact h.zdis (.poolw k pv e re rz xs (some (i,(b,r0)))) (by simp) q h6
  ·exact h.zdis en (by simp[he]) q hq
 ·rcases List.mem_cons.1 he with rfl | he
  ·exact h.gst.own (.poolw k pv e re rz xs (some (i,(b,r0)))) (by simp) q hq
  ·exact h.gst.own en (by simp[he]) q hq
 ·rcases List.mem_cons.1 he with rfl | he
  ·exact h.gst.sz (.poolw k pv e re rz xs (some (i,(b,r0)))) (by simp) q hq
  ·exact h.gst.sz en (by simp[he]) q hq
 ·rcases List.mem_cons.1 he with rfl | he
  ·refine h.gst.cap (.poolw k pv e re rz xs (some (i,(b,r0)))) (by simp) q hq j ?_;have:(Cz pv').length≤j:=hj;rw[hpv,List.length_set] at this;exact this
  ·exact h.gst.cap en (by simp[he]) q hq j hj
theorem St.putsame {i:Nat}(hi:i<xs.length)(h:St c (.blk b (xs[i].1 r) e::.row r re rz xs[i].2::.poolw k pv e re rz xs (some (i,(b,r)))::Hr) Z w):Z.nm k i=some b∧St c (.poolw k pv e re rz xs none::Hr) Z w:=by
 obtain⟨hl,hn,hm,ho,hx⟩:=h.has (.poolw k pv e re rz xs (some (i,(b,r)))) (by simp);have hp:(Cz pv)[i]? =some (b,r):=ho _ rfl;have h1:=St.putback (y:=xs[i]) (pv':=pv) h rfl rfl (by
  refine(List.ext_getElem? λj=>?_);rw[Q1]
  split
  ·rename_i e1;subst e1
   have:=(List.getElem?_eq_some_iff.1 hp).1;rw[if_pos this,hp]
  ·rfl)
 rw[List.set_getElem_self] at h1;exact h1
theorem St.adoptW {y:(Value→List Rp)×List (List Rp)}(h:St c (.blk b cs e::.row r re rz ys::.poolw k pv e re rz xs none::Hr) Z w)(hcs:y.1 r=cs)(hys:y.2=ys){pv':Value}(hpv:Cz pv'=Cz pv++[(b,r)]) :
  ∃Z',Fz.le Z Z'∧Z'.nm k xs.length=some b∧St c (.poolw k pv' e re rz (xs++[y]) none::Hr) Z' w:=by
 obtain⟨us,h1,h2⟩:=h.has (.blk b cs e) (by simp);obtain⟨h3,vs,h4,h5⟩:=h.has (.row r re rz ys) (by simp);obtain⟨hl,hn,hm,ho,hx⟩:=h.has (.poolw k pv e re rz xs none) (by simp);have hd:=List.pairwise_cons.1 h.dis;have hd2:=List.pairwise_cons.1 hd.2;have hd3:=List.pairwise_cons.1 hd2.2;have gd:=List.pairwise_cons.1 (List.pairwise_cons.1 (List.pairwise_cons.1 h.gst.dis).2).2;have hcap:=h.gst.cap (.poolw k pv e re rz xs none) (by simp) k (by simp[Ent.gk]);have hksz:=h.gst.sz (.poolw k pv e re rz xs none) (by simp) k (by simp[Ent.gk]);have hkown:=h.gst.own (.poolw k pv e re rz xs none) (by simp) k (by simp[Ent.gk])
 let Z':Fz:=⟨Z.f,λq i=>if q=k∧i=xs.length then some b else Z.nm q i⟩
 have hnew:Z'.nm k xs.length=some b:=by simp[Z']
 have hle:Fz.le Z Z':=⟨λ_ _ h=>h,λq i b' hq=>by
  by_cases hqi:q=k∧i=xs.length
  ·obtain⟨rfl,rfl⟩:=hqi;rw[hcap _ (by simp[Ent.gn,hl])] at hq;cases hq
  ·simpa[Z',hqi] using hq⟩
 have hbr:b ∉ r.ownBlock.toList:=λhb=>hd.1 (.row r re rz ys) (by simp) b (by simp[Ent.foot]) hb;have hbo:b ∉ (Ent.poolw k pv e re rz xs none).foot:=λhb=>hd.1 (.poolw k pv e re rz xs none) (by simp) b (by simp[Ent.foot]) hb;have hro:∀q∈r.ownBlock.toList,q ∉ (Ent.poolw k pv e re rz xs none).foot:=λq hq hq'=>hd2.1 (.poolw k pv e re rz xs none) (by simp) q hq hq';have hrn:(r.ownBlock.toList).Nodup:=by cases r.ownBlock<;>simp
 have hback:∀q∈(Ent.poolw k pv' e re rz (xs++[y]) none).foot,q=b∨q∈r.ownBlock.toList∨q∈(Ent.poolw k pv e re rz xs none).foot:=λq hq=>by
  have h6:q∈IO (Cz pv++[(b,r)]):=by rw[← hpv];exact hq
  rw[Lz] at h6;rcases List.mem_append.1 h6 with h7 | h7
  ·exact .inr (.inr h7)
  ·rcases List.mem_cons.1 h7 with h8 | h8
   ·exact .inl h8
   ·exact .inr (.inl h8)
 refine⟨Z',hle,hnew,{ h with has:=λen he=>?_,own:=λen he q hq=>?_,dis:=List.pairwise_cons.2 ⟨λen he q hq hq'=>?_,hd3.2⟩,frz:=⟨λb o hb=>h.frz.f b o hb,λq i b' hq=>?_⟩,le:=h.le.trans hle,new:=λb o hb=>h.new b o hb,zdis:=λen he q hq=>?_,env:=h.emono hle h.env,gst:=⟨λen he q hq=>?_,λen he q hq=>?_,List.pairwise_cons.2 ⟨gd.1,gd.2⟩,λq i b' hq=>?_,λen he q hq i hi=>?_⟩ }⟩
 ·rcases List.mem_cons.1 he with rfl | he
  ·refine⟨by rw[hpv];simp[hl],?_,λj p hj=>?_,λo ho=>(by cases ho),λj p x hj hxj _=>?_⟩
   ·show(IO (Cz pv')).Nodup;rw[hpv,Lz,List.nodup_append];exact⟨hn,List.nodup_cons.2 ⟨hbr,hrn⟩,λq hq q' hq' e=>by
     subst e;rcases List.mem_cons.1 hq' with rfl | hq'
     ·exact hbo hq
     ·exact hro q hq' hq⟩
   ·rw[hpv] at hj
    by_cases hjl:j<(Cz pv).length
    ·rw[Qc hjl] at hj;exact hle.nm k j _ (hm j p hj)
    ·have hj2:j=(Cz pv).length:=by have:=(List.getElem?_eq_some_iff.1 hj).1;simp at this;omega
     subst hj2;simp at hj;subst hj;rw[hl];exact hnew
   ·rw[hpv] at hj
    by_cases hjl:j<(Cz pv).length
    ·rw[Qc hjl] at hj;rw[Qc (by omega)] at hxj;obtain⟨⟨us',g1,g2⟩,g3,vs',g4,g5⟩:=hx j p x hj hxj (λo ho=>by cases ho);exact⟨⟨us',g1,g2.mono hle⟩,g3,vs',g4,g5.mono hle⟩
    ·have hj2:j=(Cz pv).length:=by have:=(List.getElem?_eq_some_iff.1 hj).1;simp at this;omega
     subst hj2;simp at hj;subst hj;rw[hl] at hxj;simp at hxj;subst hxj;subst hcs;subst hys;exact⟨⟨us,h1,h2.mono hle⟩,h3,vs,h4,h5.mono hle⟩
  ·exact Ent.keep (h.has en (by simp[he])) hle λ_ _=>rfl
 ·rcases List.mem_cons.1 he with rfl | he
  ·rcases hback q hq with rfl | h6 | h6
   ·exact h.own (.blk q cs e) (by simp) q (by simp[Ent.foot])
   ·exact h.own (.row r re rz ys) (by simp) q h6
   ·exact h.own (.poolw k pv e re rz xs none) (by simp) q h6
  ·exact h.own en (by simp[he]) q hq
 ·rcases hback q hq with rfl | h6 | h6
  ·exact hd.1 en (by simp[he]) q (by simp[Ent.foot]) hq'
  ·exact hd2.1 en (by simp[he]) q h6 hq'
  ·exact hd3.1 en he q h6 hq'
 ·by_cases hqi:q=k∧i=xs.length
  ·rw[hqi.1];exact hksz
  ·exact h.frz.nm q i b' (by simpa[Z',hqi] using hq)
 ·rcases List.mem_cons.1 he with rfl | he
  ·rcases hback q hq with rfl | h6 | h6
   ·exact h.zdis (.blk q cs e) (by simp) q (by simp[Ent.foot])
   ·exact h.zdis (.row r re rz ys) (by simp) q h6
   ·exact h.zdis (.poolw k pv e re rz xs none) (by simp) q h6
  ·exact h.zdis en (by simp[he]) q hq
 ·rcases List.mem_cons.1 he with rfl | he
  ·simp[Ent.gk] at hq;subst hq;exact hkown
  ·exact h.gst.own en (by simp[he]) q hq
 ·rcases List.mem_cons.1 he with rfl | he
  ·simp[Ent.gk] at hq;subst hq;exact hksz
  ·exact h.gst.sz en (by simp[he]) q hq
 ·by_cases hqi:q=k∧i=xs.length
  ·rw[hqi.1];exact .inr hkown
  ·exact h.gst.new q i b' (by simpa[Z',hqi] using hq)
 ·rcases List.mem_cons.1 he with rfl | he
  ·simp[Ent.gk] at hq;subst hq;have hi':(Cz pv').length≤i:=hi;rw[hpv,List.length_append] at hi';simp at hi';have hne : ¬ i=xs.length:=by omega
   simp only[Z',hne,and_false,if_false];exact hcap i (by simp[Ent.gn];omega)
  ·have hqk:q≠k:=λe1=>gd.1 en he k (by simp[Ent.gk]) (e1▸hq);simp only[Z',hqk,false_and,if_false];exact h.gst.cap en (by simp[he]) q hq i hi
end
def Om (l:Fr)(k:Nat)(i:Int):List Nat→Prop
 | []=>True
 | d::ds=>look l d=some (DF k i 0)∧Om l k i ds
def Po (b:Nat):List Nat→Fr→Fr
 | [],l=>l
 | d::ds,l=>(d,rv (.pointer (some ⟨b,0,none⟩)))::Po b ds l
def Oe (k:Nat)(i:Int):List Nat→Fr→Fr
 | [],l=>l
 | d::ds,l=>(d,DF k i 0)::Oe k i ds l
theorem Lb {Z:Fz}{a:Act}{i:Int}{l:Fr}(ha:BO n l a Z)(h0:0≤i)(hn:Z.nm k i.toNat=some b):∀{ds:List Nat},Om l k i ds→BO n (Po b ds l) a Z
 | [],_=>ha
 | d::ds,⟨h1,h2⟩=>by
  have h3:=Lb ha h0 hn h2;refine⟨h3.size,h3.defers,λj u hj=>?_⟩;rw[Po,Bo] at hj
  split at hj
  ·rename_i e;subst e;simp at hj;subst hj
   obtain⟨v,h4,h5⟩:=ha.tm d _ h1
   change IW k i 0 Z v at h5
   unfold IW at h5;rw[Qm (by omega)] at h5;obtain⟨b',g1,g2⟩:=h5;rw[hn] at g1;obtain rfl:=Option.some.inj g1;exact⟨v,h4,g2⟩
  ·exact h3.tm j u hj
theorem Gq {Z:Fz}{a:Act}{i:Int}{l:Fr}(ha:BO n l a Z)(h0:0≤i)(hn:Z.nm k i.toNat=some b):∀{ds:List Nat},GQ l b ds→BO n (Oe k i ds l) a Z
 | [],_=>ha
 | d::ds,⟨h1,h2⟩=>by
  have h3:=Gq ha h0 hn h2;refine⟨h3.size,h3.defers,λj u hj=>?_⟩;rw[Oe,Bo] at hj
  split at hj
  ·rename_i e;subst e;simp at hj;subst hj
   obtain⟨v,h4,h5⟩:=ha.tm d _ h1;refine⟨v,h4,?_⟩;show IW k i 0 Z v;unfold IW;rw[Qm (by omega)];exact⟨b,hn,h5⟩
  ·exact h3.tm j u hj
section
variable {β : Type} [Inhabited β] {xs : List β} {encw : β → (Value → List Rp) × List (List Rp)} {i : Int} {y : β}
theorem St.takeoutE {Z:Fz}{w:World}(hw:St c H Z w)(hp:H.Perm (.poolw k pv e re rz (xs.map encw) none::Hr))(hg:BV i (xs.length:Int)=true) :
  ∃b r,0≤i∧Z.nm k i.toNat=some b∧St c (.blk b ((encw (Aj xs i)).1 r) e::.row r re rz (encw (Aj xs i)).2::.poolw k pv e re rz (xs.map encw) (some (i.toNat,(b,r)))::Hr) Z w:=by
 have h0:=(By hg).1;have h1:i.toNat<xs.length:=by have:=(By hg).2;omega
 obtain⟨b,r,h2,h3⟩:=(hw.perm hp).takeout (i:=i.toNat) (by simpa using h1);have e1:(xs.map encw)[i.toNat]'(by simpa using h1)=encw (Aj xs i):=by simp[Aj,h1]
 rw[e1] at h3;exact⟨b,r,h0,h2,h3⟩
theorem WL.takeout (hp:H.Perm (.poolw k pv e re rz (xs.map encw) none::Hr))(hg:BV i (xs.length:Int)=true)(ds:List Nat)(hd:Om l k i ds)
  (h:∀b r,WL P n c ops Q rest (Po b ds l) (.blk b ((encw (Aj xs i)).1 r) e::.row r re rz (encw (Aj xs i)).2::.poolw k pv e re rz (xs.map encw) (some (i.toNat,(b,r)))::Hr)):WL P n c ops Q rest l H:=λa w Z ha hw=>by
 obtain⟨b,r,h0,h1,h2⟩:=St.takeoutE hw hp hg;exact h b r a w Z (Lb ha h0 h1 hd) h2
theorem WC.takeout (hp:H.Perm (.poolw k pv e re rz (xs.map encw) none::Hr))(hg:BV i (xs.length:Int)=true)(ds:List Nat)(hd:Om l k i ds)
  (h:∀b r,WC P n c cx Q (Po b ds l) (.blk b ((encw (Aj xs i)).1 r) e::.row r re rz (encw (Aj xs i)).2::.poolw k pv e re rz (xs.map encw) (some (i.toNat,(b,r)))::Hr)):WC P n c cx Q l H:=λa w Z ha hw=>by
 obtain⟨b,r,h0,h1,h2⟩:=St.takeoutE hw hp hg;exact h b r a w Z (Lb ha h0 h1 hd) h2
theorem St.putbackE {Z:Fz}{w:World}{r0:Value}(hw:St c H Z w)(hp:H.Perm (.blk b cs e::.row r re rz ys::.poolw k pv e re rz (xs.map encw) (some (i.toNat,(b,r0)))::Hr))(hcs:(encw y).1 r=cs)(hys:(encw y).2=ys) :
  ∃pv',Z.nm k i.toNat=some b∧St c (.poolw k pv' e re rz ((xs.set i.toNat y).map encw) none::Hr) Z w:=by
 obtain⟨h1,h2⟩:=(hw.perm hp).putback (y:=encw y) (pv':=NN ((Cz pv).set i.toNat (b,r))) hcs hys (Ln _);rw[← List.map_set] at h2;exact⟨_,h1,h2⟩
theorem WL.putback {r0:Value}(hp:H.Perm (.blk b cs e::.row r re rz ys::.poolw k pv e re rz (xs.map encw) (some (i.toNat,(b,r0)))::Hr))(hg:BV i (xs.length:Int)=true)(ds:List Nat)(hd:GQ l b ds)(hcs:(encw y).1 r=cs)(hys:(encw y).2=ys)
  (h:∀pv',WL P n c ops Q rest (Oe k i ds l) (.poolw k pv' e re rz ((xs.set i.toNat y).map encw) none::Hr)):WL P n c ops Q rest l H:=λa w Z ha hw=>by
 obtain⟨pv',h1,h2⟩:=St.putbackE hw hp hcs hys;exact h pv' a w Z (Gq ha (By hg).1 h1 hd) h2
theorem WC.putback {r0:Value}(hp:H.Perm (.blk b cs e::.row r re rz ys::.poolw k pv e re rz (xs.map encw) (some (i.toNat,(b,r0)))::Hr))(hg:BV i (xs.length:Int)=true)(ds:List Nat)(hd:GQ l b ds)(hcs:(encw y).1 r=cs)(hys:(encw y).2=ys)
  (h:∀pv',WC P n c cx Q (Oe k i ds l) (.poolw k pv' e re rz ((xs.set i.toNat y).map encw) none::Hr)):WC P n c cx Q l H:=λa w Z ha hw=>by
 obtain⟨pv',h1,h2⟩:=St.putbackE hw hp hcs hys;exact h pv' a w Z (Gq ha (By hg).1 h1 hd) h2
theorem WK.putback {r0:Value}(hp:H.Perm (.blk b cs e::.row r re rz ys::.poolw k pv e re rz (xs.map encw) (some (i.toNat,(b,r0)))::Hr))(hg:BV i (xs.length:Int)=true)(ds:List Nat)(hd:GQ l b ds)(hcs:(encw y).1 r=cs)(hys:(encw y).2=ys)
  (h:∀pv',WK n c K (Oe k i ds l) (.poolw k pv' e re rz ((xs.set i.toNat y).map encw) none::Hr)):WK n c K l H:=λa w Z ha hw=>by
 obtain⟨pv',h1,h2⟩:=St.putbackE hw hp hcs hys;exact h pv' a w Z (Gq ha (By hg).1 h1 hd) h2
theorem St.putsameE {Z:Fz}{w:World}(hw:St c H Z w)(hp:H.Perm (.blk b cs e::.row r re rz ys::.poolw k pv e re rz (xs.map encw) (some (i.toNat,(b,r)))::Hr))(hg:BV i (xs.length:Int)=true)(hcs:(encw (Aj xs i)).1 r=cs)(hys:(encw (Aj xs i)).2=ys) :
  Z.nm k i.toNat=some b∧St c (.poolw k pv e re rz (xs.map encw) none::Hr) Z w:=by
 have h1:i.toNat<xs.length:=by have:=By hg;omega
 have e1:(xs.map encw)[i.toNat]'(by simpa using h1)=encw (Aj xs i):=by simp[Aj,h1]
 subst hcs;subst hys;have h2:=hw.perm hp;rw[← e1] at h2;exact St.putsame (by simpa using h1) h2
theorem WL.putsame (hp:H.Perm (.blk b cs e::.row r re rz ys::.poolw k pv e re rz (xs.map encw) (some (i.toNat,(b,r)))::Hr))(hg:BV i (xs.length:Int)=true)(ds:List Nat)(hd:GQ l b ds)(hcs:(encw (Aj xs i)).1 r=cs)(hys:(encw (Aj xs i)).2=ys)
  (h:WL P n c ops Q rest (Oe k i ds l) (.poolw k pv e re rz (xs.map encw) none::Hr)):WL P n c ops Q rest l H:=λa w Z ha hw=>by
 obtain⟨h1,h2⟩:=St.putsameE hw hp hg hcs hys;exact h a w Z (Gq ha (By hg).1 h1 hd) h2
theorem WC.putsame (hp:H.Perm (.blk b cs e::.row r re rz ys::.poolw k pv e re rz (xs.map encw) (some (i.toNat,(b,r)))::Hr))(hg:BV i (xs.length:Int)=true)(ds:List Nat)(hd:GQ l b ds)(hcs:(encw (Aj xs i)).1 r=cs)(hys:(encw (Aj xs i)).2=ys)
  (h:WC P n c cx Q (Oe k i ds l) (.poolw k pv e re rz (xs.map encw) none::Hr)):WC P n c cx Q l H:=λa w Z ha hw=>by
 obtain⟨h1,h2⟩:=St.putsameE hw hp hg hcs hys;exact h a w Z (Gq ha (By hg).1 h1 hd) h2
theorem WK.putsame (hp:H.Perm (.blk b cs e::.row r re rz ys::.poolw k pv e re rz (xs.map encw) (some (i.toNat,(b,r)))::Hr))(hg:BV i (xs.length:Int)=true)(ds:List Nat)(hd:GQ l b ds)(hcs:(encw (Aj xs i)).1 r=cs)(hys:(encw (Aj xs i)).2=ys)
  (h:WK n c K (Oe k i ds l) (.poolw k pv e re rz (xs.map encw) none::Hr)):WK n c K l H:=λa w Z ha hw=>by
 obtain⟨h1,h2⟩:=St.putsameE hw hp hg hcs hys;exact h a w Z (Gq ha (By hg).1 h1 hd) h2
theorem St.adoptWE {Z:Fz}{w:World}(hw:St c H Z w)(hp:H.Perm (.blk b cs e::.row r re rz ys::.poolw k pv e re rz (xs.map encw) none::Hr))(hcs:(encw y).1 r=cs)(hys:(encw y).2=ys) :
  ∃Z' pv',Fz.le Z Z'∧Z'.nm k xs.length=some b∧St c (.poolw k pv' e re rz ((xs++[y]).map encw) none::Hr) Z' w:=by
 obtain⟨Z',h1,h2,h3⟩:=(hw.perm hp).adoptW (y:=encw y) (pv':=NN (Cz pv++[(b,r)])) hcs hys (Ln _);rw[PT] at h2;exact⟨Z',_,h1,h2,by rw[List.map_append];exact h3⟩
theorem WL.adoptW (hp:H.Perm (.blk b cs e::.row r re rz ys::.poolw k pv e re rz (xs.map encw) none::Hr))(ds:List Nat)(hd:GQ l b ds)(hcs:(encw y).1 r=cs)(hys:(encw y).2=ys)
  (h:∀pv',WL P n c ops Q rest (Ox k xs.length ds l) (.poolw k pv' e re rz ((xs++[y]).map encw) none::Hr)):WL P n c ops Q rest l H:=λa w Z ha hw=>by
 obtain⟨Z',pv',h1,h2,h3⟩:=St.adoptWE hw hp hcs hys;exact h pv' a w Z' (Hl (ha.mono h1) h2 hd) h3
theorem WC.adoptW (hp:H.Perm (.blk b cs e::.row r re rz ys::.poolw k pv e re rz (xs.map encw) none::Hr))(ds:List Nat)(hd:GQ l b ds)(hcs:(encw y).1 r=cs)(hys:(encw y).2=ys)
  (h:∀pv',WC P n c cx Q (Ox k xs.length ds l) (.poolw k pv' e re rz ((xs++[y]).map encw) none::Hr)):WC P n c cx Q l H:=λa w Z ha hw=>by
 obtain⟨Z',pv',h1,h2,h3⟩:=St.adoptWE hw hp hcs hys;exact h pv' a w Z' (Hl (ha.mono h1) h2 hd) h3
end
theorem E2:Cz (.tuple #[])=[]:=rfl
theorem H7 (hn:Nat.blt d n=true)(h:∀b,WL P n c ops Q rest ((d,rv (.map (some b)))::l) (.poolw b (.tuple #[]) e re rz [] none::.map b []::H)) :
  WL P n c ops Q ({ dst:=some d,op:=.makeMap t none,type:=ty,pos:=pos,after:=af,guard:=none }::rest) l H:=
 GV (λa w Z ha hw=>by
  have h1:=hw.alloc (.map #[] 0) (e:=.map w.heap.size []) ⟨#[],0,by simpa using heap_alloc_new w _,by simp,by simp,by simp,[],PO _,trivial⟩ rfl;refine⟨_,w.alloc (.map #[] 0),_,_,Z,by simp[execOp,run_makeMap],Fz.le.refl _,rfl,?_,h w.heap.size⟩;have hz:∀i,Z.nm w.heap.size i=none:=λi=>by
   cases hq:Z.nm w.heap.size i with
   | none=>rfl
   | some b=>have:=hw.frz.nm _ _ _ hq;omega
  have hold:∀en∈(Ent.map w.heap.size []::H),∀q∈en.gk,q<w.heap.size:=λen he q hq=>by
   rcases List.mem_cons.1 he with rfl | he
   ·simp[Ent.gk] at hq
   ·exact hw.gst.sz en he q hq
  have hf:∀q,q ∉ (Ent.poolw w.heap.size (.tuple #[]) e re rz [] none).foot:=λq hq=>by simp[Ent.foot,E2,KC,IO] at hq
  refine { h1 with has:=λen he=>?_,own:=λen he q hq=>?_,dis:=List.pairwise_cons.2 ⟨λen he q hq=>absurd hq (hf q),h1.dis⟩,zdis:=λen he q hq=>?_,gst:=⟨λen he q hq=>?_,λen he q hq=>?_,List.pairwise_cons.2 ⟨λen he q hq hq'=>?_,h1.gst.dis⟩,h1.gst.new,λen he q hq i hi=>?_⟩ }
  ·rcases List.mem_cons.1 he with rfl | he
   ·exact⟨by simp[E2],by simp[E2,KC,IO],by simp[E2],λo ho=>(by cases ho),by simp[E2]⟩
   ·exact h1.has en he
  ·rcases List.mem_cons.1 he with rfl | he
   ·exact absurd hq (hf q)
   ·exact h1.own en he q hq
  ·rcases List.mem_cons.1 he with rfl | he
   ·exact absurd hq (hf q)
   ·exact h1.zdis en he q hq
  ·rcases List.mem_cons.1 he with rfl | he
   ·simp[Ent.gk] at hq;subst hq;exact .inl hw.size
   ·exact h1.gst.own en he q hq
  ·rcases List.mem_cons.1 he with rfl | he
   ·simp[Ent.gk] at hq;subst hq;simp
   ·exact h1.gst.sz en he q hq
  ·simp[Ent.gk] at hq;subst hq;have:=hold en he _ hq';omega
  ·rcases List.mem_cons.1 he with rfl | he
   ·simp[Ent.gk] at hq;subst hq;exact hz i
   ·exact h1.gst.cap en he q hq i hi) hn
end
end Go.Proofs.YtfbmdidnlhifjaaGreatDoor.Q
namespace Go.Proofs
open Go.Shelf
def Tryz.sort73_ren:Go.Shelf.Ren:=⟨fun | 6=>73 | 8=>89 | 9=>88 | 19=>113 | 20=>114 | 21=>104 | 22=>105 | 23=>106 | 24=>107 | 25=>108 | 26=>109 | 27=>110 | 28=>111 | 29=>112 | 36=>120 | 31=>121 | 32=>122 | 37=>123 | 38=>124 | 39=>125 | 41=>131 | n=>n,fun | 27=>49 | 29=>9 | 3=>3 | 32=>134 | 26=>49 | 0=>0 | 44=>149 | 46=>151 | 4=>4 | 36=>142 | 35=>141 | 41=>101 | 5=>5 | 9=>9 | 53=>155 | 57=>159 | 63=>166 | 64=>167 | n=>n,fun | n=>n⟩
theorem Tryz.sort73:Go.Proofs.SlLaysM.n6 Tryz.prog Tryz.sort73_ren:={
 mixed:=by kernel_rfl
 f6:=⟨Tryz.f73.name,by decide,Tryz.func73.trans (congrArg some (by kernel_rfl))⟩
 f8:=Tryz.func89.trans (congrArg some (by kernel_rfl))
 f9:=⟨Tryz.f88.name,by decide,Tryz.func88.trans (congrArg some (by kernel_rfl))⟩
 f19:=Tryz.func113.trans (congrArg some (by kernel_rfl))
 f20:=Tryz.func114.trans (congrArg some (by kernel_rfl))
 f21:=⟨Tryz.f104.name,by decide,Tryz.func104.trans (congrArg some (by kernel_rfl))⟩
 f22:=⟨Tryz.f105.name,by decide,Tryz.func105.trans (congrArg some (by kernel_rfl))⟩
 f23:=⟨Tryz.f106.name,by decide,Tryz.func106.trans (congrArg some (by kernel_rfl))⟩
 f24:=⟨Tryz.f107.name,by decide,Tryz.func107.trans (congrArg some (by kernel_rfl))⟩
 f25:=⟨Tryz.f108.name,by decide,Tryz.func108.trans (congrArg some (by kernel_rfl))⟩
 f26:=⟨Tryz.f109.name,by decide,Tryz.func109.trans (congrArg some (by kernel_rfl))⟩
 f27:=⟨Tryz.f110.name,by decide,Tryz.func110.trans (congrArg some (by kernel_rfl))⟩
 f28:=⟨Tryz.f111.name,by decide,Tryz.func111.trans (congrArg some (by kernel_rfl))⟩
 f29:=⟨Tryz.f112.name,by decide,Tryz.func112.trans (congrArg some (by kernel_rfl))⟩
 f31:=Tryz.func121.trans (congrArg some (by kernel_rfl))
 f32:=Tryz.func122.trans (congrArg some (by kernel_rfl))
 f36:=⟨Tryz.f120.name,by decide,Tryz.func120.trans (congrArg some (by kernel_rfl))⟩
 f37:=⟨Tryz.f123.name,by decide,Tryz.func123.trans (congrArg some (by kernel_rfl))⟩
 f38:=⟨Tryz.f124.name,by decide,Tryz.func124.trans (congrArg some (by kernel_rfl))⟩
 f39:=⟨Tryz.f125.name,by decide,Tryz.func125.trans (congrArg some (by kernel_rfl))⟩
 f41:=⟨Tryz.f131.name,by decide,Tryz.func131.trans (congrArg some (by kernel_rfl))⟩
 t0:=Tryz.underlying0
 a0:=Tryz.isAgg0
 z0:=Tryz.sizeOf0
 v0:=Tryz.zeroValue0
 t3:=Tryz.underlying3
 a3:=Tryz.isAgg3
 z3:=Tryz.sizeOf3
 v3:=Tryz.zeroValue3
 t4:=Tryz.underlying4
 a4:=Tryz.isAgg4
 z4:=Tryz.sizeOf4
 v4:=Tryz.zeroValue4
 t5:=Tryz.underlying5
 a5:=Tryz.isAgg5
 z5:=Tryz.sizeOf5
 v5:=Tryz.zeroValue5
 t9:=Tryz.underlying9
 a9:=Tryz.isAgg9
 z9:=Tryz.sizeOf9
 v9:=Tryz.zeroValue9
 t26:=Tryz.underlying49
 a26:=Tryz.isAgg49
 z26:=Tryz.sizeOf49
 v26:=Tryz.zeroValue49
 t27:=Tryz.underlying49
 a27:=Tryz.isAgg49
 z27:=Tryz.sizeOf49
 v27:=Tryz.zeroValue49
 t29:=Tryz.underlying9
 a29:=Tryz.isAgg9
 z29:=Tryz.sizeOf9
 v29:=Tryz.zeroValue9
 t32:=Tryz.underlying134
 a32:=Tryz.isAgg134
 z32:=Tryz.sizeOf134
 v32:=Tryz.zeroValue134
 t35:=Tryz.underlying141
 a35:=Tryz.isAgg141
 z35:=Tryz.sizeOf141
 v35:=Tryz.zeroValue141
 t36:=Tryz.underlying142
 a36:=Tryz.isAgg142
 z36:=Tryz.sizeOf142
 v36:=Tryz.zeroValue142
 t41:=Tryz.underlying101
 a41:=Tryz.isAgg101
 z41:=Tryz.sizeOf101
 v41:=Tryz.zeroValue101
 t44:=Tryz.underlying149
 a44:=Tryz.isAgg149
 z44:=Tryz.sizeOf149
 v44:=Tryz.zeroValue149
 t46:=Tryz.underlying151
 a46:=Tryz.isAgg151
 z46:=Tryz.sizeOf151
 v46:=Tryz.zeroValue151
 t53:=Tryz.underlying155
 a53:=Tryz.isAgg155
 z53:=Tryz.sizeOf155
 v53:=Tryz.zeroValue155
 t57:=Tryz.underlying159
 a57:=Tryz.isAgg159
 z57:=Tryz.sizeOf159
 v57:=Tryz.zeroValue159
 t63:=Tryz.underlying166
 a63:=Tryz.isAgg166
 z63:=Tryz.sizeOf166
 v63:=Tryz.zeroValue166
 t64:=Tryz.underlying167
 a64:=Tryz.isAgg167
 z64:=Tryz.sizeOf167
 v64:=Tryz.zeroValue167 }
def Tryz.sorted49_ren:Go.Shelf.Ren:=⟨fun | 6=>49 | 8=>72 | 9=>73 | 11=>87 | 13=>89 | 12=>88 | 23=>113 | 24=>114 | 14=>104 | 15=>105 | 16=>106 | 17=>107 | 18=>108 | 19=>109 | 20=>110 | 21=>111 | 22=>112 | 25=>120 | 26=>121 | 27=>122 | 28=>123 | 29=>124 | 30=>125 | 31=>131 | n=>n,fun | 26=>9 | 28=>95 | 24=>49 | 0=>0 | 3=>3 | 37=>134 | 48=>149 | 50=>151 | 4=>4 | 40=>142 | 39=>141 | 45=>101 | 5=>5 | 9=>9 | 51=>155 | 55=>159 | 57=>166 | 58=>167 | 33=>103 | n=>n,fun | n=>n⟩
theorem Tryz.sorted49:Go.Proofs.SlLaysZ.n6 Tryz.prog Tryz.sorted49_ren:={
 mixed:=by kernel_rfl
 f6:=⟨Tryz.f49.name,by decide,Tryz.func49.trans (congrArg some (by kernel_rfl))⟩
 f8:=⟨Tryz.f72.name,by decide,Tryz.func72.trans (congrArg some (by kernel_rfl))⟩
 f11:=⟨Tryz.f87.name,by decide,Tryz.func87.trans (congrArg some (by kernel_rfl))⟩
 t0:=Tryz.underlying0
 a0:=Tryz.isAgg0
 z0:=Tryz.sizeOf0
 v0:=Tryz.zeroValue0
 t24:=Tryz.underlying49
 a24:=Tryz.isAgg49
 z24:=Tryz.sizeOf49
 v24:=Tryz.zeroValue49
 t26:=Tryz.underlying9
 a26:=Tryz.isAgg9
 z26:=Tryz.sizeOf9
 v26:=Tryz.zeroValue9
 t28:=Tryz.underlying95
 a28:=Tryz.isAgg95
 z28:=Tryz.sizeOf95
 v28:=Tryz.zeroValue95
 i26:=by kernel_rfl }
def Tryz.keys50_ren:Go.Shelf.Ren:=⟨fun | 7=>50 | 10=>74 | n=>n,fun | 23=>65 | 26=>9 | 3=>83 | 28=>95 | 0=>0 | 27=>94 | 33=>103 | 4=>4 | n=>n,fun | n=>n⟩
theorem Tryz.keys50:Go.Proofs.SlLaysZ.n7 Tryz.prog Tryz.keys50_ren:={
 mixed:=by kernel_rfl
 f7:=⟨Tryz.f50.name,by decide,Tryz.func50.trans (congrArg some (by kernel_rfl))⟩
 f10:=⟨Tryz.f74.name,by decide,Tryz.func74.trans (congrArg some (by kernel_rfl))⟩
 t0:=Tryz.underlying0
 a0:=Tryz.isAgg0
 z0:=Tryz.sizeOf0
 v0:=Tryz.zeroValue0
 t4:=Tryz.underlying4
 a4:=Tryz.isAgg4
 z4:=Tryz.sizeOf4
 v4:=Tryz.zeroValue4
 t23:=Tryz.underlying65
 a23:=Tryz.isAgg65
 z23:=Tryz.sizeOf65
 v23:=Tryz.zeroValue65
 t26:=Tryz.underlying9
 a26:=Tryz.isAgg9
 z26:=Tryz.sizeOf9
 v26:=Tryz.zeroValue9
 t27:=Tryz.underlying94
 a27:=Tryz.isAgg94
 z27:=Tryz.sizeOf94
 v27:=Tryz.zeroValue94
 t28:=Tryz.underlying95
 a28:=Tryz.isAgg95
 z28:=Tryz.sizeOf95
 v28:=Tryz.zeroValue95
 t33:=Tryz.underlying103
 a33:=Tryz.isAgg103
 z33:=Tryz.sizeOf103
 v33:=Tryz.zeroValue103 }
end Go.Proofs
namespace Go.Proofs.YtfbmdidnlhifjaaGreatDoor.Q
open Go Go.RowKit Go.Maps Go.Sort Go.Shelf Go.Proofs
set_option linter.unusedVariables false
set_option maxHeartbeats 1000000
theorem K9 {Z:Fz}{v:Value}{vs:List Value}(h:AM Z [rv v] vs):vs=[v]:=AM.eq_rv (us:=[v]) h
theorem Mb {T:Type}(enc:T→Rp)(xs:List (Ao×T)):(A5 enc xs).map (·.1)=xs.map (·.1):=by simp[A5]
theorem KS (b:Nat):Fn Tryz.prog GE 50 [rv (.map (some b))] [] (λR H=>∃k:Nat,R=rv (.func (.func 74) #[] #[.pointer (some ⟨k,0,none⟩)])∧H=[.blk k [rv (.map (some b))] 65]):=λw Z vs hv hs=>by
 have e:=K9 hv;subst e;have hc:Calls Tryz.prog 50 #[.map (some b)] w (λe w'=>e = .returned (.func (.func 74) #[] #[.pointer (some ⟨w.heap.size,0,none⟩)])∧w'=w.alloc (.cells #[.map (some b)] 65)):=callsIn_wide.1 (AnyZ.keys_in Tryz.keys50 Fence.wide 5 trivial rfl (some b) w);refine hc.mono ?_;rintro e w' ⟨rfl,rfl⟩;exact⟨_,_,_,Z,rfl,⟨w.heap.size,rfl,rfl⟩,rfl,hs.alloc _ ⟨[.map (some b)],by simpa using heap_alloc_new w _,rfl,trivial⟩ rfl⟩
theorem K8 (m:Nat):AnyZ.SortsIn Tryz.prog Tryz.sorted49_ren Fence.wide m:=
  ⟨λblk off cap ss W hH hblk hsz=>callsIn_wide.2 (AnyM.slices_Sort_string Tryz.sort73 blk off cap ss W hH hblk hsz),
   λp cap W=>callsIn_wide.2 (AnyM.slices_Sort_string_none Tryz.sort73 p cap W)⟩
theorem JP {T:Type}(enc:T→Rp)(xs:List (Ao×T))(k b:Nat)(hk:KU xs=true):Fn Tryz.prog GE 49 [rv (.func (.func 74) #[] #[.pointer (some ⟨k,0,none⟩)])] [.blk k [rv (.map (some b))] 65,.map b (A5 enc xs)] (λR H=>∃v:Value,R=rv v∧H=[.row v 9 1 ((IK xs).map eS),.blk k [rv (.map (some b))] 65,.map b (A5 enc xs)]):=λw Z vs hv hs=>by
 have e:=K9 hv;subst e;obtain⟨us,h1,h2⟩:=hs.ent (i:=0) rfl;have e2:=K9 h2;subst e2;obtain⟨es,ck,h3,h4⟩:=hs.ent (i:=1) rfl;unfold KU at hk;simp only[PY,PQ,Qj] at hk;have hlen:(A5 enc xs).length=xs.length:=E8 enc xs;have hkl:∀p∈A5 enc xs,p.1.length≤maxLen:=λp hp=>by
  obtain⟨y,hy,rfl⟩:=List.mem_map.1 hp;have:=hk.2 y hy;have e:maxLen=9223372036854775807:=rfl;rw[e];simpa[NK] using this
 obtain⟨D0,d1,d2,d3⟩:=NH (k:=9) Tryz.underlying9 h3 h4 hkl (by rw[hlen];have:=hk.1;have e:maxLen=9223372036854775807:=rfl;omega);have hkb:k<w.heap.size:=(Array.getElem?_eq_some_iff.1 h1).1;have hcell:w.cell? ⟨k,0,none⟩=some (.map (some b)):=by simp[World.cell?,h1]
 have hseq:SeqGives Fence.wide 2 Tryz.prog 74 #[.pointer (some ⟨k,0,none⟩)] encStr (λss=>ss.Perm (strKeys D0)) (Maps.size D0) w:=
  AnyZ.keys_gives (ρ:=Tryz.keys50_ren) { Tryz.keys50 with } Fence.wide _ trivial rfl (by omega) k b es.size D0 w hkb hcell d1
 have hc:=AnyZ.sorted_in Tryz.sorted49 Fence.wide 5 trivial trivial trivial trivial rfl (by omega) (K8 _) (enters_of Tryz.func73 (by kernel_rfl) rfl) 74 #[.pointer (some ⟨k,0,none⟩)] trivial (enters_of Tryz.func74 (by kernel_rfl) rfl) _ (Maps.size D0) (by rw[d3,hlen];have:=hk.1;have e:maxLen=9223372036854775807:=rfl;omega) (by rw[d3,hlen];exact hk.1) w hseq;refine(callsIn_wide.1 hc).mono ?_;rintro e w' ⟨v,ss,rfl,hS,hrow,hnil,hb⟩;have hp:ss.Perm (xs.map (·.1)):=hS.trans (by rw[← Mb enc xs];exact d2);have e1:ss.mergeSort (λx y=>decide (x≤y))=IK xs:=mergeSort_of_perm hp;have e3:ss.length=(IK xs).length:=by rw[← e1,List.length_mergeSort]
 rw[e1,e3] at hrow;exact⟨_,v,_,Z,rfl,⟨v,rfl,rfl⟩,rfl,hs.newrow hb hrow⟩
open Go Go.RowKit
set_option linter.unusedSimpArgs false
set_option maxRecDepth 100000
set_option maxHeartbeats 4000000
@[reducible] def Ae (kc:Nat) (x:An):(Value→List Rp)×List (List Rp):=(λr=>[AH 4 (Aq Ab x.fState),rv r,Ah x.fDone],Aq (eP kc) x.fCalls)
theorem Nh:∃inf,Tryz.prog.info? 88=some inf∧inf.zero=some (.pointer none)∧inf.size=1∧inf.bytes=8:=by
  have key:(Tryz.prog.info? 88).map (λi=>(i.zero,i.size,i.bytes))=some (some (.pointer none),1,8):=by kernel_rfl
  obtain⟨inf,h1,h2⟩:=Option.map_eq_some_iff.1 key;simp only[Prod.mk.injEq] at h2;exact⟨inf,h1,h2.1,h2.2.1,h2.2.2⟩
theorem L4 (parts:List (Nat×Value)):Tryz.prog.built 68 parts=Instr.fill (λi=>(#[(0,1),(1,1),(2,1)]:Array (Nat×Nat))[i]?) #[(.int .i64 0),((.map none)),((.map none))] parts:=by kernel_rfl
theorem I0 {n:Nat}{c:Cx}{l:Fr}{H:List Ent}{d:Option Nat}{ty:TypeId}{pos:String}{af:Array Edge}{g:Option (Nat×Bool)}{x1:Operand}{r1:Rp}(h1:ev l x1=some r1)(u1:r1.one=true){x2:Operand}{r2:Rp}(h2:ev l x2=some r2)(u2:r2.one=true):Bd Tryz.prog n c l H { dst:=d,op:=.build 68 #[(1,x1),(2,x2)],type:=ty,pos:=pos,after:=af,guard:=g } (AT [Ah 0,r1,r2]):=λa w Z ha _=>by
  have p1:=ha.ev h1;have c1:=Bg (r1.hone u1 Z _ p1);have p2:=ha.ev h2;have c2:=Bg (r2.hone u2 Z _ p2);have hb:Tryz.prog.built 68 [(1,a.eval x1),(2,a.eval x2)]=some #[(.int .i64 0),a.eval x1,a.eval x2]:=by
    rw[L4];generalize a.eval x1=v1 at *;generalize a.eval x2=v2 at *;simp[Instr.fill,c1,c2]
  refine⟨.agg #[(.int .i64 0),a.eval x1,a.eval x2],⟨[(.int .i64 0),a.eval x1,a.eval x2],rfl,rfl,p1,p2,trivial⟩,?_⟩;have:=run_build w 68 #[(1,a.eval x1),(2,a.eval x2)] _ (by simpa using hb);simp[execOp,this]
theorem Oa (parts:List (Nat×Value)):Tryz.prog.built 87 parts=Instr.fill (λi=>(#[(0,1),(1,1),(2,1)]:Array (Nat×Nat))[i]?) #[((.slice none 0 0)),((.slice none 0 0)),(.int .i64 0)] parts:=by kernel_rfl
theorem JX {n:Nat}{c:Cx}{l:Fr}{H:List Ent}{d:Option Nat}{ty:TypeId}{pos:String}{af:Array Edge}{g:Option (Nat×Bool)}{x0:Operand}{r0:Rp}(h0:ev l x0=some r0)(u0:r0.one=true):Bd Tryz.prog n c l H { dst:=d,op:=.build 87 #[(0,x0)],type:=ty,pos:=pos,after:=af,guard:=g } (AT [r0,rv (.slice none 0 0),Ah 0]):=λa w Z ha _=>by
  have p0:=ha.ev h0;have c0:=Bg (r0.hone u0 Z _ p0);have hb:Tryz.prog.built 87 [(0,a.eval x0)]=some #[a.eval x0,((.slice none 0 0)),(.int .i64 0)]:=by
    rw[Oa];generalize a.eval x0=v0 at *;simp[Instr.fill,c0]
  refine⟨.agg #[a.eval x0,((.slice none 0 0)),(.int .i64 0)],⟨[a.eval x0,((.slice none 0 0)),(.int .i64 0)],rfl,p0,rfl,rfl,trivial⟩,?_⟩;have:=run_build w 87 #[(0,a.eval x0)] _ (by simpa using hb);simp[execOp,this]
theorem O9  (r:(AA×(List An)×(List As)))(h:OA=some r):Fn Tryz.prog GE 16 [] [] (λR H=>∃u0:Nat,∃u0_1:Nat,∃u0_2:Nat,∃u0_p1:Value,∃u0_p2:Value,R=rP u0 0∧H=[.blk u0 [Ah r.1.fNow,rv (.map (some u0_1)),rv (.map (some u0_2))] 68,.map u0_1 (A5 (mP u0_1) r.1.fEntities),.map u0_2 (A5 (mP u0_2) r.1.fCalls),.poolw u0_1 u0_p1 87 88 1 (Aq (Ae u0_2) r.2.1) none,.pool u0_2 u0_p2 44 (Aq Ad r.2.2)]):=by
 refine enter (n:=5) Tryz.func16 Aa Tryz.ntmps16 Aa (λw Z=>?_);unfold OA at h;refine Am (wa Aa (Bs (H7 (e:=87) (re:=88) (rz:=1) Aa (λb1=>?_))));refine HK (e:=44) Aa (λb2=>?_);refine wv (r:=AT [Ah 0,rv (.map (some b1)),rv (.map (some b2))]) (I0 Aa Aa Aa Aa) (Bt Aa Aa (λb3=>?_));refine wa Aa (Av (A0 (BU (H2:=[.blk b3 [Ah 0,rv (.map (some b1)),rv (.map (some b2))] 68,.map b1 (A5 (mP b1) ([]:List (Ao×Int))),.map b2 (A5 (mP b2) ([]:List (Ao×Int))),.poolw b1 (.tuple #[]) 87 88 1 (Aq (Ae b2) ([]:List An)) none,.pool b2 (.tuple #[]) 44 (Aq Ad ([]:List As))]) ((Af (i:=0) Aa).trans (PN _ ((Af (i:=3) Aa).trans (PN _ ((Af (i:=1) Aa).trans (PN _ ((Af (i:=1) Aa).trans (PN _ (PO _))))))))) ?_)));obtain rfl:=A2 h;exact Az (BJ Tryz.results16 (AN Aa)) (sC (sC (sC (sC (sC sN))))) ⟨b3,b1,b2,(.tuple #[]),(.tuple #[]),Aa,Aa⟩
theorem Db  (r:Bool)(h:Kg=some r):Fn Tryz.prog GE 44 [rv (.pointer none)] [] (λR H=>R=rB r∧H=[]):=by
 refine enter (n:=12) Tryz.func44 Aa Tryz.ntmps44 Aa (λw Z=>?_);unfold Kg at h;refine Am (wa Aa (Av (AU [(2,rB false)] [] ?_ ?_)))
 ·refine A4 (wm Aa (wv (r:=rB false) (JV ⟨_,O1⟩ Aa) (wm Aa (wz Aa Aa (wz Aa Aa (wz Aa Aa (wz Aa Aa (wz Aa Aa (wv (r:=rB false) (AJ (b:=false) Aa Aa Aa) (wa Aa (A1 ?_)))))))))));exact wt
 refine A0 ?_;obtain rfl:=A2 h;exact Az (BJ Tryz.results44 (AN Aa)) sN ⟨Aa,Aa⟩
theorem CH (ha:Nat)  (r:Bool)(h:II=some r):Fn Tryz.prog GE 44 [rP ha 0] [.blk ha [Ah 0,rv (.map none),rv (.map none)] 68] (λR H=>R=rB r∧H=[.blk ha [Ah 0,rv (.map none),rv (.map none)] 68]):=by
 refine enter (n:=12) Tryz.func44 Aa Tryz.ntmps44 Aa (λw Z=>?_);unfold II at h;refine Am (wa Aa (Av (AU [(2,rB false)] [.blk ha [Ah 0,rv (.map none),rv (.map none)] 68] ?_ ?_)))
 ·refine A4 (wm Aa (wv (r:=rB true) (IF ⟨_,O1⟩ Aa) (wm Aa (Bc (b:=true) Aa Aa Aa (wm Aa (Bc (b:=true) Aa Aa Aa (wv (AO Aa) (Bc (b:=true) Aa Aa Aa (vF Ea Aa IY (Bc (b:=true) Aa Aa Aa (vL 0 IZ Aa (Bc (b:=true) Aa Aa Aa (wv (r:=rB false) (IG (v:=none) JF Aa) (wv (r:=rB false) (Ar (b:=true) Aa Aa Aa) (wa Aa (A1 ?_))))))))))))))));exact wt
 refine A0 ?_;obtain rfl:=A2 h;exact Az (BJ Tryz.results44 (AN Aa)) (sC sN) ⟨Aa,Aa⟩
theorem GK (ha:Nat)(hb:Nat)(hd:Nat)(d:AA)(r:Bool)(h:Ou d=some r):Fn Tryz.prog GE 44 [rP ha 0] [.blk ha [Ah d.fNow,rv (.map (some hb)),rv (.map (some hd))] 68] (λR H=>R=rB r∧H=[.blk ha [Ah d.fNow,rv (.map (some hb)),rv (.map (some hd))] 68]):=by
 refine enter (n:=12) Tryz.func44 Aa Tryz.ntmps44 Aa (λw Z=>?_);unfold Ou at h;refine Am (wa Aa (Av (AU [(2,rB true)] [.blk ha [Ah d.fNow,rv (.map (some hb)),rv (.map (some hd))] 68] ?_ ?_)))
 ·refine A4 (wm Aa (wv (r:=rB true) (IF ⟨_,O1⟩ Aa) (wm Aa (Bc (b:=true) Aa Aa Aa (wm Aa (Bc (b:=true) Aa Aa Aa (wv (AO Aa) (Bc (b:=true) Aa Aa Aa (vF Ea Aa IY (Bc (b:=true) Aa Aa Aa (vL 0 IZ Aa (Bc (b:=true) Aa Aa Aa (wv (r:=rB true) (IG (v:=some hb) JF Aa) (wv (r:=rB true) (Ar (b:=true) Aa Aa Aa) (wa Aa (A1 ?_))))))))))))))));exact wt
 refine A0 ?_;obtain rfl:=A2 h;exact Az (BJ Tryz.results44 (AN Aa)) (sC sN) ⟨Aa,Aa⟩
theorem Hf (F:Nat)(hd:Nat)(hb:Nat)(ha:Nat)(hi:Value)(hh:Value)(d:AA)(d_p1:(List An))(d_p2:(List As))(op:A3)(now:Int)(r:Int×AA×(List An)×(List As))(h:GH F d d_p1 d_p2 op now=some r):Fn Tryz.prog GE 18 [rP hd 0,AT (Al op),Ah now] [.blk hd [Ah d.fNow,rv (.map (some hb)),rv (.map (some ha))] 68,.map hb (A5 (mP hb) d.fEntities),.map ha (A5 (mP ha) d.fCalls),.poolw hb hi 87 88 1 (Aq (Ae ha) d_p1) none,.pool ha hh 44 (Aq Ad d_p2)] (λR H=>∃w0_p1:Value,∃w0_p2:Value,R=Ah r.1∧H=[.blk hd [Ah r.2.1.fNow,rv (.map (some hb)),rv (.map (some ha))] 68,.map hb (A5 (mP hb) r.2.1.fEntities),.map ha (A5 (mP ha) r.2.1.fCalls),.poolw hb w0_p1 87 88 1 (Aq (Ae ha) r.2.2.1) none,.pool ha w0_p2 44 (Aq Ad r.2.2.2)]):=by
 refine enter (n:=121) Tryz.func18 Aa Tryz.ntmps18 Aa (λw Z=>?_);unfold GH at h;refine Am (Bt Aa Aa (λb1=>?_));refine wa Aa (Av (Au (Am (wm Aa (Gt (Hr:=[.blk b1 (Al op) 25,.map hb (A5 (mP hb) d.fEntities),.map ha (A5 (mP ha) d.fCalls),.poolw hb hi 87 88 1 (Aq (Ae ha) d_p1) none,.pool ha hh 44 (Aq Ad d_p2)]) Ey (GK hd hb ha d true Aa) Aa ((Af (i:=1) Aa).trans (PN _ (PO _))) Aa ?_)))));rintro _ _ ⟨rfl,rfl⟩;refine wv (B5 Aa) (Av (Co Aa (BX Aa) (A7 (AW (Au (Am (wv (Ba (i:=1) G0 Dt Aa Aa Aa Aa) (ob h λr2 e4 h3=>Cw Tryz.call36 (Kh F op r2 e4) Aa (wa Aa (Bs (wm Aa (wv (CK Aa Aa) (Av (cz h3 Aa (λc5 h6=>?_) (λc5 h7=>?_)))))))))))))))
 ·refine Am (wm Aa (wa Aa (Av (A0 (Ai ?_)))));obtain rfl:=A2 h6;exact Az (BJ Iu (AN Aa)) (sC (sS (sC (sC (sC (sC sN)))))) ⟨hi,hh,Aa,Aa⟩
 ·refine A7 (AW (Au (AU [(0,rP hd 0),(2,Ah now),(4,rP b1 0),(26,rB ((decide (now<0))||(decide (1073741824<now))))] [.blk hd [Ah d.fNow,rv (.map (some hb)),rv (.map (some ha))] 68,.blk b1 (Al op) 25,.map hb (A5 (mP hb) d.fEntities),.map ha (A5 (mP ha) d.fCalls),.poolw hb hi 87 88 1 (Aq (Ae ha) d_p1) none,.pool ha hh 44 (Aq Ad d_p2)] ?_ ?_)))
  ·refine A4 (wm Aa (wv (D8 Aa Aa) (wm Aa (AY (decide (now<0)) (λc8=>?_) (λc8=>?_)))))
   ·refine wf c8 (wf c8 (wv (r:=rB true) (Ar Aa c8 Aa) (A1 ?_)));exact CW c8
   ·refine wo c8 (wm Aa (wo c8 (wv (DW Aa Aa) (G1 Aa c8 Aa (A1 ?_)))));exact CW c8
  refine cz h7 Aa (λc9 h2=>?_) (λc9 h4=>?_)
  ·refine Am (wa Aa (Av (A0 (Ai ?_))));obtain rfl:=A2 h2;exact Az (BJ Iu (AN Aa)) (sC (sS (sC (sC (sC (sC sN)))))) ⟨hi,hh,Aa,Aa⟩
  ·refine A7 (AW (Au (Am (wm Aa (wm Aa (wv (AO Aa) (vF Ea Aa C0 (vL 0 DN Aa (wv (D8 Aa Aa) (Av (cz h4 Aa (λh5 h8=>?_) (λh5 h9=>?_))))))))))))
   ·refine Am (wa Aa (Av (A0 (Ai ?_))));obtain rfl:=A2 h8;exact Az (BJ Iu (AN Aa)) (sC (sS (sC (sC (sC (sC sN)))))) ⟨hi,hh,Aa,Aa⟩
   ·refine A7 (AW (Au (Au (D3 [0,2,4] [⟨[],rP hd 0,0⟩,⟨[0],rP hd 0,0⟩,⟨[1],rP hd 2,0⟩,⟨[2],rv (.map (some ha)),1⟩,⟨[],rP b1 1,0⟩,⟨[4],rS op.fID,1⟩,⟨[3,5],Ce [DF ha (At d.fCalls op.fID (-1)) 0,rB (Bw d.fCalls op.fID)],1⟩,⟨[6],Ce [DF ha (At d.fCalls op.fID (-1)) 0,rB (Bw d.fCalls op.fID)],0⟩,⟨[7],DF ha (At d.fCalls op.fID (-1)) 0,0⟩,⟨[7],rB (Bw d.fCalls op.fID),0⟩,⟨[8],DF ha (At d.fCalls op.fID (-1)) 0,0⟩,⟨[9],rB (Bw d.fCalls op.fID),0⟩] [8,9,0,2,4] ?_ ?_))))
    ·refine oq (Ax Aa) (oq (AO Aa) (oq (AL Ea Aa N1 Aa Aa) (of (Bq (i:=0) N6 Aa Aa Aa) (oq (AL BI Aa CM Aa Aa) (of (Bq (i:=1) Dm Aa Aa Aa) (of (EI (enc:=(mP ha)) (xs:=d.fCalls) (z:=(-1)) (i:=3) Ny Eu O0 (Nb ha) Aa Aa Aa) (oq (Ax Aa) (oq (AG Aa Aa) (oq (AG Aa Aa) (oq (AK Aa) (oq (AK Aa) ?_)))))))))));exact CZ
    refine AW (Am (wm Aa (Av (cz h9 Aa (λhA hB=>?_) (λhA hC=>?_)))))
    ·refine Au (Au (ck hB λg17 hD=>ck hD λg19 hE=>Cb 5 [0,2,4,8] [⟨[],DF ha (At d.fCalls op.fID (-1)) 0,none,none,none⟩,⟨[0],DF ha (At d.fCalls op.fID (-1)) 0,none,none,none⟩,⟨[1],DF ha (At d.fCalls op.fID (-1)) 0,none,none,none⟩,⟨[2],AT (Al ((Aj d_p2 (At d.fCalls op.fID (-1))).fOp)),none,none,none⟩,⟨[],AT (Al op),none,none,none⟩] ?_ (λβ=>?_)))
     ·refine Cm (Ax Aa) (Cm (Cq Aa g17) (Cm (Jp Ew Aa Dt Aa g17 Aa) (HS (EJ (enc:=Ad) (xs:=d_p2) (j:=5) G0 Dt Aa Aa g19 Aa Aa) (HS (Ba (i:=1) G0 Dt Aa Aa Aa Aa) ?_))));exact Lp
     refine CN (H1:=[.blk hd [Ah d.fNow,rv (.map (some hb)),rv (.map (some ha))] 68,.blk b1 (Al op) 25,.map hb (A5 (mP hb) d.fEntities),.map ha (A5 (mP ha) d.fCalls),.poolw hb hi 87 88 1 (Aq (Ae ha) d_p1) none,.pool ha hh 44 (Aq Ad d_p2)]) [44,45,46,47,48,0,2,4,8] ?_;refine ob hE λhG hH hI=>Cw Tryz.call46 (NM F ((Aj d_p2 (At d.fCalls op.fID (-1))).fOp) op hG hH) Aa (wv (B5 Aa) (Av (cz hI Aa (λhJ hK=>?_) (λhJ hL=>?_))))
     ·refine Am (wa Aa (Av (A0 (Ai (Ai ?_)))));obtain rfl:=A2 hK;exact Az (BJ Iu (AN Aa)) (sC (sS (sC (sC (sC (sC sN)))))) ⟨hi,hh,Aa,Aa⟩
     ·refine A7 (AW (Am (wm Aa (wm Aa (wv (AO Aa) (vF Ea Aa C0 (B8 (i:=0) C0 Aa Aa (BL Aa) Aa Aa (cs':=[Ah now,rv (.map (some hb)),rv (.map (some ha))]) Aa (H':=[.blk hd [Ah now,rv (.map (some hb)),rv (.map (some ha))] 68,.blk b1 (Al op) 25,.map hb (A5 (mP hb) d.fEntities),.map ha (A5 (mP ha) d.fCalls),.poolw hb hi 87 88 1 (Aq (Ae ha) d_p1) none,.pool ha hh 44 (Aq Ad d_p2)]) Aa (Bs (wa Aa (Av (A0 (Ai ?_))))))))))));obtain rfl:=A2 hL;exact Az (BJ Iu (AN Aa)) (sC (sS (sC (sC (sC (sC sN)))))) ⟨hi,hh,Aa,Aa⟩
    ·refine A7 (AW (Au (D3 [0,2,4] [⟨[],rP hd 0,0⟩,⟨[0],rP hd 0,0⟩,⟨[1],rP hd 1,0⟩,⟨[2],rv (.map (some hb)),1⟩,⟨[],rP b1 0,0⟩,⟨[4],rS op.fEntity,1⟩,⟨[3,5],Ce [DF hb (At d.fEntities op.fEntity (-1)) 0,rB (Bw d.fEntities op.fEntity)],1⟩,⟨[6],Ce [DF hb (At d.fEntities op.fEntity (-1)) 0,rB (Bw d.fEntities op.fEntity)],0⟩,⟨[7],DF hb (At d.fEntities op.fEntity (-1)) 0,0⟩,⟨[7],rB (Bw d.fEntities op.fEntity),0⟩,⟨[8],DF hb (At d.fEntities op.fEntity (-1)) 0,0⟩,⟨[9],rB (Bw d.fEntities op.fEntity),0⟩] [10,11,0,2,4] ?_ ?_)))
     ·refine oq (Ax Aa) (oq (AO Aa) (oq (AL Ea Aa IY Aa Aa) (of (Bq (i:=0) IZ Aa Aa Aa) (oq (AL BI Aa CM Aa Aa) (of (Bq (i:=1) Dm Aa Aa Aa) (of (EI (enc:=(mP hb)) (xs:=d.fEntities) (z:=(-1)) (i:=2) JF Eu Nw (Nb hb) Aa Aa Aa) (oq (Ax Aa) (oq (AG Aa Aa) (oq (AG Aa Aa) (oq (AK Aa) (oq (AK Aa) ?_)))))))))));exact CZ
     refine AW (Au (AU [(0,rP hd 0),(2,Ah now),(4,rP b1 0),(10,DF hb (At d.fEntities op.fEntity (-1)) 0),(11,rB (Bw d.fEntities op.fEntity)),(82,rB ((decide ((d.fCalls.length:Int)=256))||((!(Bw d.fEntities op.fEntity))&&(decide ((d.fEntities.length:Int)=256)))))] [.blk hd [Ah d.fNow,rv (.map (some hb)),rv (.map (some ha))] 68,.blk b1 (Al op) 25,.map hb (A5 (mP hb) d.fEntities),.map ha (A5 (mP ha) d.fCalls),.poolw hb hi 87 88 1 (Aq (Ae ha) d_p1) none,.pool ha hh 44 (Aq Ad d_p2)] ?_ ?_))
     ·refine A4 (wm Aa (wv (AO Aa) (vF Ea Aa N1 (vL 0 N6 Aa (wv (r:=Ah (d.fCalls.length:Int)) (MQ (N:=d.fCalls.length) (i:=3) Ny Aa Aa (E8 _ _)) (wv (BK Aa Aa) (wm Aa (AY (decide ((d.fCalls.length:Int)=256)) (λhk=>?_) (λhk=>?_)))))))))
      ·refine wf hk (wf hk (wf hk (wu (wu (wu (wu (wu (wu (wf hk (wv (r:=rB true) (Ar Aa hk Aa) (A1 ?_)))))))))));exact CW hk
      ·refine wo hk (wm Aa (wo hk (wv (B5 Aa) (wo hk (wm Aa (AY (!(Bw d.fEntities op.fEntity)) (λhj=>?_) (λhj=>?_)))))))
       ·refine wo hj (wm Aa (wo hj (wv (AO Aa) (wo hj (vF Ea Aa IY (wo hj (vL 0 IZ Aa (wo hj (wv (r:=Ah (d.fEntities.length:Int)) (MQ (N:=d.fEntities.length) (i:=2) JF Aa Aa (E8 _ _)) (wo hj (wv (BK Aa Aa) (wo hk (GU Aa hj Aa (G1 Aa hk Aa (A1 ?_)))))))))))))));exact CW (And.intro hk hj)
       ·refine wf hj (wf hj (wf hj (wf hj (wf hj (wf hj (wo hk (wv (r:=rB false) (AJ Aa hj Aa) (G1 Aa hk Aa (A1 ?_)))))))));exact CW (And.intro hk hj)
     refine cz hC Aa (λhN hO=>?_) (λhN hP=>?_)
     ·refine Am (wa Aa (Av (A0 (Ai ?_))));obtain rfl:=A2 hO;exact Az (BJ Iu (AN Aa)) (sC (sS (sC (sC (sC (sC sN)))))) ⟨hi,hh,Aa,Aa⟩
     ·refine A7 (AW (Au (Am (wm Aa (wv (B5 Aa) (Av (cz hP Aa (λhQ hR=>?_) (λhQ hS=>?_))))))))
      ·refine Am (ob hR λhe hT hU=>Cw Mv (G5 he hT) Aa (wv (r:=AT [AH 4 (Aq Ab he),rv (.slice none 0 0),Ah 0]) (JX Aa Aa) (Bt Aa Aa (λhw=>?_))));refine wa Aa (Av (Cb 7 [0,2,4,10] [⟨[],rP hd 0,none,none,none⟩,⟨[0],rP hd 0,none,none,none⟩,⟨[1],rP hd 1,none,none,none⟩,⟨[2],rv (.map (some hb)),none,none,none⟩,⟨[],rP b1 0,none,none,none⟩,⟨[4],rS op.fEntity,none,none,none⟩,⟨[],rP hw 0,none,none,none⟩] ?_ (λβ=>?_)))
       ·refine Cm (Ax Aa) (Cm (AO Aa) (Cm (AL Ea Aa IY Aa Aa) (HS (Bq (i:=1) IZ Aa Aa Aa) (Cm (AL BI Aa CM Aa Aa) (HS (Bq (i:=2) Dm Aa Aa Aa) (Cm (Ax Aa) ?_))))));exact Lp
       refine CN (H1:=[.blk hw [AH 4 (Aq Ab he),rv (.slice none 0 0),Ah 0] 87,.blk hd [Ah d.fNow,rv (.map (some hb)),rv (.map (some ha))] 68,.blk b1 (Al op) 25,.map hb (A5 (mP hb) d.fEntities),.map ha (A5 (mP ha) d.fCalls),.poolw hb hi 87 88 1 (Aq (Ae ha) d_p1) none,.pool ha hh 44 (Aq Ad d_p2)]) [88,89,90,91,92,93,94,0,2,4,10] ?_;refine WL.nilrow (e:=88) (sz:=1) (WL.adoptW (encw:=(Ae ha)) (xs:=d_p1) (y:=(An.mk he ([]:List Int) 0)) (Hr:=[.blk hd [Ah d.fNow,rv (.map (some hb)),rv (.map (some ha))] 68,.blk b1 (Al op) 25,.map hb (A5 (mP hb) d.fEntities),.map ha (A5 (mP ha) d.fCalls),.pool ha hh 44 (Aq Ad d_p2)]) ((Af (i:=1) Aa).trans (PN _ ((Af (i:=0) Aa).trans (PN _ ((Af (i:=4) Aa).trans (PN _ (PO _))))))) [10,94] ⟨Aa,Aa,trivial⟩ Aa Aa (λhp=>?_));refine HD (enc:=(mP hb)) (xs:=d.fEntities) (v:=(d_p1.length:Int)) (i:=3) JF Eu Aa Aa Aa Aa (H':=[.poolw hb hp 87 88 1 (Aq (Ae ha) (d_p1++[(An.mk he ([]:List Int) 0)])) none,.blk hd [Ah d.fNow,rv (.map (some hb)),rv (.map (some ha))] 68,.blk b1 (Al op) 25,.map hb (A5 (mP hb) (AP d.fEntities op.fEntity (d_p1.length:Int))),.map ha (A5 (mP ha) d.fCalls),.pool ha hh 44 (Aq Ad d_p2)]) Aa (Bs (wm Aa (wm Aa (wv (AO Aa) (vF Ea Aa C0 (B8 (i:=1) C0 Aa Aa (BL Aa) Aa Aa (cs':=[Ah now,rv (.map (some hb)),rv (.map (some ha))]) Aa (H':=[.poolw hb hp 87 88 1 (Aq (Ae ha) (d_p1++[(An.mk he ([]:List Int) 0)])) none,.blk hd [Ah now,rv (.map (some hb)),rv (.map (some ha))] 68,.blk b1 (Al op) 25,.map hb (A5 (mP hb) (AP d.fEntities op.fEntity (d_p1.length:Int))),.map ha (A5 (mP ha) d.fCalls),.pool ha hh 44 (Aq Ad d_p2)]) Aa (Bs (wv (Ba (i:=2) G0 Dt Aa Aa Aa Aa) (ob hU λhf hV hW=>Cw Tryz.call48 (Ia F op hf hV) Aa (wm Aa (wv (r:=AT [rS hf.fEntity,rS hf.fID,rS hf.fOp,AH 1 (Aq Ak hf.fArgs),Ah 0,rv (.slice none 0 0),Ah now,Ah (-1)]) (Eq Aa Aa Aa Aa Aa) (Bt Aa Aa (λhx=>?_)))))))))))));refine wa Aa (Bs (wm Aa (wm Aa (ck hW λhy hX=>WL.takeout (encw:=(Ae ha)) (xs:=d_p1++[(An.mk he ([]:List Int) 0)]) (i:=(d_p1.length:Int)) (Hr:=[.blk hx [rS hf.fEntity,rS hf.fID,rS hf.fOp,AH 1 (Aq Ak hf.fArgs),Ah 0,rv (.slice none 0 0),Ah now,Ah (-1)] 44,.blk hd [Ah now,rv (.map (some hb)),rv (.map (some ha))] 68,.blk b1 (Al op) 25,.map hb (A5 (mP hb) (AP d.fEntities op.fEntity (d_p1.length:Int))),.map ha (A5 (mP ha) d.fCalls),.pool ha hh 44 (Aq Ad d_p2)]) ((Af (i:=1) Aa).trans (PN _ (PO _))) hy [10,94,104,105] ⟨Aa,Aa,Aa,Aa,trivial⟩ (λhl hn=>?_)))));refine Jb (H':=[.blk hl [AH 4 (Aq Ab ((Aj (d_p1++[(An.mk he ([]:List Int) 0)]) (d_p1.length:Int)).fState)),rv hn,Ah ((Aj (d_p1++[(An.mk he ([]:List Int) 0)]) (d_p1.length:Int)).fDone)] 87,.row hn 88 1 (Aq (eP ha) ((Aj (d_p1++[(An.mk he ([]:List Int) 0)]) (d_p1.length:Int)).fCalls)),.poolw hb hp 87 88 1 (Aq (Ae ha) (d_p1++[(An.mk he ([]:List Int) 0)])) (some (Cg (d_p1.length:Int),(hl,hn))),.blk hx [rS hf.fEntity,rS hf.fID,rS hf.fOp,AH 1 (Aq Ak hf.fArgs),Ah 0,rv (.slice none 0 0),Ah now,Ah (-1)] 44,.blk hd [Ah now,rv (.map (some hb)),rv (.map (some ha))] 68,.blk b1 (Al op) 25,.map hb (A5 (mP hb) (AP d.fEntities op.fEntity (d_p1.length:Int))),.map ha (A5 (mP ha) d.fCalls),.pool ha hh 44 (Aq Ad d_p2)]) Aa (wv (AO Aa) (vF Gx Aa IX (vL 0 My Aa (wm Aa (WL.upBlk (i:=3) (cs':=[rS hf.fEntity,rS hf.fID,rS hf.fOp,AH 1 (Aq Ak hf.fArgs),Ah 0,AH 4 (Aq Ab ([]:List Ac)),Ah now,Ah (-1)]) Aa ⟨Up.refl _,Up.refl _,Up.refl _,Up.refl _,Up.refl _,Up.le (DE.nil _),Up.refl _,Up.refl _,trivial⟩ (WL.adopt (enc:=Ad) (xs:=d_p2) (y:=(As.mk hf (A8.mk 0 ([]:List Ac)) now (-1))) (Hr:=[.blk hl [AH 4 (Aq Ab ((Aj (d_p1++[(An.mk he ([]:List Int) 0)]) (d_p1.length:Int)).fState)),rv hn,Ah ((Aj (d_p1++[(An.mk he ([]:List Int) 0)]) (d_p1.length:Int)).fDone)] 87,.row hn 88 1 (Aq (eP ha) ((Aj (d_p1++[(An.mk he ([]:List Int) 0)]) (d_p1.length:Int)).fCalls)),.poolw hb hp 87 88 1 (Aq (Ae ha) (d_p1++[(An.mk he ([]:List Int) 0)])) (some (Cg (d_p1.length:Int),(hl,hn))),.blk hd [Ah now,rv (.map (some hb)),rv (.map (some ha))] 68,.blk b1 (Al op) 25,.map hb (A5 (mP hb) (AP d.fEntities op.fEntity (d_p1.length:Int))),.map ha (A5 (mP ha) d.fCalls)]) ((Af (i:=3) Aa).trans (PN _ ((Af (i:=7) Aa).trans (PN _ (PO _))))) [12,103,109] ⟨Aa,Aa,Aa,trivial⟩ Aa (λhs=>?_)))))));refine AZ (ys:=([(d_p2.length:Int)]:List Int)) (enc:=(eP ha)) (css:=[[DF ha (d_p2.length:Int) 0]]) (xs:=[.tmp 109]) JD N0 O0 Aa Aa Aa ⟨GS.one Aa (Up.refl _),trivial⟩ Aa (J4 ha) Aa Aa Aa (λht=>?_);refine ck hX λhY hZ=>Exists.elim Nh λinf hinf=>C1 (xs:=(Aj (d_p1++[(An.mk he ([]:List Int) 0)]) (d_p1.length:Int)).fCalls) (ys:=([(d_p2.length:Int)]:List Int)) (enc:=(eP ha)) (i:=3) JD hinf.1 hinf.2.1 hinf.2.2.1 hinf.2.2.2 Aa Aa Aa Aa Aa (K3.w (i:=0) Aa Aa) (J4 ha) (No ha) hY Aa (λhq=>?_);refine wv (AO Aa) (vF Gx Aa IX (B8 (i:=3) IX Aa Aa (GB (i:=0) Aa) Aa Aa (cs':=[AH 4 (Aq Ab ((Aj (d_p1++[(An.mk he ([]:List Int) 0)]) (d_p1.length:Int)).fState)),rv hq,Ah ((Aj (d_p1++[(An.mk he ([]:List Int) 0)]) (d_p1.length:Int)).fDone)]) Aa (H':=[.row hq 88 1 (Aq (eP ha) (((Aj (d_p1++[(An.mk he ([]:List Int) 0)]) (d_p1.length:Int)).fCalls)++([(d_p2.length:Int)]:List Int))),.row (.slice (some ⟨ht,0,none⟩) 1 1) 88 1 (Aq (eP ha) ([(d_p2.length:Int)]:List Int)),.pool ha hs 44 (Aq Ad (d_p2++[(As.mk hf (A8.mk 0 ([]:List Ac)) now (-1))])),.blk hl [AH 4 (Aq Ab ((Aj (d_p1++[(An.mk he ([]:List Int) 0)]) (d_p1.length:Int)).fState)),rv hq,Ah ((Aj (d_p1++[(An.mk he ([]:List Int) 0)]) (d_p1.length:Int)).fDone)] 87,.poolw hb hp 87 88 1 (Aq (Ae ha) (d_p1++[(An.mk he ([]:List Int) 0)])) (some (Cg (d_p1.length:Int),(hl,hn))),.blk hd [Ah now,rv (.map (some hb)),rv (.map (some ha))] 68,.blk b1 (Al op) 25,.map hb (A5 (mP hb) (AP d.fEntities op.fEntity (d_p1.length:Int))),.map ha (A5 (mP ha) d.fCalls)]) Aa (Av (Au (Cb 7 [0,4,12] [⟨[],rP hd 0,none,none,none⟩,⟨[0],rP hd 0,none,none,none⟩,⟨[1],rP hd 2,none,none,none⟩,⟨[2],rv (.map (some ha)),none,none,none⟩,⟨[],rP b1 1,none,none,none⟩,⟨[4],rS op.fID,none,none,none⟩,⟨[],DF ha (d_p2.length:Int) 0,none,none,none⟩] ?_ (λβ=>?_))))))
       ·refine Cm (Ax Aa) (Cm (AO Aa) (Cm (AL Ea Aa N1 Aa Aa) (HS (Bq (i:=5) N6 Aa Aa Aa) (Cm (AL BI Aa CM Aa Aa) (HS (Bq (i:=6) Dm Aa Aa Aa) (Cm (Ax Aa) ?_))))));exact Lp
       refine CN (H1:=[.row hq 88 1 (Aq (eP ha) (((Aj (d_p1++[(An.mk he ([]:List Int) 0)]) (d_p1.length:Int)).fCalls)++([(d_p2.length:Int)]:List Int))),.row (.slice (some ⟨ht,0,none⟩) 1 1) 88 1 (Aq (eP ha) ([(d_p2.length:Int)]:List Int)),.pool ha hs 44 (Aq Ad (d_p2++[(As.mk hf (A8.mk 0 ([]:List Ac)) now (-1))])),.blk hl [AH 4 (Aq Ab ((Aj (d_p1++[(An.mk he ([]:List Int) 0)]) (d_p1.length:Int)).fState)),rv hq,Ah ((Aj (d_p1++[(An.mk he ([]:List Int) 0)]) (d_p1.length:Int)).fDone)] 87,.poolw hb hp 87 88 1 (Aq (Ae ha) (d_p1++[(An.mk he ([]:List Int) 0)])) (some (Cg (d_p1.length:Int),(hl,hn))),.blk hd [Ah now,rv (.map (some hb)),rv (.map (some ha))] 68,.blk b1 (Al op) 25,.map hb (A5 (mP hb) (AP d.fEntities op.fEntity (d_p1.length:Int))),.map ha (A5 (mP ha) d.fCalls)]) [114,115,116,117,118,119,120,0,4,12] ?_;refine HD (enc:=(mP ha)) (xs:=d.fCalls) (v:=(d_p2.length:Int)) (i:=8) Ny Eu Aa Aa Aa Aa (H':=[.row hq 88 1 (Aq (eP ha) (((Aj (d_p1++[(An.mk he ([]:List Int) 0)]) (d_p1.length:Int)).fCalls)++([(d_p2.length:Int)]:List Int))),.row (.slice (some ⟨ht,0,none⟩) 1 1) 88 1 (Aq (eP ha) ([(d_p2.length:Int)]:List Int)),.pool ha hs 44 (Aq Ad (d_p2++[(As.mk hf (A8.mk 0 ([]:List Ac)) now (-1))])),.blk hl [AH 4 (Aq Ab ((Aj (d_p1++[(An.mk he ([]:List Int) 0)]) (d_p1.length:Int)).fState)),rv hq,Ah ((Aj (d_p1++[(An.mk he ([]:List Int) 0)]) (d_p1.length:Int)).fDone)] 87,.poolw hb hp 87 88 1 (Aq (Ae ha) (d_p1++[(An.mk he ([]:List Int) 0)])) (some (Cg (d_p1.length:Int),(hl,hn))),.blk hd [Ah now,rv (.map (some hb)),rv (.map (some ha))] 68,.blk b1 (Al op) 25,.map hb (A5 (mP hb) (AP d.fEntities op.fEntity (d_p1.length:Int))),.map ha (A5 (mP ha) (AP d.fCalls op.fID (d_p2.length:Int)))]) Aa (Bs (wa Aa (Av (A0 (WK.putback (y:=(An.mk ((Aj (d_p1++[(An.mk he ([]:List Int) 0)]) (d_p1.length:Int)).fState) (((Aj (d_p1++[(An.mk he ([]:List Int) 0)]) (d_p1.length:Int)).fCalls)++([(d_p2.length:Int)]:List Int)) ((Aj (d_p1++[(An.mk he ([]:List Int) 0)]) (d_p1.length:Int)).fDone))) (encw:=(Ae ha)) (xs:=d_p1++[(An.mk he ([]:List Int) 0)]) (i:=(d_p1.length:Int)) (Hr:=[.row (.slice (some ⟨ht,0,none⟩) 1 1) 88 1 (Aq (eP ha) ([(d_p2.length:Int)]:List Int)),.pool ha hs 44 (Aq Ad (d_p2++[(As.mk hf (A8.mk 0 ([]:List Ac)) now (-1))])),.blk hd [Ah now,rv (.map (some hb)),rv (.map (some ha))] 68,.blk b1 (Al op) 25,.map hb (A5 (mP hb) (AP d.fEntities op.fEntity (d_p1.length:Int))),.map ha (A5 (mP ha) (AP d.fCalls op.fID (d_p2.length:Int)))]) ((Af (i:=3) Aa).trans (PN _ ((Af (i:=0) Aa).trans (PN _ ((Af (i:=2) Aa).trans (PN _ (PO _))))))) hy [] trivial Aa Aa (λv53=>?_))))));refine BU (H2:=[.blk hd [Ah now,rv (.map (some hb)),rv (.map (some ha))] 68,.map hb (A5 (mP hb) (AP d.fEntities op.fEntity (d_p1.length:Int))),.map ha (A5 (mP ha) (AP d.fCalls op.fID (d_p2.length:Int))),.poolw hb v53 87 88 1 (Aq (Ae ha) (List.set (d_p1++[(An.mk he ([]:List Int) 0)]) (Cg (d_p1.length:Int)) (An.mk ((Aj (d_p1++[(An.mk he ([]:List Int) 0)]) (d_p1.length:Int)).fState) (((Aj (d_p1++[(An.mk he ([]:List Int) 0)]) (d_p1.length:Int)).fCalls)++([(d_p2.length:Int)]:List Int)) ((Aj (d_p1++[(An.mk he ([]:List Int) 0)]) (d_p1.length:Int)).fDone)))) none,.pool ha hs 44 (Aq Ad (d_p2++[(As.mk hf (A8.mk 0 ([]:List Ac)) now (-1))])),.row (.slice (some ⟨ht,0,none⟩) 1 1) 88 1 (Aq (eP ha) ([(d_p2.length:Int)]:List Int)),.blk b1 (Al op) 25]) ((Af (i:=3) Aa).trans (PN _ ((Af (i:=4) Aa).trans (PN _ ((Af (i:=4) Aa).trans (PN _ ((Af (i:=0) Aa).trans (PN _ ((Af (i:=1) Aa).trans (PN _ (PO _))))))))))) ?_;obtain rfl:=A2 hZ;exact Az (BJ Iu (AN Aa)) (sC (sC (sC (sC (sC (sS (sS sN))))))) ⟨v53,hs,Aa,Aa⟩
      ·refine A7 (AW (Am (wm Aa (wm Aa (wv (AO Aa) (vF Ea Aa C0 (B8 (i:=0) C0 Aa Aa (BL Aa) Aa Aa (cs':=[Ah now,rv (.map (some hb)),rv (.map (some ha))]) Aa (H':=[.blk hd [Ah now,rv (.map (some hb)),rv (.map (some ha))] 68,.blk b1 (Al op) 25,.map hb (A5 (mP hb) d.fEntities),.map ha (A5 (mP ha) d.fCalls),.poolw hb hi 87 88 1 (Aq (Ae ha) d_p1) none,.pool ha hh 44 (Aq Ad d_p2)]) Aa (Bs (wv (Ba (i:=1) G0 Dt Aa Aa Aa Aa) (ob hS λhg ga gb=>Cw Tryz.call48 (Ia F op hg ga) Aa (wm Aa (wv (r:=AT [rS hg.fEntity,rS hg.fID,rS hg.fOp,AH 1 (Aq Ak hg.fArgs),Ah 0,rv (.slice none 0 0),Ah now,Ah (-1)]) (Eq Aa Aa Aa Aa Aa) (Bt Aa Aa (λhz=>?_))))))))))))));refine wa Aa (Bs (wm Aa (wm Aa (ck gb λh0 gc=>WL.takeout (encw:=(Ae ha)) (xs:=d_p1) (i:=At d.fEntities op.fEntity (-1)) (Hr:=[.blk hz [rS hg.fEntity,rS hg.fID,rS hg.fOp,AH 1 (Aq Ak hg.fArgs),Ah 0,rv (.slice none 0 0),Ah now,Ah (-1)] 44,.blk hd [Ah now,rv (.map (some hb)),rv (.map (some ha))] 68,.blk b1 (Al op) 25,.map hb (A5 (mP hb) d.fEntities),.map ha (A5 (mP ha) d.fCalls),.pool ha hh 44 (Aq Ad d_p2)]) ((Af (i:=5) Aa).trans (PN _ (PO _))) h0 [10,104,105] ⟨Aa,Aa,Aa,trivial⟩ (λhm ho=>?_)))));refine Jb (H':=[.blk hm [AH 4 (Aq Ab ((Aj d_p1 (At d.fEntities op.fEntity (-1))).fState)),rv ho,Ah ((Aj d_p1 (At d.fEntities op.fEntity (-1))).fDone)] 87,.row ho 88 1 (Aq (eP ha) ((Aj d_p1 (At d.fEntities op.fEntity (-1))).fCalls)),.poolw hb hi 87 88 1 (Aq (Ae ha) d_p1) (some (Cg (At d.fEntities op.fEntity (-1)),(hm,ho))),.blk hz [rS hg.fEntity,rS hg.fID,rS hg.fOp,AH 1 (Aq Ak hg.fArgs),Ah 0,rv (.slice none 0 0),Ah now,Ah (-1)] 44,.blk hd [Ah now,rv (.map (some hb)),rv (.map (some ha))] 68,.blk b1 (Al op) 25,.map hb (A5 (mP hb) d.fEntities),.map ha (A5 (mP ha) d.fCalls),.pool ha hh 44 (Aq Ad d_p2)]) Aa (wv (AO Aa) (vF Gx Aa IX (vL 0 My Aa (wm Aa (WL.upBlk (i:=3) (cs':=[rS hg.fEntity,rS hg.fID,rS hg.fOp,AH 1 (Aq Ak hg.fArgs),Ah 0,AH 4 (Aq Ab ([]:List Ac)),Ah now,Ah (-1)]) Aa ⟨Up.refl _,Up.refl _,Up.refl _,Up.refl _,Up.refl _,Up.le (DE.nil _),Up.refl _,Up.refl _,trivial⟩ (WL.adopt (enc:=Ad) (xs:=d_p2) (y:=(As.mk hg (A8.mk 0 ([]:List Ac)) now (-1))) (Hr:=[.blk hm [AH 4 (Aq Ab ((Aj d_p1 (At d.fEntities op.fEntity (-1))).fState)),rv ho,Ah ((Aj d_p1 (At d.fEntities op.fEntity (-1))).fDone)] 87,.row ho 88 1 (Aq (eP ha) ((Aj d_p1 (At d.fEntities op.fEntity (-1))).fCalls)),.poolw hb hi 87 88 1 (Aq (Ae ha) d_p1) (some (Cg (At d.fEntities op.fEntity (-1)),(hm,ho))),.blk hd [Ah now,rv (.map (some hb)),rv (.map (some ha))] 68,.blk b1 (Al op) 25,.map hb (A5 (mP hb) d.fEntities),.map ha (A5 (mP ha) d.fCalls)]) ((Af (i:=3) Aa).trans (PN _ ((Af (i:=7) Aa).trans (PN _ (PO _))))) [12,103,109] ⟨Aa,Aa,Aa,trivial⟩ Aa (λv64=>?_)))))));refine AZ (ys:=([(d_p2.length:Int)]:List Int)) (enc:=(eP ha)) (css:=[[DF ha (d_p2.length:Int) 0]]) (xs:=[.tmp 109]) JD N0 O0 Aa Aa Aa ⟨GS.one Aa (Up.refl _),trivial⟩ Aa (J4 ha) Aa Aa Aa (λhu=>?_);refine ck gc λgd ge=>Exists.elim Nh λinf hinf=>C1 (xs:=(Aj d_p1 (At d.fEntities op.fEntity (-1))).fCalls) (ys:=([(d_p2.length:Int)]:List Int)) (enc:=(eP ha)) (i:=3) JD hinf.1 hinf.2.1 hinf.2.2.1 hinf.2.2.2 Aa Aa Aa Aa Aa (K3.w (i:=0) Aa Aa) (J4 ha) (No ha) gd Aa (λhr=>?_);refine wv (AO Aa) (vF Gx Aa IX (B8 (i:=3) IX Aa Aa (GB (i:=0) Aa) Aa Aa (cs':=[AH 4 (Aq Ab ((Aj d_p1 (At d.fEntities op.fEntity (-1))).fState)),rv hr,Ah ((Aj d_p1 (At d.fEntities op.fEntity (-1))).fDone)]) Aa (H':=[.row hr 88 1 (Aq (eP ha) (((Aj d_p1 (At d.fEntities op.fEntity (-1))).fCalls)++([(d_p2.length:Int)]:List Int))),.row (.slice (some ⟨hu,0,none⟩) 1 1) 88 1 (Aq (eP ha) ([(d_p2.length:Int)]:List Int)),.pool ha v64 44 (Aq Ad (d_p2++[(As.mk hg (A8.mk 0 ([]:List Ac)) now (-1))])),.blk hm [AH 4 (Aq Ab ((Aj d_p1 (At d.fEntities op.fEntity (-1))).fState)),rv hr,Ah ((Aj d_p1 (At d.fEntities op.fEntity (-1))).fDone)] 87,.poolw hb hi 87 88 1 (Aq (Ae ha) d_p1) (some (Cg (At d.fEntities op.fEntity (-1)),(hm,ho))),.blk hd [Ah now,rv (.map (some hb)),rv (.map (some ha))] 68,.blk b1 (Al op) 25,.map hb (A5 (mP hb) d.fEntities),.map ha (A5 (mP ha) d.fCalls)]) Aa (Av (Au (Cb 7 [0,4,12] [⟨[],rP hd 0,none,none,none⟩,⟨[0],rP hd 0,none,none,none⟩,⟨[1],rP hd 2,none,none,none⟩,⟨[2],rv (.map (some ha)),none,none,none⟩,⟨[],rP b1 1,none,none,none⟩,⟨[4],rS op.fID,none,none,none⟩,⟨[],DF ha (d_p2.length:Int) 0,none,none,none⟩] ?_ (λβ=>?_))))))
       ·refine Cm (Ax Aa) (Cm (AO Aa) (Cm (AL Ea Aa N1 Aa Aa) (HS (Bq (i:=5) N6 Aa Aa Aa) (Cm (AL BI Aa CM Aa Aa) (HS (Bq (i:=6) Dm Aa Aa Aa) (Cm (Ax Aa) ?_))))));exact Lp
       refine CN (H1:=[.row hr 88 1 (Aq (eP ha) (((Aj d_p1 (At d.fEntities op.fEntity (-1))).fCalls)++([(d_p2.length:Int)]:List Int))),.row (.slice (some ⟨hu,0,none⟩) 1 1) 88 1 (Aq (eP ha) ([(d_p2.length:Int)]:List Int)),.pool ha v64 44 (Aq Ad (d_p2++[(As.mk hg (A8.mk 0 ([]:List Ac)) now (-1))])),.blk hm [AH 4 (Aq Ab ((Aj d_p1 (At d.fEntities op.fEntity (-1))).fState)),rv hr,Ah ((Aj d_p1 (At d.fEntities op.fEntity (-1))).fDone)] 87,.poolw hb hi 87 88 1 (Aq (Ae ha) d_p1) (some (Cg (At d.fEntities op.fEntity (-1)),(hm,ho))),.blk hd [Ah now,rv (.map (some hb)),rv (.map (some ha))] 68,.blk b1 (Al op) 25,.map hb (A5 (mP hb) d.fEntities),.map ha (A5 (mP ha) d.fCalls)]) [114,115,116,117,118,119,120,0,4,12] ?_;refine HD (enc:=(mP ha)) (xs:=d.fCalls) (v:=(d_p2.length:Int)) (i:=8) Ny Eu Aa Aa Aa Aa (H':=[.row hr 88 1 (Aq (eP ha) (((Aj d_p1 (At d.fEntities op.fEntity (-1))).fCalls)++([(d_p2.length:Int)]:List Int))),.row (.slice (some ⟨hu,0,none⟩) 1 1) 88 1 (Aq (eP ha) ([(d_p2.length:Int)]:List Int)),.pool ha v64 44 (Aq Ad (d_p2++[(As.mk hg (A8.mk 0 ([]:List Ac)) now (-1))])),.blk hm [AH 4 (Aq Ab ((Aj d_p1 (At d.fEntities op.fEntity (-1))).fState)),rv hr,Ah ((Aj d_p1 (At d.fEntities op.fEntity (-1))).fDone)] 87,.poolw hb hi 87 88 1 (Aq (Ae ha) d_p1) (some (Cg (At d.fEntities op.fEntity (-1)),(hm,ho))),.blk hd [Ah now,rv (.map (some hb)),rv (.map (some ha))] 68,.blk b1 (Al op) 25,.map hb (A5 (mP hb) d.fEntities),.map ha (A5 (mP ha) (AP d.fCalls op.fID (d_p2.length:Int)))]) Aa (Bs (wa Aa (Av (A0 (WK.putback (y:=(An.mk ((Aj d_p1 (At d.fEntities op.fEntity (-1))).fState) (((Aj d_p1 (At d.fEntities op.fEntity (-1))).fCalls)++([(d_p2.length:Int)]:List Int)) ((Aj d_p1 (At d.fEntities op.fEntity (-1))).fDone))) (encw:=(Ae ha)) (xs:=d_p1) (i:=At d.fEntities op.fEntity (-1)) (Hr:=[.row (.slice (some ⟨hu,0,none⟩) 1 1) 88 1 (Aq (eP ha) ([(d_p2.length:Int)]:List Int)),.pool ha v64 44 (Aq Ad (d_p2++[(As.mk hg (A8.mk 0 ([]:List Ac)) now (-1))])),.blk hd [Ah now,rv (.map (some hb)),rv (.map (some ha))] 68,.blk b1 (Al op) 25,.map hb (A5 (mP hb) d.fEntities),.map ha (A5 (mP ha) (AP d.fCalls op.fID (d_p2.length:Int)))]) ((Af (i:=3) Aa).trans (PN _ ((Af (i:=0) Aa).trans (PN _ ((Af (i:=2) Aa).trans (PN _ (PO _))))))) h0 [] trivial Aa Aa (λh1=>?_))))));refine BU (H2:=[.blk hd [Ah now,rv (.map (some hb)),rv (.map (some ha))] 68,.map hb (A5 (mP hb) d.fEntities),.map ha (A5 (mP ha) (AP d.fCalls op.fID (d_p2.length:Int))),.poolw hb h1 87 88 1 (Aq (Ae ha) (List.set d_p1 (Cg (At d.fEntities op.fEntity (-1))) (An.mk ((Aj d_p1 (At d.fEntities op.fEntity (-1))).fState) (((Aj d_p1 (At d.fEntities op.fEntity (-1))).fCalls)++([(d_p2.length:Int)]:List Int)) ((Aj d_p1 (At d.fEntities op.fEntity (-1))).fDone)))) none,.pool ha v64 44 (Aq Ad (d_p2++[(As.mk hg (A8.mk 0 ([]:List Ac)) now (-1))])),.row (.slice (some ⟨hu,0,none⟩) 1 1) 88 1 (Aq (eP ha) ([(d_p2.length:Int)]:List Int)),.blk b1 (Al op) 25]) ((Af (i:=3) Aa).trans (PN _ ((Af (i:=4) Aa).trans (PN _ ((Af (i:=4) Aa).trans (PN _ ((Af (i:=0) Aa).trans (PN _ ((Af (i:=1) Aa).trans (PN _ (PO _))))))))))) ?_;obtain rfl:=A2 ge;exact Az (BJ Iu (AN Aa)) (sC (sC (sC (sC (sC (sS (sS sN))))))) ⟨h1,v64,Aa,Aa⟩
theorem Lr (F:Nat)(hi:Nat)(hb:Nat)(ha:Nat)(hk:Value)(hg:Value)(d:AA)(d_p1:(List An))(d_p2:(List As))(e:Ao)(now:Int)(r:As×Bool×AA×(List An)×(List As))(h:Ls F d d_p1 d_p2 e now=some r):Fn Tryz.prog GE 17 [rP hi 0,rS e,Ah now] [.blk hi [Ah d.fNow,rv (.map (some hb)),rv (.map (some ha))] 68,.map hb (A5 (mP hb) d.fEntities),.map ha (A5 (mP ha) d.fCalls),.poolw hb hk 87 88 1 (Aq (Ae ha) d_p1) none,.pool ha hg 44 (Aq Ad d_p2)] (λR H=>∃w0_p1:Value,∃w0_p2:Value,R=Ce [AT (Ad r.1),rB r.2.1]∧H=[.blk hi [Ah r.2.2.1.fNow,rv (.map (some hb)),rv (.map (some ha))] 68,.map hb (A5 (mP hb) r.2.2.1.fEntities),.map ha (A5 (mP ha) r.2.2.1.fCalls),.poolw hb w0_p1 87 88 1 (Aq (Ae ha) r.2.2.2.1) none,.pool ha w0_p2 44 (Aq Ad r.2.2.2.2)]):=by
 refine enter (n:=107) Tryz.func17 Aa Tryz.ntmps17 Aa (λw Z=>?_);unfold Ls at h;refine Am (Bl (cs:=[rS ([]:Ao),rS ([]:Ao),rS ([]:Ao),rv (.slice none 0 0),Ah 0,rv (.slice none 0 0),Ah 0,Ah 0]) H3 Aa Aa (λb1=>?_));refine wa Aa (Av (Au (C9 (S:=(Bool)×(Unit)) (λσ=>E6 F d d_p1 d_p2 e now σ.1=some r) (λσ=>[(0,rP hi 0),(1,rS e),(2,Ah now),(6,rP b1 0),(28,rB σ.1)]) (λσ=>[.blk hi [Ah d.fNow,rv (.map (some hb)),rv (.map (some ha))] 68,.blk b1 [rS ([]:Ao),rS ([]:Ao),rS ([]:Ao),rv (.slice none 0 0),Ah 0,rv (.slice none 0 0),Ah 0,Ah 0] 44,.map hb (A5 (mP hb) d.fEntities),.map ha (A5 (mP ha) d.fCalls),.poolw hb hk 87 88 1 (Aq (Ae ha) d_p1) none,.pool ha hg 44 (Aq Ad d_p2)]) ?_ ?_)))
 ·refine A4 (wm Aa (Gt (Hr:=[.blk b1 [rS ([]:Ao),rS ([]:Ao),rS ([]:Ao),rv (.slice none 0 0),Ah 0,rv (.slice none 0 0),Ah 0,Ah 0] 44,.map hb (A5 (mP hb) d.fEntities),.map ha (A5 (mP ha) d.fCalls),.poolw hb hk 87 88 1 (Aq (Ae ha) d_p1) none,.pool ha hg 44 (Aq Ad d_p2)]) Ey (GK hi hb ha d true Aa) Aa ((Af (i:=1) Aa).trans (PN _ (PO _))) Aa ?_));rintro _ _ ⟨rfl,rfl⟩;refine wv (B5 Aa) (wm Aa (Bc (b:=!true) Aa Aa (BX Aa) (wm Aa (Bc (b:=!true) Aa Aa (BX Aa) (wm Aa (Bc (b:=!true) Aa Aa (BX Aa) (wv (AO Aa) (Bc (b:=!true) Aa Aa (BX Aa) (vF Ea Aa C0 (Bc (b:=!true) Aa Aa (BX Aa) (vL 0 DN Aa (Bc (b:=!true) Aa Aa (BX Aa) (wv (D8 Aa Aa) (wv (r:=rB (decide (now<d.fNow))) (AJ (b:=!true) Aa (BX Aa) Aa) (wm Aa (bz h (λc6 h7=>?_) (λc6 h8=>?_)))))))))))))))))
  ·exact wf c6 (wf c6 (wv (r:=rB true) (Ar Aa c6 Aa) (A1 (AE (AR (true,()) h7 (AQ.c5 Aa Aa Aa Aa Aa AQ.nil) (sC (sC (sC (sC (sC (sC sN)))))))))))
  ·exact wo c6 (wm Aa (wo c6 (wv (DW Aa Aa) (G1 Aa c6 Aa (A1 (AE (AR (decide (1073741824<now),()) h8 (AQ.c5 Aa Aa Aa Aa Aa AQ.nil) (sC (sC (sC (sC (sC (sC sN)))))))))))))
 ·rintro⟨x5,⟨⟩⟩ h9;refine Ch (l':=[(0,rP hi 0),(1,rS e),(2,Ah now),(6,rP b1 0),(28,rB x5)]) (H':=[.blk hi [Ah d.fNow,rv (.map (some hb)),rv (.map (some ha))] 68,.blk b1 [rS ([]:Ao),rS ([]:Ao),rS ([]:Ao),rv (.slice none 0 0),Ah 0,rv (.slice none 0 0),Ah 0,Ah 0] 44,.map hb (A5 (mP hb) d.fEntities),.map ha (A5 (mP ha) d.fCalls),.poolw hb hk 87 88 1 (Aq (Ae ha) d_p1) none,.pool ha hg 44 (Aq Ad d_p2)]) Aa Aa ?_;replace h9:E6 F d d_p1 d_p2 e now x5=some r:=h9;unfold E6 at h9;refine cz h9 Aa (λhu hw=>?_) (λhu hx=>?_)
  ·refine Am (wv (r:=AT [rS ([]:Ao),rS ([]:Ao),rS ([]:Ao),rv (.slice none 0 0),Ah 0,rv (.slice none 0 0),Ah 0,Ah 0]) (Da ) (A6 (i:=1) Cv Aa Aa Aa (AV.c Aa) Aa Aa (cs':=[rS ([]:Ao),rS ([]:Ao),rS ([]:Ao),rv (.slice none 0 0),Ah 0,rv (.slice none 0 0),Ah 0,Ah 0]) Aa (H':=[.blk hi [Ah d.fNow,rv (.map (some hb)),rv (.map (some ha))] 68,.blk b1 [rS ([]:Ao),rS ([]:Ao),rS ([]:Ao),rv (.slice none 0 0),Ah 0,rv (.slice none 0 0),Ah 0,Ah 0] 44,.map hb (A5 (mP hb) d.fEntities),.map ha (A5 (mP ha) d.fCalls),.poolw hb hk 87 88 1 (Aq (Ae ha) d_p1) none,.pool ha hg 44 (Aq Ad d_p2)]) Aa (wa Aa (Av (A0 (Ai (WK.upBlk (i:=1) (cs':=[rS ([]:Ao),rS ([]:Ao),rS ([]:Ao),AH 1 (Aq Ak ([]:List (List Ac))),Ah 0,AH 4 (Aq Ab ([]:List Ac)),Ah 0,Ah 0]) Aa ⟨Up.refl _,Up.refl _,Up.refl _,Up.le (DE.nil _),Up.refl _,Up.le (DE.nil _),Up.refl _,Up.refl _,trivial⟩ ?_)))))));obtain rfl:=A2 hw;exact Az (Hv K6 (BC (i:=1) Gz Cv Aa Aa Aa) (AN Aa)) (sC (sS (sC (sC (sC (sC sN)))))) ⟨hk,hg,Aa,Aa⟩
  ·refine A7 (AW (Am (wm Aa (wv (AO Aa) (vF Ea Aa IY (vL 0 IZ Aa (wm Aa (wv (r:=Ce [DF hb (At d.fEntities e (-1)) 0,rB (Bw d.fEntities e)]) (EI (enc:=(mP hb)) (xs:=d.fEntities) (z:=(-1)) (i:=2) JF Eu Nw (Nb hb) Aa Aa Aa) (wm Aa (wv (AG Aa Aa) (wv (AG Aa Aa) (wa Aa (wa Aa (Av (Au (Au (bz hx (λhj hy=>?_) (λhj hz=>?_))))))))))))))))))
   ·refine ck hy λhq h0=>WC.takeout (encw:=(Ae ha)) (xs:=d_p1) (i:=At d.fEntities e (-1)) (Hr:=[.blk hi [Ah d.fNow,rv (.map (some hb)),rv (.map (some ha))] 68,.blk b1 [rS ([]:Ao),rS ([]:Ao),rS ([]:Ao),rv (.slice none 0 0),Ah 0,rv (.slice none 0 0),Ah 0,Ah 0] 44,.map hb (A5 (mP hb) d.fEntities),.map ha (A5 (mP ha) d.fCalls),.pool ha hg 44 (Aq Ad d_p2)]) ((Af (i:=4) Aa).trans (PN _ (PO _))) hq [8,37] ⟨Aa,Aa,trivial⟩ (λhe hf=>?_);refine Ch (l':=_) (H':=[.blk he [AH 4 (Aq Ab ((Aj d_p1 (At d.fEntities e (-1))).fState)),rv hf,Ah ((Aj d_p1 (At d.fEntities e (-1))).fDone)] 87,.row hf 88 1 (Aq (eP ha) ((Aj d_p1 (At d.fEntities e (-1))).fCalls)),.poolw hb hk 87 88 1 (Aq (Ae ha) d_p1) (some (Cg (At d.fEntities e (-1)),(he,hf))),.blk hi [Ah d.fNow,rv (.map (some hb)),rv (.map (some ha))] 68,.blk b1 [rS ([]:Ao),rS ([]:Ao),rS ([]:Ao),rv (.slice none 0 0),Ah 0,rv (.slice none 0 0),Ah 0,Ah 0] 44,.map hb (A5 (mP hb) d.fEntities),.map ha (A5 (mP ha) d.fCalls),.pool ha hg 44 (Aq Ad d_p2)]) Aa Aa (D3 [0,2,6,8,9] [⟨[],rB (Bw d.fEntities e),0⟩,⟨[0],rB (!(Bw d.fEntities e)),0⟩,⟨[1],rB (!(Bw d.fEntities e)),0⟩,⟨[2],rP he 0,0⟩,⟨[3,2],rP he 0,0⟩,⟨[4,2],rP he 2,0⟩,⟨[5,2],Ah ((Aj d_p1 (At d.fEntities e (-1))).fDone),1⟩,⟨[2],rP he 0,0⟩,⟨[7,2],rP he 0,0⟩,⟨[8,2],rP he 1,0⟩,⟨[9,2],rv hf,1⟩,⟨[10,2],Ah (((Aj d_p1 (At d.fEntities e (-1))).fCalls).length:Int),1⟩,⟨[6,11,2],rB (decide (((Aj d_p1 (At d.fEntities e (-1))).fDone)=(((Aj d_p1 (At d.fEntities e (-1))).fCalls).length:Int))),0⟩,⟨[2,12],rB (decide (((Aj d_p1 (At d.fEntities e (-1))).fDone)=(((Aj d_p1 (At d.fEntities e (-1))).fCalls).length:Int))),0⟩] [52,0,2,6,8] ?_ ?_)
    ·refine oq (Ax Aa) (oq (B5 Aa) (oq (Ax Aa) (Cs Aa (λH=>DH (b:=!(Bw d.fEntities e)) Aa Aa (BX hj) (GD (Ax Aa))) ?_)));refine Cs Aa (λH=>DH (b:=!(Bw d.fEntities e)) Aa Aa (BX hj) (GD (AO Aa))) ?_;refine Cs Aa (λH=>DH (b:=!(Bw d.fEntities e)) Aa Aa (BX hj) (GD (AL Gx Aa C0 Aa Aa))) ?_;refine Lo Aa (DH (b:=!(Bw d.fEntities e)) Aa Aa (BX hj) (GD (Bq (i:=0) DN Aa Aa Aa))) ?_;refine Cs Aa (λH=>DH (b:=!(Bw d.fEntities e)) Aa Aa (BX hj) (GD (Ax Aa))) ?_;refine Cs Aa (λH=>DH (b:=!(Bw d.fEntities e)) Aa Aa (BX hj) (GD (AO Aa))) ?_;refine Cs Aa (λH=>DH (b:=!(Bw d.fEntities e)) Aa Aa (BX hj) (GD (AL Gx Aa IX Aa Aa))) ?_;refine Lo Aa (DH (b:=!(Bw d.fEntities e)) Aa Aa (BX hj) (GD (Bq (i:=0) My Aa Aa Aa))) ?_;refine Lo Aa (DH (b:=!(Bw d.fEntities e)) Aa Aa (BX hj) (GD (CO (ys:=(Aj d_p1 (At d.fEntities e (-1))).fCalls) (enc:=(eP ha)) (i:=1) JD Aa Aa))) ?_;refine Cs Aa (λH=>DH (b:=!(Bw d.fEntities e)) Aa Aa (BX hj) (GD (BK Aa Aa))) ?_;refine oq (AJ (b:=!(Bw d.fEntities e)) Aa (BX hj) Aa) ?_;exact CZ
    refine AW (cz h0 Aa (λh1 h2=>?_) (λh1 h3=>?_))
    ·refine Am (wv (r:=AT [rS ([]:Ao),rS ([]:Ao),rS ([]:Ao),rv (.slice none 0 0),Ah 0,rv (.slice none 0 0),Ah 0,Ah 0]) (Da ) (A6 (i:=4) Cv Aa Aa Aa (AV.c Aa) Aa Aa (cs':=[rS ([]:Ao),rS ([]:Ao),rS ([]:Ao),rv (.slice none 0 0),Ah 0,rv (.slice none 0 0),Ah 0,Ah 0]) Aa (H':=[.blk he [AH 4 (Aq Ab ((Aj d_p1 (At d.fEntities e (-1))).fState)),rv hf,Ah ((Aj d_p1 (At d.fEntities e (-1))).fDone)] 87,.row hf 88 1 (Aq (eP ha) ((Aj d_p1 (At d.fEntities e (-1))).fCalls)),.poolw hb hk 87 88 1 (Aq (Ae ha) d_p1) (some (Cg (At d.fEntities e (-1)),(he,hf))),.blk hi [Ah d.fNow,rv (.map (some hb)),rv (.map (some ha))] 68,.blk b1 [rS ([]:Ao),rS ([]:Ao),rS ([]:Ao),rv (.slice none 0 0),Ah 0,rv (.slice none 0 0),Ah 0,Ah 0] 44,.map hb (A5 (mP hb) d.fEntities),.map ha (A5 (mP ha) d.fCalls),.pool ha hg 44 (Aq Ad d_p2)]) Aa (wa Aa (Av (A0 (Ai (WK.putsame (encw:=(Ae ha)) (xs:=d_p1) (i:=At d.fEntities e (-1)) (Hr:=[.blk hi [Ah d.fNow,rv (.map (some hb)),rv (.map (some ha))] 68,.blk b1 [rS ([]:Ao),rS ([]:Ao),rS ([]:Ao),rv (.slice none 0 0),Ah 0,rv (.slice none 0 0),Ah 0,Ah 0] 44,.map hb (A5 (mP hb) d.fEntities),.map ha (A5 (mP ha) d.fCalls),.pool ha hg 44 (Aq Ad d_p2)]) (PO _) hq [8] ⟨Aa,trivial⟩ Aa Aa (WK.upBlk (i:=2) (cs':=[rS ([]:Ao),rS ([]:Ao),rS ([]:Ao),AH 1 (Aq Ak ([]:List (List Ac))),Ah 0,AH 4 (Aq Ab ([]:List Ac)),Ah 0,Ah 0]) Aa ⟨Up.refl _,Up.refl _,Up.refl _,Up.le (DE.nil _),Up.refl _,Up.le (DE.nil _),Up.refl _,Up.refl _,trivial⟩ (BU (H2:=[.blk hi [Ah d.fNow,rv (.map (some hb)),rv (.map (some ha))] 68,.map hb (A5 (mP hb) d.fEntities),.map ha (A5 (mP ha) d.fCalls),.poolw hb hk 87 88 1 (Aq (Ae ha) d_p1) none,.pool ha hg 44 (Aq Ad d_p2),.blk b1 [rS ([]:Ao),rS ([]:Ao),rS ([]:Ao),AH 1 (Aq Ak ([]:List (List Ac))),Ah 0,AH 4 (Aq Ab ([]:List Ac)),Ah 0,Ah 0] 44]) ((Af (i:=1) Aa).trans (PN _ ((Af (i:=2) Aa).trans (PN _ ((Af (i:=2) Aa).trans (PN _ ((Af (i:=0) Aa).trans (PN _ ((Af (i:=1) Aa).trans (PN _ (PO _))))))))))) ?_)))))))));obtain rfl:=A2 h2;exact Az (Hv K6 (BC (i:=5) Gz Cv Aa Aa Aa) (AN Aa)) (sC (sC (sC (sC (sC (sS sN)))))) ⟨hk,hg,Aa,Aa⟩
    ·refine A7 (AW (Au (ck h3 λhr h4=>D3 [0,2,6,8] [⟨[],rP he 0,0⟩,⟨[0],rP he 0,0⟩,⟨[1],rP he 1,0⟩,⟨[2],rv hf,1⟩,⟨[],rP he 0,0⟩,⟨[4],rP he 0,0⟩,⟨[5],rP he 2,0⟩,⟨[6],Ah ((Aj d_p1 (At d.fEntities e (-1))).fDone),1⟩,⟨[3,7],rv (Dn 1 hf (Cg ((Aj d_p1 (At d.fEntities e (-1))).fDone)) 0),1⟩,⟨[8],DF ha (Aj ((Aj d_p1 (At d.fEntities e (-1))).fCalls) ((Aj d_p1 (At d.fEntities e (-1))).fDone)) 0,1⟩,⟨[9],DF ha (Aj ((Aj d_p1 (At d.fEntities e (-1))).fCalls) ((Aj d_p1 (At d.fEntities e (-1))).fDone)) 0,0⟩] [10,0,2,6,8] ?_ ?_)))
     ·refine oq (Ax Aa) (oq (AO Aa) (oq (AL Gx Aa IX Aa Aa) (of (Bq (i:=0) My Aa Aa Aa) (oq (Ax Aa) (oq (AO Aa) (oq (AL Gx Aa C0 Aa Aa) (of (Bq (i:=0) DN Aa Aa Aa) (of (E4 (i:=1) JD N0 Aa Aa Aa (Bh hr)) (of (Do (enc:=(eP ha)) (ys:=(Aj d_p1 (At d.fEntities e (-1))).fCalls) (i:=1) (j:=(Aj d_p1 (At d.fEntities e (-1))).fDone) Tryz.isAgg88 Aa Aa hr Aa) (oq (AK Aa) ?_))))))))));exact CZ
     refine AW (Au (ck h4 λhp h5=>ck h5 λhs h6=>ob h6 λhd hA hB=>Cb 16 [0,2,6,8,10] [⟨[],rP he 0,none,none,none⟩,⟨[0],rP he 0,none,none,none⟩,⟨[1],rP he 0,none,none,none⟩,⟨[2],AH 4 (Aq Ab ((Aj d_p1 (At d.fEntities e (-1))).fState)),none,none,none⟩,⟨[],DF ha (Aj ((Aj d_p1 (At d.fEntities e (-1))).fCalls) ((Aj d_p1 (At d.fEntities e (-1))).fDone)) 0,none,none,none⟩,⟨[4],DF ha (Aj ((Aj d_p1 (At d.fEntities e (-1))).fCalls) ((Aj d_p1 (At d.fEntities e (-1))).fDone)) 0,none,none,none⟩,⟨[5],DF ha (Aj ((Aj d_p1 (At d.fEntities e (-1))).fCalls) ((Aj d_p1 (At d.fEntities e (-1))).fDone)) 0,none,none,none⟩,⟨[6],AT (Al ((Aj d_p2 (Aj ((Aj d_p1 (At d.fEntities e (-1))).fCalls) ((Aj d_p1 (At d.fEntities e (-1))).fDone))).fOp)),none,none,none⟩,⟨[3,7],Ce [AH 4 (Aq Ab hd.1),AT (Aw hd.2.1),Ah hd.2.2],none,none,none⟩,⟨[8],Ce [AH 4 (Aq Ab hd.1),AT (Aw hd.2.1),Ah hd.2.2],none,none,none⟩,⟨[9],AH 4 (Aq Ab hd.1),none,none,none⟩,⟨[9],AT (Aw hd.2.1),none,none,none⟩,⟨[9],Ah hd.2.2,none,none,none⟩,⟨[],rv undef,some ([Ah 0,rv (.slice none 0 0)],31),some (15,[Ah hd.2.1.fErr,AH 4 (Aq Ab hd.2.1.fValue)]),none⟩,⟨[10],AH 4 (Aq Ab hd.1),none,none,none⟩,⟨[11],rv undef,none,none,some 13⟩] ?_ (λβ=>?_)))
     ·refine Cm (Ax Aa) (Cm (AO Aa) (Cm (AL Gx Aa D2 Aa Aa) (HS (Bq (i:=0) Ez Aa Aa Aa) (Cm (Ax Aa) (Cm (Cq Aa hp) (Cm (Jp Ew Aa Dt Aa hp Aa) (HS (EJ (enc:=Ad) (xs:=d_p2) (j:=7) G0 Dt Aa Aa hs Aa Aa) (KD (Ep Tryz.call11 (OW F ((Aj d_p1 (At d.fEntities e (-1))).fState) ((Aj d_p2 (Aj ((Aj d_p1 (At d.fEntities e (-1))).fCalls) ((Aj d_p1 (At d.fEntities e (-1))).fDone))).fOp) hd hA) Aa) (Cm (Ax Aa) (Cm (AG Aa Aa) (Cm (AG Aa Aa) (Cm (AG Aa Aa) (OV (Ky (cs:=[Ah 0,rv (.slice none 0 0)]) Gw Aa) (Cm (AK Aa) (PH (fun {hm hh}=>JU (Ca (i:=0) B4 Aa Aa Aa (AV.c Aa) Aa Aa (cs':=[Ah hd.2.1.fErr,AH 4 (Aq Ab hd.2.1.fValue)]) Aa (H':=.blk hm (Aw hd.2.1) 31::hh) Aa)) ?_)))))))))))))));exact Lp
     refine CN (H1:=[.blk he [AH 4 (Aq Ab ((Aj d_p1 (At d.fEntities e (-1))).fState)),rv hf,Ah ((Aj d_p1 (At d.fEntities e (-1))).fDone)] 87,.row hf 88 1 (Aq (eP ha) ((Aj d_p1 (At d.fEntities e (-1))).fCalls)),.poolw hb hk 87 88 1 (Aq (Ae ha) d_p1) (some (Cg (At d.fEntities e (-1)),(he,hf))),.blk hi [Ah d.fNow,rv (.map (some hb)),rv (.map (some ha))] 68,.blk b1 [rS ([]:Ao),rS ([]:Ao),rS ([]:Ao),rv (.slice none 0 0),Ah 0,rv (.slice none 0 0),Ah 0,Ah 0] 44,.map hb (A5 (mP hb) d.fEntities),.map ha (A5 (mP ha) d.fCalls),.pool ha hg 44 (Aq Ad d_p2),.blk (β 13) (Aw hd.2.1) 31]) [65,66,67,68,69,70,71,72,73,64,74,75,76,12,11,0,2,6,8,10] ?_;generalize β 13=hm;refine wa Aa (Av (Au (Am (wm Aa (wv (CK Aa Aa) (Av (cz hB Aa (λhC hD=>?_) (λhC hE=>?_))))))))
     ·refine Am (wv (r:=AT [rS ([]:Ao),rS ([]:Ao),rS ([]:Ao),rv (.slice none 0 0),Ah 0,rv (.slice none 0 0),Ah 0,Ah 0]) (Da ) (A6 (i:=4) Cv Aa Aa Aa (AV.c Aa) Aa Aa (cs':=[rS ([]:Ao),rS ([]:Ao),rS ([]:Ao),rv (.slice none 0 0),Ah 0,rv (.slice none 0 0),Ah 0,Ah 0]) Aa (H':=[.blk he [AH 4 (Aq Ab ((Aj d_p1 (At d.fEntities e (-1))).fState)),rv hf,Ah ((Aj d_p1 (At d.fEntities e (-1))).fDone)] 87,.row hf 88 1 (Aq (eP ha) ((Aj d_p1 (At d.fEntities e (-1))).fCalls)),.poolw hb hk 87 88 1 (Aq (Ae ha) d_p1) (some (Cg (At d.fEntities e (-1)),(he,hf))),.blk hi [Ah d.fNow,rv (.map (some hb)),rv (.map (some ha))] 68,.blk b1 [rS ([]:Ao),rS ([]:Ao),rS ([]:Ao),rv (.slice none 0 0),Ah 0,rv (.slice none 0 0),Ah 0,Ah 0] 44,.map hb (A5 (mP hb) d.fEntities),.map ha (A5 (mP ha) d.fCalls),.pool ha hg 44 (Aq Ad d_p2),.blk hm (Aw hd.2.1) 31]) Aa (wa Aa (Av (A0 (Ai (WK.putsame (encw:=(Ae ha)) (xs:=d_p1) (i:=At d.fEntities e (-1)) (Hr:=[.blk hi [Ah d.fNow,rv (.map (some hb)),rv (.map (some ha))] 68,.blk b1 [rS ([]:Ao),rS ([]:Ao),rS ([]:Ao),rv (.slice none 0 0),Ah 0,rv (.slice none 0 0),Ah 0,Ah 0] 44,.map hb (A5 (mP hb) d.fEntities),.map ha (A5 (mP ha) d.fCalls),.pool ha hg 44 (Aq Ad d_p2),.blk hm (Aw hd.2.1) 31]) (PO _) hq [8,65,66,67] ⟨Aa,Aa,Aa,Aa,trivial⟩ Aa Aa (WK.upBlk (i:=2) (cs':=[rS ([]:Ao),rS ([]:Ao),rS ([]:Ao),AH 1 (Aq Ak ([]:List (List Ac))),Ah 0,AH 4 (Aq Ab ([]:List Ac)),Ah 0,Ah 0]) Aa ⟨Up.refl _,Up.refl _,Up.refl _,Up.le (DE.nil _),Up.refl _,Up.le (DE.nil _),Up.refl _,Up.refl _,trivial⟩ (BU (H2:=[.blk hi [Ah d.fNow,rv (.map (some hb)),rv (.map (some ha))] 68,.map hb (A5 (mP hb) d.fEntities),.map ha (A5 (mP ha) d.fCalls),.poolw hb hk 87 88 1 (Aq (Ae ha) d_p1) none,.pool ha hg 44 (Aq Ad d_p2),.blk b1 [rS ([]:Ao),rS ([]:Ao),rS ([]:Ao),AH 1 (Aq Ak ([]:List (List Ac))),Ah 0,AH 4 (Aq Ab ([]:List Ac)),Ah 0,Ah 0] 44,.blk hm (Aw hd.2.1) 31]) ((Af (i:=1) Aa).trans (PN _ ((Af (i:=2) Aa).trans (PN _ ((Af (i:=2) Aa).trans (PN _ ((Af (i:=0) Aa).trans (PN _ ((Af (i:=1) Aa).trans (PN _ (PO _))))))))))) ?_)))))))));obtain rfl:=A2 hD;exact Az (Hv K6 (BC (i:=5) Gz Cv Aa Aa Aa) (AN Aa)) (sC (sC (sC (sC (sC (sS (sS sN))))))) ⟨hk,hg,Aa,Aa⟩
     ·refine A7 (AW (Am (wm Aa (wm Aa (wv (AO Aa) (vF Gx Aa D2 (B8 (i:=0) D2 Aa Aa (BL Aa) Aa Aa (cs':=[AH 4 (Aq Ab hd.1),rv hf,Ah ((Aj d_p1 (At d.fEntities e (-1))).fDone)]) Aa (H':=[.blk he [AH 4 (Aq Ab hd.1),rv hf,Ah ((Aj d_p1 (At d.fEntities e (-1))).fDone)] 87,.row hf 88 1 (Aq (eP ha) ((Aj d_p1 (At d.fEntities e (-1))).fCalls)),.poolw hb hk 87 88 1 (Aq (Ae ha) d_p1) (some (Cg (At d.fEntities e (-1)),(he,hf))),.blk hi [Ah d.fNow,rv (.map (some hb)),rv (.map (some ha))] 68,.blk b1 [rS ([]:Ao),rS ([]:Ao),rS ([]:Ao),rv (.slice none 0 0),Ah 0,rv (.slice none 0 0),Ah 0,Ah 0] 44,.map hb (A5 (mP hb) d.fEntities),.map ha (A5 (mP ha) d.fCalls),.pool ha hg 44 (Aq Ad d_p2),.blk hm (Aw hd.2.1) 31]) Aa (Bs (wm Aa (wv (AO Aa) (vF Gx Aa C0 (vL 0 DN Aa (ck hE λhG hH=>wv (BS Aa Aa hG) (wv (AO Aa) (vF Gx Aa C0 (B8 (i:=0) C0 Aa Aa (BL Aa) Aa Aa (cs':=[AH 4 (Aq Ab hd.1),rv hf,Ah (((Aj d_p1 (At d.fEntities e (-1))).fDone)+1)]) Aa (H':=[.blk he [AH 4 (Aq Ab hd.1),rv hf,Ah (((Aj d_p1 (At d.fEntities e (-1))).fDone)+1)] 87,.row hf 88 1 (Aq (eP ha) ((Aj d_p1 (At d.fEntities e (-1))).fCalls)),.poolw hb hk 87 88 1 (Aq (Ae ha) d_p1) (some (Cg (At d.fEntities e (-1)),(he,hf))),.blk hi [Ah d.fNow,rv (.map (some hb)),rv (.map (some ha))] 68,.blk b1 [rS ([]:Ao),rS ([]:Ao),rS ([]:Ao),rv (.slice none 0 0),Ah 0,rv (.slice none 0 0),Ah 0,Ah 0] 44,.map hb (A5 (mP hb) d.fEntities),.map ha (A5 (mP ha) d.fCalls),.pool ha hg 44 (Aq Ad d_p2),.blk hm (Aw hd.2.1) 31]) Aa (Bs (wm Aa (wm Aa (wv (AO Aa) (vF Ea Aa C0 (B8 (i:=3) C0 Aa Aa (BL Aa) Aa Aa (cs':=[Ah now,rv (.map (some hb)),rv (.map (some ha))]) Aa (H':=[.blk he [AH 4 (Aq Ab hd.1),rv hf,Ah (((Aj d_p1 (At d.fEntities e (-1))).fDone)+1)] 87,.row hf 88 1 (Aq (eP ha) ((Aj d_p1 (At d.fEntities e (-1))).fCalls)),.poolw hb hk 87 88 1 (Aq (Ae ha) d_p1) (some (Cg (At d.fEntities e (-1)),(he,hf))),.blk hi [Ah now,rv (.map (some hb)),rv (.map (some ha))] 68,.blk b1 [rS ([]:Ao),rS ([]:Ao),rS ([]:Ao),rv (.slice none 0 0),Ah 0,rv (.slice none 0 0),Ah 0,Ah 0] 44,.map hb (A5 (mP hb) d.fEntities),.map ha (A5 (mP ha) d.fCalls),.pool ha hg 44 (Aq Ad d_p2),.blk hm (Aw hd.2.1) 31]) Aa ?_))))))))))))))))))))));refine Bs (wm Aa (wm Aa (wv (Ba (i:=8) Du B4 Aa Aa Aa Aa) (wm Aa (wv (r:=DF ha (Aj ((Aj d_p1 (At d.fEntities e (-1))).fCalls) ((Aj d_p1 (At d.fEntities e (-1))).fDone)) 0) (Cq Aa hp) (wv (r:=DF ha (Aj ((Aj d_p1 (At d.fEntities e (-1))).fCalls) ((Aj d_p1 (At d.fEntities e (-1))).fDone)) 4) (Jp Ew Aa B4 Aa hp Aa) (K7 (enc:=Ad) (xs:=d_p2) (y':=(As.mk ((Aj d_p2 (Aj ((Aj d_p1 (At d.fEntities e (-1))).fCalls) ((Aj d_p1 (At d.fEntities e (-1))).fDone))).fOp) hd.2.1 ((Aj d_p2 (Aj ((Aj d_p1 (At d.fEntities e (-1))).fCalls) ((Aj d_p1 (At d.fEntities e (-1))).fDone))).fFrom) ((Aj d_p2 (Aj ((Aj d_p1 (At d.fEntities e (-1))).fCalls) ((Aj d_p1 (At d.fEntities e (-1))).fDone))).fTo))) (j:=7) B4 Aa Aa Aa (AV.c Aa) Aa hs Aa Aa (H':=[.blk he [AH 4 (Aq Ab hd.1),rv hf,Ah (((Aj d_p1 (At d.fEntities e (-1))).fDone)+1)] 87,.row hf 88 1 (Aq (eP ha) ((Aj d_p1 (At d.fEntities e (-1))).fCalls)),.poolw hb hk 87 88 1 (Aq (Ae ha) d_p1) (some (Cg (At d.fEntities e (-1)),(he,hf))),.blk hi [Ah now,rv (.map (some hb)),rv (.map (some ha))] 68,.blk b1 [rS ([]:Ao),rS ([]:Ao),rS ([]:Ao),rv (.slice none 0 0),Ah 0,rv (.slice none 0 0),Ah 0,Ah 0] 44,.map hb (A5 (mP hb) d.fEntities),.map ha (A5 (mP ha) d.fCalls),.pool ha hg 44 (Aq Ad (List.set d_p2 (Cg (Aj ((Aj d_p1 (At d.fEntities e (-1))).fCalls) ((Aj d_p1 (At d.fEntities e (-1))).fDone))) (As.mk ((Aj d_p2 (Aj ((Aj d_p1 (At d.fEntities e (-1))).fCalls) ((Aj d_p1 (At d.fEntities e (-1))).fDone))).fOp) hd.2.1 ((Aj d_p2 (Aj ((Aj d_p1 (At d.fEntities e (-1))).fCalls) ((Aj d_p1 (At d.fEntities e (-1))).fDone))).fFrom) ((Aj d_p2 (Aj ((Aj d_p1 (At d.fEntities e (-1))).fCalls) ((Aj d_p1 (At d.fEntities e (-1))).fDone))).fTo)))),.blk hm (Aw hd.2.1) 31]) Aa (bd hH λho hI hJ=>?_))))))));rw[← hI];refine wv (r:=DF ha (Aj ((Aj d_p1 (At d.fEntities e (-1))).fCalls) ((Aj d_p1 (At d.fEntities e (-1))).fDone)) 0) (Cq Aa hp) (wv (r:=DF ha (Aj ((Aj d_p1 (At d.fEntities e (-1))).fCalls) ((Aj d_p1 (At d.fEntities e (-1))).fDone)) 7) (Jp Ew Aa C0 Aa hp Aa) (ck hJ λhK hL=>LK (enc:=Ad) (xs:=ho) (y':=(As.mk ((Aj ho (Aj ((Aj d_p1 (At d.fEntities e (-1))).fCalls) ((Aj d_p1 (At d.fEntities e (-1))).fDone))).fOp) ((Aj ho (Aj ((Aj d_p1 (At d.fEntities e (-1))).fCalls) ((Aj d_p1 (At d.fEntities e (-1))).fDone))).fAnswer) ((Aj ho (Aj ((Aj d_p1 (At d.fEntities e (-1))).fCalls) ((Aj d_p1 (At d.fEntities e (-1))).fDone))).fFrom) now)) (j:=7) C0 Aa Aa (BL Aa) Aa hK Aa Aa (H':=[.blk he [AH 4 (Aq Ab hd.1),rv hf,Ah (((Aj d_p1 (At d.fEntities e (-1))).fDone)+1)] 87,.row hf 88 1 (Aq (eP ha) ((Aj d_p1 (At d.fEntities e (-1))).fCalls)),.poolw hb hk 87 88 1 (Aq (Ae ha) d_p1) (some (Cg (At d.fEntities e (-1)),(he,hf))),.blk hi [Ah now,rv (.map (some hb)),rv (.map (some ha))] 68,.blk b1 [rS ([]:Ao),rS ([]:Ao),rS ([]:Ao),rv (.slice none 0 0),Ah 0,rv (.slice none 0 0),Ah 0,Ah 0] 44,.map hb (A5 (mP hb) d.fEntities),.map ha (A5 (mP ha) d.fCalls),.pool ha hg 44 (Aq Ad (List.set ho (Cg (Aj ((Aj d_p1 (At d.fEntities e (-1))).fCalls) ((Aj d_p1 (At d.fEntities e (-1))).fDone))) (As.mk ((Aj ho (Aj ((Aj d_p1 (At d.fEntities e (-1))).fCalls) ((Aj d_p1 (At d.fEntities e (-1))).fDone))).fOp) ((Aj ho (Aj ((Aj d_p1 (At d.fEntities e (-1))).fCalls) ((Aj d_p1 (At d.fEntities e (-1))).fDone))).fAnswer) ((Aj ho (Aj ((Aj d_p1 (At d.fEntities e (-1))).fCalls) ((Aj d_p1 (At d.fEntities e (-1))).fDone))).fFrom) now))),.blk hm (Aw hd.2.1) 31]) Aa (bd hL λhl hN hO=>?_)));rw[← hN];refine Bs (wm Aa (wv (r:=DF ha (Aj ((Aj d_p1 (At d.fEntities e (-1))).fCalls) ((Aj d_p1 (At d.fEntities e (-1))).fDone)) 0) (Cq Aa hp) (ck hO λhP hQ=>wv (r:=AT [rS (((Aj hl (Aj ((Aj d_p1 (At d.fEntities e (-1))).fCalls) ((Aj d_p1 (At d.fEntities e (-1))).fDone))).fOp).fEntity),rS (((Aj hl (Aj ((Aj d_p1 (At d.fEntities e (-1))).fCalls) ((Aj d_p1 (At d.fEntities e (-1))).fDone))).fOp).fID),rS (((Aj hl (Aj ((Aj d_p1 (At d.fEntities e (-1))).fCalls) ((Aj d_p1 (At d.fEntities e (-1))).fDone))).fOp).fOp),AH 1 (Aq Ak (((Aj hl (Aj ((Aj d_p1 (At d.fEntities e (-1))).fCalls) ((Aj d_p1 (At d.fEntities e (-1))).fDone))).fOp).fArgs)),Ah (((Aj hl (Aj ((Aj d_p1 (At d.fEntities e (-1))).fCalls) ((Aj d_p1 (At d.fEntities e (-1))).fDone))).fAnswer).fErr),AH 4 (Aq Ab (((Aj hl (Aj ((Aj d_p1 (At d.fEntities e (-1))).fCalls) ((Aj d_p1 (At d.fEntities e (-1))).fDone))).fAnswer).fValue)),Ah ((Aj hl (Aj ((Aj d_p1 (At d.fEntities e (-1))).fCalls) ((Aj d_p1 (At d.fEntities e (-1))).fDone))).fFrom),Ah ((Aj hl (Aj ((Aj d_p1 (At d.fEntities e (-1))).fCalls) ((Aj d_p1 (At d.fEntities e (-1))).fDone))).fTo)]) (EJ (enc:=Ad) (xs:=hl) (j:=7) Gz Cv Aa Aa hP Aa Aa) (ob hQ λhn hR hS=>Cw Tryz.call45 (IJ F (As.mk ((Aj hl (Aj ((Aj d_p1 (At d.fEntities e (-1))).fCalls) ((Aj d_p1 (At d.fEntities e (-1))).fDone))).fOp) ((Aj hl (Aj ((Aj d_p1 (At d.fEntities e (-1))).fCalls) ((Aj d_p1 (At d.fEntities e (-1))).fDone))).fAnswer) ((Aj hl (Aj ((Aj d_p1 (At d.fEntities e (-1))).fCalls) ((Aj d_p1 (At d.fEntities e (-1))).fDone))).fFrom) ((Aj hl (Aj ((Aj d_p1 (At d.fEntities e (-1))).fCalls) ((Aj d_p1 (At d.fEntities e (-1))).fDone))).fTo)) hn hR) Aa (A6 (i:=4) Cv Aa Aa Aa (AV.c Aa) Aa Aa (cs':=[rS hn.fOp.fEntity,rS hn.fOp.fID,rS hn.fOp.fOp,AH 1 (Aq Ak hn.fOp.fArgs),Ah hn.fAnswer.fErr,AH 4 (Aq Ab hn.fAnswer.fValue),Ah hn.fFrom,Ah hn.fTo]) Aa (H':=[.blk he [AH 4 (Aq Ab hd.1),rv hf,Ah (((Aj d_p1 (At d.fEntities e (-1))).fDone)+1)] 87,.row hf 88 1 (Aq (eP ha) ((Aj d_p1 (At d.fEntities e (-1))).fCalls)),.poolw hb hk 87 88 1 (Aq (Ae ha) d_p1) (some (Cg (At d.fEntities e (-1)),(he,hf))),.blk hi [Ah now,rv (.map (some hb)),rv (.map (some ha))] 68,.blk b1 (Ad hn) 44,.map hb (A5 (mP hb) d.fEntities),.map ha (A5 (mP ha) d.fCalls),.pool ha hg 44 (Aq Ad hl),.blk hm (Aw hd.2.1) 31]) Aa (wa Aa (Av (A0 (WK.putback (y:=(An.mk hd.1 ((Aj d_p1 (At d.fEntities e (-1))).fCalls) (((Aj d_p1 (At d.fEntities e (-1))).fDone)+1))) (encw:=(Ae ha)) (xs:=d_p1) (i:=At d.fEntities e (-1)) (Hr:=[.blk hi [Ah now,rv (.map (some hb)),rv (.map (some ha))] 68,.blk b1 (Ad hn) 44,.map hb (A5 (mP hb) d.fEntities),.map ha (A5 (mP ha) d.fCalls),.pool ha hg 44 (Aq Ad hl),.blk hm (Aw hd.2.1) 31]) (PO _) hq [8,65,66,67,80,82,83,84,85,89] ⟨Aa,Aa,Aa,Aa,Aa,Aa,Aa,Aa,Aa,Aa,trivial⟩ Aa Aa (λht=>?_))))))))));refine BU (H2:=[.blk hi [Ah now,rv (.map (some hb)),rv (.map (some ha))] 68,.map hb (A5 (mP hb) d.fEntities),.map ha (A5 (mP ha) d.fCalls),.poolw hb ht 87 88 1 (Aq (Ae ha) (List.set d_p1 (Cg (At d.fEntities e (-1))) (An.mk hd.1 ((Aj d_p1 (At d.fEntities e (-1))).fCalls) (((Aj d_p1 (At d.fEntities e (-1))).fDone)+1)))) none,.pool ha hg 44 (Aq Ad hl),.blk b1 (Ad hn) 44,.blk hm (Aw hd.2.1) 31]) ((Af (i:=1) Aa).trans (PN _ ((Af (i:=2) Aa).trans (PN _ ((Af (i:=2) Aa).trans (PN _ ((Af (i:=0) Aa).trans (PN _ ((Af (i:=1) Aa).trans (PN _ (PO _))))))))))) ?_;obtain rfl:=A2 hS;exact Az (Hv K6 (BC (i:=5) Gz Cv Aa Aa Aa) (AN Aa)) (sC (sC (sC (sC (sC (sS (sS sN))))))) ⟨ht,hg,Aa,Aa⟩
   ·refine D3 [0,2,6,8,9] [⟨[],rB (Bw d.fEntities e),0⟩,⟨[0],rB (!(Bw d.fEntities e)),0⟩,⟨[1],rB (!(Bw d.fEntities e)),0⟩,⟨[2],rv undef,0⟩,⟨[3,2],rv undef,0⟩,⟨[4,2],rv undef,0⟩,⟨[5,2],rv undef,0⟩,⟨[2],rv undef,0⟩,⟨[7,2],rv undef,0⟩,⟨[8,2],rv undef,0⟩,⟨[9,2],rv undef,0⟩,⟨[10,2],rv undef,0⟩,⟨[6,11,2],rv undef,0⟩,⟨[2,12],rB true,0⟩] [52,0,2,6,8] ?_ ?_
    ·refine oq (Ax Aa) (oq (B5 Aa) (oq (Ax Aa) (Cs Aa (λH=>D7 (b:=!(Bw d.fEntities e)) Aa Aa (BH hj)) ?_)));refine Cs Aa (λH=>D7 (b:=!(Bw d.fEntities e)) Aa Aa (BH hj)) ?_;refine Cs Aa (λH=>D7 (b:=!(Bw d.fEntities e)) Aa Aa (BH hj)) ?_;refine Cs Aa (λH=>D7 (b:=!(Bw d.fEntities e)) Aa Aa (BH hj)) ?_;refine Cs Aa (λH=>D7 (b:=!(Bw d.fEntities e)) Aa Aa (BH hj)) ?_;refine Cs Aa (λH=>D7 (b:=!(Bw d.fEntities e)) Aa Aa (BH hj)) ?_;refine Cs Aa (λH=>D7 (b:=!(Bw d.fEntities e)) Aa Aa (BH hj)) ?_;refine Cs Aa (λH=>D7 (b:=!(Bw d.fEntities e)) Aa Aa (BH hj)) ?_;refine Cs Aa (λH=>D7 (b:=!(Bw d.fEntities e)) Aa Aa (BH hj)) ?_;refine Cs Aa (λH=>D7 (b:=!(Bw d.fEntities e)) Aa Aa (BH hj)) ?_;refine oq (Ar (b:=!(Bw d.fEntities e)) Aa (BH hj) Aa) ?_;exact CZ
    refine AW (Bx Aa Aa (Am (wv (r:=AT [rS ([]:Ao),rS ([]:Ao),rS ([]:Ao),rv (.slice none 0 0),Ah 0,rv (.slice none 0 0),Ah 0,Ah 0]) (Da ) (A6 (i:=1) Cv Aa Aa Aa (AV.c Aa) Aa Aa (cs':=[rS ([]:Ao),rS ([]:Ao),rS ([]:Ao),rv (.slice none 0 0),Ah 0,rv (.slice none 0 0),Ah 0,Ah 0]) Aa (H':=[.blk hi [Ah d.fNow,rv (.map (some hb)),rv (.map (some ha))] 68,.blk b1 [rS ([]:Ao),rS ([]:Ao),rS ([]:Ao),rv (.slice none 0 0),Ah 0,rv (.slice none 0 0),Ah 0,Ah 0] 44,.map hb (A5 (mP hb) d.fEntities),.map ha (A5 (mP ha) d.fCalls),.poolw hb hk 87 88 1 (Aq (Ae ha) d_p1) none,.pool ha hg 44 (Aq Ad d_p2)]) Aa (wa Aa (Av (A0 (Ai (WK.upBlk (i:=1) (cs':=[rS ([]:Ao),rS ([]:Ao),rS ([]:Ao),AH 1 (Aq Ak ([]:List (List Ac))),Ah 0,AH 4 (Aq Ab ([]:List Ac)),Ah 0,Ah 0]) Aa ⟨Up.refl _,Up.refl _,Up.refl _,Up.le (DE.nil _),Up.refl _,Up.le (DE.nil _),Up.refl _,Up.refl _,trivial⟩ ?_)))))))));obtain rfl:=A2 hz;exact Az (Hv K6 (BC (i:=1) Gz Cv Aa Aa Aa) (AN Aa)) (sC (sS (sC (sC (sC (sC sN)))))) ⟨hk,hg,Aa,Aa⟩
theorem MS (hd:Nat)(hb:Nat)(ha:Nat)(hf:Value)(he:Value)(d:AA)(d_p1:(List An))(d_p2:(List As))(e:Ao)(r:(List Ac))(h:KM d d_p1 d_p2 e=some r):Fn Tryz.prog GE 19 [rP hd 0,rS e] [.blk hd [Ah d.fNow,rv (.map (some hb)),rv (.map (some ha))] 68,.map hb (A5 (mP hb) d.fEntities),.map ha (A5 (mP ha) d.fCalls),.poolw hb hf 87 88 1 (Aq (Ae ha) d_p1) none,.pool ha he 44 (Aq Ad d_p2)] (λR H=>R=AH 4 (Aq Ab r)∧H=[.blk hd [Ah d.fNow,rv (.map (some hb)),rv (.map (some ha))] 68,.map hb (A5 (mP hb) d.fEntities),.map ha (A5 (mP ha) d.fCalls),.poolw hb hf 87 88 1 (Aq (Ae ha) d_p1) none,.pool ha he 44 (Aq Ad d_p2)]):=by
 refine enter (n:=25) Tryz.func19 Aa Tryz.ntmps19 Aa (λw Z=>?_);unfold KM at h;refine Am (wa Aa (Av (Au (Am (wm Aa (Gt (Hr:=[.map hb (A5 (mP hb) d.fEntities),.map ha (A5 (mP ha) d.fCalls),.poolw hb hf 87 88 1 (Aq (Ae ha) d_p1) none,.pool ha he 44 (Aq Ad d_p2)]) Ey (GK hd hb ha d true Aa) Aa (PO _) Aa ?_))))));rintro _ _ ⟨rfl,rfl⟩;refine Av (Bx Aa Aa (Am (wm Aa (wv (AO Aa) (vF Ea Aa IY (vL 0 IZ Aa (wm Aa (wv (r:=Ce [DF hb (At d.fEntities e (-1)) 0,rB (Bw d.fEntities e)]) (EI (enc:=(mP hb)) (xs:=d.fEntities) (z:=(-1)) (i:=1) JF Eu Nw (Nb hb) Aa Aa Aa) (wm Aa (wv (AG Aa Aa) (wv (AG Aa Aa) (wa Aa (wa Aa (Bs (wm Aa (Av (cz h Aa (λc1 h2=>?_) (λc1 hg=>?_))))))))))))))))))
 ·refine Am (wm Aa (ck h2 λg3 h4=>WL.takeout (encw:=(Ae ha)) (xs:=d_p1) (i:=At d.fEntities e (-1)) (Hr:=[.blk hd [Ah d.fNow,rv (.map (some hb)),rv (.map (some ha))] 68,.map hb (A5 (mP hb) d.fEntities),.map ha (A5 (mP ha) d.fCalls),.pool ha he 44 (Aq Ad d_p2)]) ((Af (i:=3) Aa).trans (PN _ (PO _))) g3 [5,16,19] ⟨Aa,Aa,Aa,trivial⟩ (λb5 v6=>?_)));refine Jb (H':=[.blk b5 [AH 4 (Aq Ab ((Aj d_p1 (At d.fEntities e (-1))).fState)),rv v6,Ah ((Aj d_p1 (At d.fEntities e (-1))).fDone)] 87,.row v6 88 1 (Aq (eP ha) ((Aj d_p1 (At d.fEntities e (-1))).fCalls)),.poolw hb hf 87 88 1 (Aq (Ae ha) d_p1) (some (Cg (At d.fEntities e (-1)),(b5,v6))),.blk hd [Ah d.fNow,rv (.map (some hb)),rv (.map (some ha))] 68,.map hb (A5 (mP hb) d.fEntities),.map ha (A5 (mP ha) d.fCalls),.pool ha he 44 (Aq Ad d_p2)]) Aa (wv (AO Aa) (vF Gx Aa D2 (vL 0 Ez Aa (ob h4 λr7 e9 h8=>Cw H5 (BZ ((Aj d_p1 (At d.fEntities e (-1))).fState) r7 e9) Aa (wa Aa (Av (A0 (Ai (WK.putsame (encw:=(Ae ha)) (xs:=d_p1) (i:=At d.fEntities e (-1)) (Hr:=[.blk hd [Ah d.fNow,rv (.map (some hb)),rv (.map (some ha))] 68,.map hb (A5 (mP hb) d.fEntities),.map ha (A5 (mP ha) d.fCalls),.pool ha he 44 (Aq Ad d_p2)]) (PO _) g3 [5,16,19,20,21] ⟨Aa,Aa,Aa,Aa,Aa,trivial⟩ Aa Aa (BU (H2:=[.blk hd [Ah d.fNow,rv (.map (some hb)),rv (.map (some ha))] 68,.map hb (A5 (mP hb) d.fEntities),.map ha (A5 (mP ha) d.fCalls),.poolw hb hf 87 88 1 (Aq (Ae ha) d_p1) none,.pool ha he 44 (Aq Ad d_p2)]) ((Af (i:=1) Aa).trans (PN _ ((Af (i:=1) Aa).trans (PN _ ((Af (i:=1) Aa).trans (PN _ (PO _))))))) ?_))))))))));obtain rfl:=A2 h8;exact Az (BJ N5 (AN Aa)) (sC (sC (sC (sC (sC sN))))) ⟨Aa,Aa⟩
 ·refine A7 (AW (Am (ob hg λhh hi hj=>Cw Mv (G5 hh hi) Aa (wa Aa (Av (A0 ?_))))));obtain rfl:=A2 hj;exact Az (BJ N5 (AN Aa)) (sC (sC (sC (sC (sC sN))))) ⟨Aa,Aa⟩
theorem MW (F:Nat)(he:Nat)(hb:Nat)(ha:Nat)(hh:Value)(hg:Value)(d:AA)(d_p1:(List An))(d_p2:(List As))(e:Ao)(r:(List As))(h:KP F d d_p1 d_p2 e=some r):Fn Tryz.prog GE 21 [rP he 0,rS e] [.blk he [Ah d.fNow,rv (.map (some hb)),rv (.map (some ha))] 68,.map hb (A5 (mP hb) d.fEntities),.map ha (A5 (mP ha) d.fCalls),.poolw hb hh 87 88 1 (Aq (Ae ha) d_p1) none,.pool ha hg 44 (Aq Ad d_p2)] (λR H=>R=AH 8 (Aq Ad r)∧H=[.blk he [Ah d.fNow,rv (.map (some hb)),rv (.map (some ha))] 68,.map hb (A5 (mP hb) d.fEntities),.map ha (A5 (mP ha) d.fCalls),.poolw hb hh 87 88 1 (Aq (Ae ha) d_p1) none,.pool ha hg 44 (Aq Ad d_p2)]):=by
 refine enter (n:=42) Tryz.func21 Aa Tryz.ntmps21 Aa (λw Z=>?_);unfold KP at h;refine Am (wa Aa (Av (Au (Am (wm Aa (Gt (Hr:=[.map hb (A5 (mP hb) d.fEntities),.map ha (A5 (mP ha) d.fCalls),.poolw hb hh 87 88 1 (Aq (Ae ha) d_p1) none,.pool ha hg 44 (Aq Ad d_p2)]) Ey (GK he hb ha d true Aa) Aa (PO _) Aa ?_))))));rintro _ _ ⟨rfl,rfl⟩;refine wv (B5 Aa) (Av (Co Aa (BX Aa) (A7 (AW (Am (wm Aa (wv (AO Aa) (vF Ea Aa IY (vL 0 IZ Aa (wm Aa (wv (r:=Ce [DF hb (At d.fEntities e (-1)) 0,rB (Bw d.fEntities e)]) (EI (enc:=(mP hb)) (xs:=d.fEntities) (z:=(-1)) (i:=1) JF Eu Nw (Nb hb) Aa Aa Aa) (wm Aa (wv (AG Aa Aa) (wv (AG Aa Aa) (wa Aa (wa Aa (Av (Au (Am (wm Aa (wv (B5 Aa) (Av (cz h Aa (λc1 h2=>?_) (λc1 h3=>?_))))))))))))))))))))))))
 ·refine Am (wa Aa (Av (A0 (Ai (WK.up (d:=4) (r:=AH 8 (Aq Ad ([]:List As))) Aa (Up.le (DE.nil _)) ?_)))));obtain rfl:=A2 h2;exact Az (BJ N4 (AN Aa)) (sC (sC (sC (sC (sC sN))))) ⟨Aa,Aa⟩
 ·refine A7 (AW (Am (wa Aa (Av (Au (Am (wm Aa (ck h3 λg4 h5=>WL.takeout (encw:=(Ae ha)) (xs:=d_p1) (i:=At d.fEntities e (-1)) (Hr:=[.blk he [Ah d.fNow,rv (.map (some hb)),rv (.map (some ha))] 68,.map hb (A5 (mP hb) d.fEntities),.map ha (A5 (mP ha) d.fCalls),.pool ha hg 44 (Aq Ad d_p2)]) ((Af (i:=3) Aa).trans (PN _ (PO _))) g4 [5,20,24] ⟨Aa,Aa,Aa,trivial⟩ (λb6 v7=>?_)))))))));refine Jb (H':=[.blk b6 [AH 4 (Aq Ab ((Aj d_p1 (At d.fEntities e (-1))).fState)),rv v7,Ah ((Aj d_p1 (At d.fEntities e (-1))).fDone)] 87,.row v7 88 1 (Aq (eP ha) ((Aj d_p1 (At d.fEntities e (-1))).fCalls)),.poolw hb hh 87 88 1 (Aq (Ae ha) d_p1) (some (Cg (At d.fEntities e (-1)),(b6,v7))),.blk he [Ah d.fNow,rv (.map (some hb)),rv (.map (some ha))] 68,.map hb (A5 (mP hb) d.fEntities),.map ha (A5 (mP ha) d.fCalls),.pool ha hg 44 (Aq Ad d_p2)]) Aa (wv (AO Aa) (vF Gx Aa IX (vL 0 My Aa (wv (CO (ys:=(Aj d_p1 (At d.fEntities e (-1))).fCalls) (enc:=(eP ha)) (i:=1) JD Aa Aa) (wv (r:=Ah 0) (Ax Aa) (Av (AS (WC.nilrow (e:=44) (sz:=8) (G3 (H2:=[.blk b6 [AH 4 (Aq Ab ((Aj d_p1 (At d.fEntities e (-1))).fState)),rv v7,Ah ((Aj d_p1 (At d.fEntities e (-1))).fDone)] 87,.row v7 88 1 (Aq (eP ha) ((Aj d_p1 (At d.fEntities e (-1))).fCalls)),.poolw hb hh 87 88 1 (Aq (Ae ha) d_p1) (some (Cg (At d.fEntities e (-1)),(b6,v7))),.blk he [Ah d.fNow,rv (.map (some hb)),rv (.map (some ha))] 68,.map hb (A5 (mP hb) d.fEntities),.map ha (A5 (mP ha) d.fCalls),.pool ha hg 44 (Aq Ad d_p2),.row (.slice none 0 0                                            ) 44 8 (Aq Ad ([]:List As))]) ((Af (i:=1) Aa).trans (PN _ ((Af (i:=1) Aa).trans (PN _ ((Af (i:=1) Aa).trans (PN _ ((Af (i:=1) Aa).trans (PN _ ((Af (i:=1) Aa).trans (PN _ ((Af (i:=1) Aa).trans (PN _ ((Af (i:=1) Aa).trans (PN _ (PO _))))))))))))))) (ob h5 λhq hr hs=>BF (S:=Nat×((List As)×Int)×(Value)) (V:=((List As))×(Value)) 0 (λσ=>CB (λσ=>EQ F d d_p1 d_p2 e σ.1 σ.2) σ.1 σ.2.1=some hq) (λσ=>[(7,rv σ.2.2),(27,rv v7),(28,Ah (((Aj d_p1 (At d.fEntities e (-1))).fCalls).length:Int)),(29,Ah σ.2.1.2)]) (λσ=>[.blk b6 [AH 4 (Aq Ab ((Aj d_p1 (At d.fEntities e (-1))).fState)),rv v7,Ah ((Aj d_p1 (At d.fEntities e (-1))).fDone)] 87,.row v7 88 1 (Aq (eP ha) ((Aj d_p1 (At d.fEntities e (-1))).fCalls)),.poolw hb hh 87 88 1 (Aq (Ae ha) d_p1) (some (Cg (At d.fEntities e (-1)),(b6,v7))),.blk he [Ah d.fNow,rv (.map (some hb)),rv (.map (some ha))] 68,.map hb (A5 (mP hb) d.fEntities),.map ha (A5 (mP ha) d.fCalls),.pool ha hg 44 (Aq Ad d_p2),.row σ.2.2 44 8 (Aq Ad σ.2.1.1)]) (λσ=>σ.1) (F,(([]:List As),0),(.slice none 0 0                                            )) hr (AQ.c Aa (AQ.c Aa (AQ.c Aa (AQ.c Aa AQ.nil)))) (sC (sC (sC (sC (sC (sC (sC (sC sN)))))))) (λσ=>EP σ.1=some r) (λσ=>[(7,rv σ.2)]) (λσ=>[.blk b6 [AH 4 (Aq Ab ((Aj d_p1 (At d.fEntities e (-1))).fState)),rv v7,Ah ((Aj d_p1 (At d.fEntities e (-1))).fDone)] 87,.row v7 88 1 (Aq (eP ha) ((Aj d_p1 (At d.fEntities e (-1))).fCalls)),.poolw hb hh 87 88 1 (Aq (Ae ha) d_p1) (some (Cg (At d.fEntities e (-1)),(b6,v7))),.blk he [Ah d.fNow,rv (.map (some hb)),rv (.map (some ha))] 68,.map hb (A5 (mP hb) d.fEntities),.map ha (A5 (mP ha) d.fCalls),.pool ha hg 44 (Aq Ad d_p2),.row σ.2 44 8 (Aq Ad σ.1)]) ?_ ?_))))))))))
  ·rintro⟨hI,⟨hi,hd⟩,v46⟩ ht;refine Ch (l':=[(7,rv v46),(27,rv v7),(28,Ah (((Aj d_p1 (At d.fEntities e (-1))).fCalls).length:Int)),(29,Ah hd)]) (H':=[.blk b6 [AH 4 (Aq Ab ((Aj d_p1 (At d.fEntities e (-1))).fState)),rv v7,Ah ((Aj d_p1 (At d.fEntities e (-1))).fDone)] 87,.row v7 88 1 (Aq (eP ha) ((Aj d_p1 (At d.fEntities e (-1))).fCalls)),.poolw hb hh 87 88 1 (Aq (Ae ha) d_p1) (some (Cg (At d.fEntities e (-1)),(b6,v7))),.blk he [Ah d.fNow,rv (.map (some hb)),rv (.map (some ha))] 68,.map hb (A5 (mP hb) d.fEntities),.map ha (A5 (mP ha) d.fCalls),.pool ha hg 44 (Aq Ad d_p2),.row v46 44 8 (Aq Ad hi)]) Aa Aa ?_;obtain⟨hu,rfl,hw,hk,hn⟩:=Ds ht;replace hk:EQ F d d_p1 d_p2 e hi hd=some hw:=hk;unfold EQ at hk;refine Am (wv (D8 Aa Aa) (Av (Au (cz hk Aa (λhx hy=>?_) (λhx hz=>?_)))))
   ·refine A7 (AW (Au (AS (Am (ck hy λho h0=>wv (r:=rv (Dn 1 v7 (Cg hd) 0)) (E4 (i:=1) JD N0 Aa Aa Aa (Bh ho)) (wv (r:=DF ha (Aj ((Aj d_p1 (At d.fEntities e (-1))).fCalls) hd) 0) (Do (enc:=(eP ha)) (ys:=(Aj d_p1 (At d.fEntities e (-1))).fCalls) (i:=1) (j:=hd) Tryz.isAgg88 Aa Aa ho Aa) (wa Aa (Av (A4 (wm Aa (wm Aa (ck h0 λh1 h4=>wv (r:=DF ha (Aj ((Aj d_p1 (At d.fEntities e (-1))).fCalls) hd) 0) (Cq Aa h1) (ck h4 λh6 h7=>wv (r:=AT [rS (((Aj d_p2 (Aj ((Aj d_p1 (At d.fEntities e (-1))).fCalls) hd)).fOp).fEntity),rS (((Aj d_p2 (Aj ((Aj d_p1 (At d.fEntities e (-1))).fCalls) hd)).fOp).fID),rS (((Aj d_p2 (Aj ((Aj d_p1 (At d.fEntities e (-1))).fCalls) hd)).fOp).fOp),AH 1 (Aq Ak (((Aj d_p2 (Aj ((Aj d_p1 (At d.fEntities e (-1))).fCalls) hd)).fOp).fArgs)),Ah (((Aj d_p2 (Aj ((Aj d_p1 (At d.fEntities e (-1))).fCalls) hd)).fAnswer).fErr),AH 4 (Aq Ab (((Aj d_p2 (Aj ((Aj d_p1 (At d.fEntities e (-1))).fCalls) hd)).fAnswer).fValue)),Ah ((Aj d_p2 (Aj ((Aj d_p1 (At d.fEntities e (-1))).fCalls) hd)).fFrom),Ah ((Aj d_p2 (Aj ((Aj d_p1 (At d.fEntities e (-1))).fCalls) hd)).fTo)]) (EJ (enc:=Ad) (xs:=d_p2) (j:=6) Gz Cv Aa Aa h6 Aa Aa) (ob h7 λhf h8 h9=>Cw Tryz.call45 (IJ F (As.mk ((Aj d_p2 (Aj ((Aj d_p1 (At d.fEntities e (-1))).fCalls) hd)).fOp) ((Aj d_p2 (Aj ((Aj d_p1 (At d.fEntities e (-1))).fCalls) hd)).fAnswer) ((Aj d_p2 (Aj ((Aj d_p1 (At d.fEntities e (-1))).fCalls) hd)).fFrom) ((Aj d_p2 (Aj ((Aj d_p1 (At d.fEntities e (-1))).fCalls) hd)).fTo)) hf h8) Aa (AZ (ys:=([hf]:List As)) (enc:=Ad) (css:=[[rS hf.fOp.fEntity,rS hf.fOp.fID,rS hf.fOp.fOp,AH 1 (Aq Ak hf.fOp.fArgs),Ah hf.fAnswer.fErr,AH 4 (Aq Ab hf.fAnswer.fValue),Ah hf.fFrom,Ah hf.fTo]]) (xs:=[.tmp 37]) It Cv H3 Aa Aa Aa ⟨GS.agg ⟨Up.refl _,Up.refl _,Up.refl _,Up.refl _,Up.refl _,Up.refl _,Up.refl _,Up.refl _,trivial⟩,trivial⟩ Aa Gh Aa Aa Aa (λhA=>?_))))))))))))))));refine ck h9 λhB hC=>Exists.elim OE λinf hinf=>C1 (xs:=hi) (ys:=([hf]:List As)) (enc:=Ad) (i:=8) It hinf.1 hinf.2.1 hinf.2.2.1 hinf.2.2.2 Aa Aa Aa Aa Aa (K3.w (i:=0) Aa Aa) Gh I6 hB Aa (λhp=>?_);refine wa Aa (A1 (AX (AW (A4 (ck hC λhD hE=>wv (BS Aa Aa hD) (wm Aa (A1 (BU (H2:=[.blk b6 [AH 4 (Aq Ab ((Aj d_p1 (At d.fEntities e (-1))).fState)),rv v7,Ah ((Aj d_p1 (At d.fEntities e (-1))).fDone)] 87,.row v7 88 1 (Aq (eP ha) ((Aj d_p1 (At d.fEntities e (-1))).fCalls)),.poolw hb hh 87 88 1 (Aq (Ae ha) d_p1) (some (Cg (At d.fEntities e (-1)),(b6,v7))),.blk he [Ah d.fNow,rv (.map (some hb)),rv (.map (some ha))] 68,.map hb (A5 (mP hb) d.fEntities),.map ha (A5 (mP ha) d.fCalls),.pool ha hg 44 (Aq Ad d_p2),.row hp 44 8 (Aq Ad (hi++([hf]:List As))),.row (.slice (some ⟨hA,0,none⟩) 1 1) 44 8 (Aq Ad ([hf]:List As))]) ((Af (i:=2) Aa).trans (PN _ ((Af (i:=2) Aa).trans (PN _ ((Af (i:=2) Aa).trans (PN _ ((Af (i:=2) Aa).trans (PN _ ((Af (i:=2) Aa).trans (PN _ ((Af (i:=2) Aa).trans (PN _ ((Af (i:=2) Aa).trans (PN _ (PO _))))))))))))))) ?_))))))));have hG:=BG hE hn;exact AE (AR (hu,(hi++([hf]:List As),hd+1),hp) ⟨hG,PX _⟩ (AQ.c Aa (AQ.c Aa (AQ.c Aa (AQ.c Aa AQ.nil)))) (sC (sC (sC (sC (sC (sC (sC (sC (sS sN))))))))))
   ·refine B7 (AB ?_);have hH:=Cy hz hn hs;exact AB (Bp (AR (hi,v46) hH (AQ.c Aa AQ.nil) (sC (sC (sC (sC (sC (sC (sC (sC sN))))))))))
  ·rintro⟨hj,hl⟩ hm;refine Dr (l':=[(7,rv hl)]) (H':=[.blk b6 [AH 4 (Aq Ab ((Aj d_p1 (At d.fEntities e (-1))).fState)),rv v7,Ah ((Aj d_p1 (At d.fEntities e (-1))).fDone)] 87,.row v7 88 1 (Aq (eP ha) ((Aj d_p1 (At d.fEntities e (-1))).fCalls)),.poolw hb hh 87 88 1 (Aq (Ae ha) d_p1) (some (Cg (At d.fEntities e (-1)),(b6,v7))),.blk he [Ah d.fNow,rv (.map (some hb)),rv (.map (some ha))] 68,.map hb (A5 (mP hb) d.fEntities),.map ha (A5 (mP ha) d.fCalls),.pool ha hg 44 (Aq Ad d_p2),.row hl 44 8 (Aq Ad hj)]) Aa Aa ?_;replace hm:EP hj=some r:=hm;unfold EP at hm;refine Bi (AW (Am (wm Aa (wa Aa (Av (A0 (WK.putsame (encw:=(Ae ha)) (xs:=d_p1) (i:=At d.fEntities e (-1)) (Hr:=[.blk he [Ah d.fNow,rv (.map (some hb)),rv (.map (some ha))] 68,.map hb (A5 (mP hb) d.fEntities),.map ha (A5 (mP ha) d.fCalls),.pool ha hg 44 (Aq Ad d_p2),.row hl 44 8 (Aq Ad hj)]) (PO _) g4 [] trivial Aa Aa (WK.freeze (i:=5) Aa (WK.up (d:=4) (r:=AH 8 (Aq Ad hj)) Aa (Up.fact (i:=0) Aa) (BU (H2:=[.blk he [Ah d.fNow,rv (.map (some hb)),rv (.map (some ha))] 68,.map hb (A5 (mP hb) d.fEntities),.map ha (A5 (mP ha) d.fCalls),.poolw hb hh 87 88 1 (Aq (Ae ha) d_p1) none,.pool ha hg 44 (Aq Ad d_p2),.fact hl (AH 8 (Aq Ad hj))]) ((Af (i:=2) Aa).trans (PN _ ((Af (i:=2) Aa).trans (PN _ ((Af (i:=2) Aa).trans (PN _ ((Af (i:=1) Aa).trans (PN _ ((Af (i:=1) Aa).trans (PN _ (PO _))))))))))) ?_))))))))));obtain rfl:=A2 hm;exact Az (BJ N4 (AN Aa)) (sC (sC (sC (sC (sC (sS sN)))))) ⟨Aa,Aa⟩
theorem KJ (F:Nat)(he:Nat)(hb:Nat)(ha:Nat)(hf:Value)(hg:Value)(d:AA)(d_p1:(List An))(d_p2:(List As))(e:Ao)(r:(List Ao))(h:HW F d d_p1 d_p2 e=some r):Fn Tryz.prog GE 20 [rP he 0,rS e] [.blk he [Ah d.fNow,rv (.map (some hb)),rv (.map (some ha))] 68,.map hb (A5 (mP hb) d.fEntities),.map ha (A5 (mP ha) d.fCalls),.poolw hb hf 87 88 1 (Aq (Ae ha) d_p1) none,.pool ha hg 44 (Aq Ad d_p2)] (λR H=>R=AH 1 (Aq eS r)∧H=[.blk he [Ah d.fNow,rv (.map (some hb)),rv (.map (some ha))] 68,.map hb (A5 (mP hb) d.fEntities),.map ha (A5 (mP ha) d.fCalls),.poolw hb hf 87 88 1 (Aq (Ae ha) d_p1) none,.pool ha hg 44 (Aq Ad d_p2)]):=by
 refine enter (n:=27) Tryz.func20 Aa Tryz.ntmps20 Aa (λw Z=>?_);unfold HW at h;refine Am (wa Aa (Bs (wa Aa (Av (Au (Am (wm Aa (wm Aa (ob h λr1 e3 h2=>Gt (Hr:=[]) Mw (MW F he hb ha hf hg d d_p1 d_p2 e r1 e3) Aa (PO _) Aa ?_)))))))));rintro _ _ ⟨rfl,rfl⟩;refine wv (Bb (ys:=r1) (enc:=Ad) It Aa) (wv (r:=Ah 0) (Ax Aa) (Av (AS (WC.nilrow (e:=9) (sz:=1) (G3 (H2:=[.blk he [Ah d.fNow,rv (.map (some hb)),rv (.map (some ha))] 68,.map hb (A5 (mP hb) d.fEntities),.map ha (A5 (mP ha) d.fCalls),.poolw hb hf 87 88 1 (Aq (Ae ha) d_p1) none,.pool ha hg 44 (Aq Ad d_p2),.row (.slice none 0 0         ) 9 1 (Aq eS ([]:List Ao))]) ((Af (i:=1) Aa).trans (PN _ ((Af (i:=1) Aa).trans (PN _ ((Af (i:=1) Aa).trans (PN _ ((Af (i:=1) Aa).trans (PN _ ((Af (i:=1) Aa).trans (PN _ (PO _))))))))))) (ob h2 λhu hw hx=>BF (S:=Nat×((List Ao)×Int)×(Value)) (V:=((List Ao))×(Value)) 0 (λσ=>CB (λσ=>DL r1 σ.1 σ.2) σ.1 σ.2.1=some hu) (λσ=>[(5,rv σ.2.2),(10,AH 8 (Aq Ad r1)),(11,Ah (r1.length:Int)),(12,Ah σ.2.1.2)]) (λσ=>[.blk he [Ah d.fNow,rv (.map (some hb)),rv (.map (some ha))] 68,.map hb (A5 (mP hb) d.fEntities),.map ha (A5 (mP ha) d.fCalls),.poolw hb hf 87 88 1 (Aq (Ae ha) d_p1) none,.pool ha hg 44 (Aq Ad d_p2),.row σ.2.2 9 1 (Aq eS σ.2.1.1)]) (λσ=>σ.1) (F,(([]:List Ao),0),(.slice none 0 0         )) hw (AQ.c Aa (AQ.c Aa (AQ.c Aa (AQ.c Aa AQ.nil)))) (sC (sC (sC (sC (sC (sC sN)))))) (λσ=>DK σ.1=some r) (λσ=>[(5,rv σ.2)]) (λσ=>[.blk he [Ah d.fNow,rv (.map (some hb)),rv (.map (some ha))] 68,.map hb (A5 (mP hb) d.fEntities),.map ha (A5 (mP ha) d.fCalls),.poolw hb hf 87 88 1 (Aq (Ae ha) d_p1) none,.pool ha hg 44 (Aq Ad d_p2),.row σ.2 9 1 (Aq eS σ.1)]) ?_ ?_))))))
 ·rintro⟨hH,⟨hh,hd⟩,hi⟩ hy;refine Ch (l':=[(5,rv hi),(10,AH 8 (Aq Ad r1)),(11,Ah (r1.length:Int)),(12,Ah hd)]) (H':=[.blk he [Ah d.fNow,rv (.map (some hb)),rv (.map (some ha))] 68,.map hb (A5 (mP hb) d.fEntities),.map ha (A5 (mP ha) d.fCalls),.poolw hb hf 87 88 1 (Aq (Ae ha) d_p1) none,.pool ha hg 44 (Aq Ad d_p2),.row hi 9 1 (Aq eS hh)]) Aa Aa ?_;obtain⟨hz,rfl,hm,hj,hq⟩:=Ds hy;replace hj:DL r1 hh hd=some hm:=hj;unfold DL at hj;refine Am (wv (D8 Aa Aa) (Av (Au (cz hj Aa (λh0 h1=>?_) (λh0 h3=>?_)))))
  ·refine A7 (AW (C9 (S:=((List Ao))×(Value)) (λσ=>Di hd σ.1=some hm) (λσ=>[(5,rv σ.2),(10,AH 8 (Aq Ad r1)),(11,Ah (r1.length:Int)),(12,Ah hd)]) (λσ=>[.blk he [Ah d.fNow,rv (.map (some hb)),rv (.map (some ha))] 68,.map hb (A5 (mP hb) d.fEntities),.map ha (A5 (mP ha) d.fCalls),.poolw hb hf 87 88 1 (Aq (Ae ha) d_p1) none,.pool ha hg 44 (Aq Ad d_p2),.row σ.2 9 1 (Aq eS σ.1)]) ?_ ?_))
   ·refine AS (Am (ck h1 λh4 h5=>wv (Bu (enc:=Ad) (ys:=r1) It Cv Aa Aa h4) (wv (CE Gz Cv Aa Aa Aa) (Bl (cs:=[rS ([]:Ao),rS ([]:Ao),rS ([]:Ao),rv (.slice none 0 0),Ah 0,rv (.slice none 0 0),Ah 0,Ah 0]) H3 Aa Aa (λhr=>?_)))));refine A6 (i:=0) Cv Aa Aa Aa (AV.c Aa) Aa Aa (cs':=[rS (((Aj r1 hd).fOp).fEntity),rS (((Aj r1 hd).fOp).fID),rS (((Aj r1 hd).fOp).fOp),AH 1 (Aq Ak (((Aj r1 hd).fOp).fArgs)),Ah (((Aj r1 hd).fAnswer).fErr),AH 4 (Aq Ab (((Aj r1 hd).fAnswer).fValue)),Ah ((Aj r1 hd).fFrom),Ah ((Aj r1 hd).fTo)]) Aa (H':=[.blk hr [rS (((Aj r1 hd).fOp).fEntity),rS (((Aj r1 hd).fOp).fID),rS (((Aj r1 hd).fOp).fOp),AH 1 (Aq Ak (((Aj r1 hd).fOp).fArgs)),Ah (((Aj r1 hd).fAnswer).fErr),AH 4 (Aq Ab (((Aj r1 hd).fAnswer).fValue)),Ah ((Aj r1 hd).fFrom),Ah ((Aj r1 hd).fTo)] 44,.blk he [Ah d.fNow,rv (.map (some hb)),rv (.map (some ha))] 68,.map hb (A5 (mP hb) d.fEntities),.map ha (A5 (mP ha) d.fCalls),.poolw hb hf 87 88 1 (Aq (Ae ha) d_p1) none,.pool ha hg 44 (Aq Ad d_p2),.row hi 9 1 (Aq eS hh)]) Aa (Bs (vF Ew Aa C0 (vL 0 DN Aa (wv (BK Aa Aa) (Av (cz h5 Aa (λh6 h7=>?_) (λh6 h8=>?_)))))))
    ·refine A4 (wm Aa (vF Ew Aa Dt (vF BI Aa CM (vL 0 Dm Aa (AZ (ys:=([((Aj r1 hd).fOp).fID]:List Ao)) (enc:=eS) (css:=[[rS (((Aj r1 hd).fOp).fID)]]) (xs:=[.tmp 22]) Ev CM OS Aa Aa Aa ⟨GS.one Aa (Up.refl _),trivial⟩ Aa EB Aa Aa Aa (λh9=>?_))))));refine ck h7 λhA hB=>Exists.elim Ng λinf hinf=>C1 (xs:=hh) (ys:=([((Aj r1 hd).fOp).fID]:List Ao)) (enc:=eS) (i:=7) Ev hinf.1 hinf.2.1 hinf.2.2.1 hinf.2.2.2 Aa Aa Aa Aa Aa (K3.w (i:=0) Aa Aa) EB KW hA Aa (λhs=>?_);exact wa Aa (A1 (AX (BU (H2:=[.blk he [Ah d.fNow,rv (.map (some hb)),rv (.map (some ha))] 68,.map hb (A5 (mP hb) d.fEntities),.map ha (A5 (mP ha) d.fCalls),.poolw hb hf 87 88 1 (Aq (Ae ha) d_p1) none,.pool ha hg 44 (Aq Ad d_p2),.row hs 9 1 (Aq eS (hh++([((Aj r1 hd).fOp).fID]:List Ao))),.row (.slice (some ⟨h9,0,none⟩) 1 1) 9 1 (Aq eS ([((Aj r1 hd).fOp).fID]:List Ao)),.blk hr [rS (((Aj r1 hd).fOp).fEntity),rS (((Aj r1 hd).fOp).fID),rS (((Aj r1 hd).fOp).fOp),AH 1 (Aq Ak (((Aj r1 hd).fOp).fArgs)),Ah (((Aj r1 hd).fAnswer).fErr),AH 4 (Aq Ab (((Aj r1 hd).fAnswer).fValue)),Ah ((Aj r1 hd).fFrom),Ah ((Aj r1 hd).fTo)] 44]) ((Af (i:=3) Aa).trans (PN _ ((Af (i:=3) Aa).trans (PN _ ((Af (i:=3) Aa).trans (PN _ ((Af (i:=3) Aa).trans (PN _ ((Af (i:=3) Aa).trans (PN _ (PO _))))))))))) (AE (AR (hh++([((Aj r1 hd).fOp).fID]:List Ao),hs) hB (AQ.c Aa (AQ.c Aa (AQ.c Aa (AQ.c Aa AQ.nil)))) (sC (sC (sC (sC (sC (sC (sS (sS sN)))))))))))))
    ·exact A7 (AX (AE (AR (hh,hi) h8 (AQ.c Aa (AQ.c Aa (AQ.c Aa (AQ.c Aa AQ.nil)))) (sS (sC (sC (sC (sC (sC (sC sN))))))))))
   ·rintro⟨hn,ho⟩ hk;refine Ch (l':=[(5,rv ho),(10,AH 8 (Aq Ad r1)),(11,Ah (r1.length:Int)),(12,Ah hd)]) (H':=[.blk he [Ah d.fNow,rv (.map (some hb)),rv (.map (some ha))] 68,.map hb (A5 (mP hb) d.fEntities),.map ha (A5 (mP ha) d.fCalls),.poolw hb hf 87 88 1 (Aq (Ae ha) d_p1) none,.pool ha hg 44 (Aq Ad d_p2),.row ho 9 1 (Aq eS hn)]) Aa Aa ?_;replace hk:Di hd hn=some hm:=hk;unfold Di at hk;refine A4 (ck hk λhC hD=>wv (BS Aa Aa hC) (wm Aa (A1 ?_)));have hE:=BG hD hq;exact AE (AR (hz,(hn,hd+1),ho) ⟨hE,PX _⟩ (AQ.c Aa (AQ.c Aa (AQ.c Aa (AQ.c Aa AQ.nil)))) (sC (sC (sC (sC (sC (sC sN)))))))
  ·refine B7 (AB ?_);have hG:=Cy h3 hq hx;exact AB (Bp (AR (hh,hi) hG (AQ.c Aa AQ.nil) (sC (sC (sC (sC (sC (sC sN))))))))
 ·rintro⟨hp,ht⟩ hl;refine Dr (l':=[(5,rv ht)]) (H':=[.blk he [Ah d.fNow,rv (.map (some hb)),rv (.map (some ha))] 68,.map hb (A5 (mP hb) d.fEntities),.map ha (A5 (mP ha) d.fCalls),.poolw hb hf 87 88 1 (Aq (Ae ha) d_p1) none,.pool ha hg 44 (Aq Ad d_p2),.row ht 9 1 (Aq eS hp)]) Aa Aa ?_;replace hl:DK hp=some r:=hl;unfold DK at hl;refine Bi (AW (Am (wm Aa (wa Aa (Av (A0 (WK.freeze (i:=5) Aa (WK.up (d:=4) (r:=AH 1 (Aq eS hp)) Aa (Up.fact (i:=0) Aa) ?_))))))));obtain rfl:=A2 hl;exact Az (BJ Tryz.results20 (AN Aa)) (sS (sC (sC (sC (sC (sC sN)))))) ⟨Aa,Aa⟩
theorem MV (hd:Nat)(ha:Nat)(hb:Nat)(he:Value)(hf:Value)(d:AA)(d_p1:(List An))(d_p2:(List As))(r:(List Ao))(h:KO d d_p1 d_p2=some r):Fn Tryz.prog GE 22 [rP hd 0] [.blk hd [Ah d.fNow,rv (.map (some ha)),rv (.map (some hb))] 68,.map ha (A5 (mP ha) d.fEntities),.map hb (A5 (mP hb) d.fCalls),.poolw ha he 87 88 1 (Aq (Ae hb) d_p1) none,.pool hb hf 44 (Aq Ad d_p2)] (λR H=>R=AH 1 (Aq eS r)∧H=[.blk hd [Ah d.fNow,rv (.map (some ha)),rv (.map (some hb))] 68,.map ha (A5 (mP ha) d.fEntities),.map hb (A5 (mP hb) d.fCalls),.poolw ha he 87 88 1 (Aq (Ae hb) d_p1) none,.pool hb hf 44 (Aq Ad d_p2)]):=by
 refine enter (n:=12) Tryz.func22 Aa Tryz.ntmps22 Aa (λw Z=>?_);unfold KO at h;refine Am (wa Aa (Av (Au (Am (wm Aa (Gt (Hr:=[.map ha (A5 (mP ha) d.fEntities),.map hb (A5 (mP hb) d.fCalls),.poolw ha he 87 88 1 (Aq (Ae hb) d_p1) none,.pool hb hf 44 (Aq Ad d_p2)]) Ey (GK hd ha hb d true Aa) Aa (PO _) Aa ?_))))));rintro _ _ ⟨rfl,rfl⟩;refine wv (B5 Aa) (Av (Co Aa (BX Aa) (A7 (AW (Am (wm Aa (wv (AO Aa) (vF Ea Aa IY (vL 0 IZ Aa (Eb (rs:=[rv (.map (some ha))]) (Hin:=[]) (Hr:=[.blk hd [Ah d.fNow,rv (.map (some ha)),rv (.map (some hb))] 68,.map ha (A5 (mP ha) d.fEntities),.map hb (A5 (mP hb) d.fCalls),.poolw ha he 87 88 1 (Aq (Ae hb) d_p1) none,.pool hb hf 44 (Aq Ad d_p2)]) Tryz.call50 Aa (PO _) (KS ha) Aa ?_))))))))));rintro _ _ ⟨b1,rfl,rfl⟩;refine ck h λg2 h3=>Eb (rs:=[rv (.func (.func 74) #[] #[(.pointer (some ⟨b1,0,none⟩))])]) (Hin:=[.blk b1 [rv (.map (some ha))] 65,.map ha (A5 (mP ha) d.fEntities)]) (Hr:=[.blk hd [Ah d.fNow,rv (.map (some ha)),rv (.map (some hb))] 68,.map hb (A5 (mP hb) d.fCalls),.poolw ha he 87 88 1 (Aq (Ae hb) d_p1) none,.pool hb hf 44 (Aq Ad d_p2)]) Tryz.call49 Aa ((Af (i:=0) Aa).trans (PN _ ((Af (i:=1) Aa).trans (PN _ (PO _))))) (JP (mP ha) d.fEntities b1 ha g2) Aa ?_;rintro _ _ ⟨v4,rfl,rfl⟩;refine wa Aa (Av (A0 (WK.freeze (i:=0) Aa (WK.up (d:=2) (r:=AH 1 (Aq eS (IK d.fEntities))) Aa (Up.fact (i:=0) Aa) (BU (H2:=[.blk hd [Ah d.fNow,rv (.map (some ha)),rv (.map (some hb))] 68,.map ha (A5 (mP ha) d.fEntities),.map hb (A5 (mP hb) d.fCalls),.poolw ha he 87 88 1 (Aq (Ae hb) d_p1) none,.pool hb hf 44 (Aq Ad d_p2),.fact v4 (AH 1 (Aq eS (IK d.fEntities))),.blk b1 [rv (.map (some ha))] 65]) ((Af (i:=3) Aa).trans (PN _ ((Af (i:=2) Aa).trans (PN _ ((Af (i:=2) Aa).trans (PN _ ((Af (i:=2) Aa).trans (PN _ ((Af (i:=2) Aa).trans (PN _ (PO _))))))))))) ?_)))));obtain rfl:=A2 h3;exact Az (BJ Tryz.results22 (AN Aa)) (sC (sC (sC (sC (sC (sS (sS sN))))))) ⟨Aa,Aa⟩
end Go.Proofs.YtfbmdidnlhifjaaGreatDoor.Q
namespace Go.Proofs.YtfbmdidnlhifjaaGreatDoor
open Go
set_option linter.unusedVariables false
def BR (e:Ao):Option ((List As)):=
 some ([]:List As)
def HY (op:A3)(now:Int):Option (Int):=
 some 10
def GJ (e:Ao)(now:Int):Option (As×Bool):=
 some ((As.mk (A3.mk ([]:Ao) ([]:Ao) ([]:Ao) ([]:List (List Ac))) (A8.mk 0 ([]:List Ac)) 0 0),false)
def BD (e:Ao):Option ((List Ac)):=
 B6 (HN) λr1=>some r1
def Cn (ha:Int)(hb:(List Ao)):Option (Stp ((List Ao)×Int) (Out ((List Ao)) ((List Ao)))):=
 Bn (Cr .i64 (ha+1))<|some (.next (hb,ha+1))
def CQ (r1:(List As))(hb:(List Ao))(ha:Int):Option (Stp ((List Ao)×Int) (Out ((List Ao)) ((List Ao)))):=
 B0 (decide (ha<(r1.length:Int))) (Bn (BV ha (r1.length:Int))<|B0 (decide (((Aj r1 ha).fTo)=(-1))) (Bn (Mf 16 (hb.length+([((Aj r1 ha).fOp).fID]:List Ao).length))<|Cn ha (hb++([((Aj r1 ha).fOp).fID]:List Ao))) (Cn ha hb)) (some (.out (.go hb)))
def CP (ha:(List Ao)):Option ((List Ao)):=
 some ha
def BA (F:Nat)(e:Ao):Option ((List Ao)):=
 B6 (BR e) λr1=>B6 (CB (λσ=>CQ r1 σ.1 σ.2) F (([]:List Ao),0)) (Cf λν=>CP ν)
def Ek (id:Ao):Option (A8×Bool):=
 some ((A8.mk 0 ([]:List Ac)),false)
def CG :Option ((List Ao)):=
 some ([]:List Ao)
def D9 (e:Ao):Option ((List As)):=
 some ([]:List As)
def Hx (op:A3)(now:Int):Option (Int):=
 some 10
def EK (e:Ao)(now:Int):Option (As×Bool):=
 some ((As.mk (A3.mk ([]:Ao) ([]:Ao) ([]:Ao) ([]:List (List Ac))) (A8.mk 0 ([]:List Ac)) 0 0),false)
def Ei (e:Ao):Option ((List Ac)):=
 B6 (HN) λr1=>some r1
def BY (ha:Int)(hb:(List Ao)):Option (Stp ((List Ao)×Int) (Out ((List Ao)) ((List Ao)))):=
 Bn (Cr .i64 (ha+1))<|some (.next (hb,ha+1))
def C7 (r1:(List As))(hb:(List Ao))(ha:Int):Option (Stp ((List Ao)×Int) (Out ((List Ao)) ((List Ao)))):=
 B0 (decide (ha<(r1.length:Int))) (Bn (BV ha (r1.length:Int))<|B0 (decide (((Aj r1 ha).fTo)=(-1))) (Bn (Mf 16 (hb.length+([((Aj r1 ha).fOp).fID]:List Ao).length))<|BY ha (hb++([((Aj r1 ha).fOp).fID]:List Ao))) (BY ha hb)) (some (.out (.go hb)))
def C6 (ha:(List Ao)):Option ((List Ao)):=
 some ha
def Dv (F:Nat)(e:Ao):Option ((List Ao)):=
 B6 (D9 e) λr1=>B6 (CB (λσ=>C7 r1 σ.1 σ.2) F (([]:List Ao),0)) (Cf λν=>C6 ν)
def DM (id:Ao):Option (A8×Bool):=
 some ((A8.mk 0 ([]:List Ac)),false)
def Ej :Option ((List Ao)):=
 some ([]:List Ao)
def EA (F:Nat) :Option (Bool):=
 B6 (OA) λr1=>B6 (Ii ([97]:Ao) 1) λr9=>B6 (GH F r1.1 r1.2.1 r1.2.2 r9 5) λhd=>Bn (!(!decide (hd.1=0)))<|B6 (Ii ([98]:Ao) 2) λhh=>B6 (GH F hd.2.1 hd.2.2.1 hd.2.2.2 hh 5) λhe=>Bn (!(!decide (he.1=0)))<|B6 (Ii ([98]:Ao) 1) λhi=>B6 (GH F he.2.1 he.2.2.1 he.2.2.2 hi 5) λhb=>Bn (!(!decide (hb.1=19)))<|B6 (HW F hb.2.1 hb.2.2.1 hb.2.2.2 ([120]:Ao)) λhj=>B6 (Ls F hb.2.1 hb.2.2.1 hb.2.2.2 ([120]:Ao) 6) λhf=>B6 (Ls F hf.2.2.1 hf.2.2.2.1 hf.2.2.2.2 ([120]:Ao) 7) λha=>B6 (KM ha.2.2.1 ha.2.2.2.1 ha.2.2.2.2 ([120]:Ao)) λhg=>B6 (Jy F hj ([([97]:Ao),([98]:Ao)]:List Ao)) λhk=>Bn (hk)<|Bn (hf.2.1)<|Bn (ha.2.1)<|Bn (decide (ha.1.fTo=7))<|Bn (decide ((ha.1.fAnswer.fValue.length:Int)=1))<|Bn (BV 0 (ha.1.fAnswer.fValue.length:Int))<|Bn (decide (((Aj ha.1.fAnswer.fValue 0).fInt)=3))<|Bn (decide ((hg.length:Int)=1))<|Bn (BV 0 (hg.length:Int))<|Bn (decide (((Aj hg 0).fInt)=3))<|B6 (KO ha.2.2.1 ha.2.2.2.1 ha.2.2.2.2) λhl=>B6 (Jy F hl ([([120]:Ao)]:List Ao)) λhm=>some hm
def BM (F:Nat)(ha:Bool):Option (Bool):=
 B0 (ha) (some false) (B6 (EA F) λhb=>some hb)
def E9 (F:Nat)(op:A3)(now:Int):Option (Bool):=
 B6 (Ie F op) λr2=>B0 (!r2) (B6 (EA F) λr7=>some r7) (Bn (BV 0 2)<|B6 (GJ op.fEntity now) λha=>B6 (Ek op.fID) λhb=>Bn (imp (!ha.2) (imp (!hb.2) ((BD op.fEntity).isSome)))<|Bn (imp (!ha.2) (imp (!hb.2) ((D6).isSome)))<|Bn (imp (!ha.2) (imp (!hb.2) ((DG F (ov (BD op.fEntity)) (ov (D6))).isSome)))<|Bn (imp (!ha.2) (imp (!hb.2) (imp (!(!(ov (DG F (ov (BD op.fEntity)) (ov (D6)))))) ((BA F op.fEntity).isSome))))<|Bn (imp (!ha.2) (imp (!hb.2) (imp (!(!(ov (DG F (ov (BD op.fEntity)) (ov (D6)))))) (imp (!(!decide (((ov (BA F op.fEntity)).length:Int)=0))) ((BR op.fEntity).isSome)))))<|Bn (imp (!ha.2) (imp (!hb.2) (imp (!(!(ov (DG F (ov (BD op.fEntity)) (ov (D6)))))) (imp (!(!decide (((ov (BA F op.fEntity)).length:Int)=0))) (imp (!(!decide (((ov (BR op.fEntity)).length:Int)=0))) ((CG).isSome))))))<|B0 ((ha.2||(hb.2||((!(ov (DG F (ov (BD op.fEntity)) (ov (D6)))))||((!decide (((ov (BA F op.fEntity)).length:Int)=0))||((!decide (((ov (BR op.fEntity)).length:Int)=0))||(!decide (((ov (CG)).length:Int)=0)))))))) (some false) (Bn (BV 1 2)<|B6 (EK op.fEntity now) λhd=>B6 (DM op.fID) λhe=>B0 (hd.2) (BM F true) (B0 (he.2) (BM F true) (B6 (Ei op.fEntity) λhf=>B6 (D6) λhg=>B6 (DG F hf hg) λhh=>B0 (!hh) (BM F true) (B6 (Dv F op.fEntity) λhi=>B0 (!decide ((hi.length:Int)=0)) (BM F true) (B6 (D9 op.fEntity) λhj=>B0 (!decide ((hj.length:Int)=0)) (BM F true) (B6 (Ej) λhk=>BM F (!decide ((hk.length:Int)=0)))))))))
end Go.Proofs.YtfbmdidnlhifjaaGreatDoor
namespace Go.Proofs.YtfbmdidnlhifjaaGreatDoor.Q
open Go Go.RowKit
set_option linter.unusedVariables false
section
variable {P : Program} {n : Nat} {c : Cx} {x : Code} {Q : Exit → Act → World → Prop} {l : Fr} {H : List Ent}
theorem LG (k:Nat)(h:WC P n c x (Exit.then (Code.rounds P x Q k) Q) l H):WC P n c (.loop x) Q l H:=λa w Z ha hw=>wp_loop_rounds (k+1) (h a w Z ha hw)
theorem I7 {k:Nat}(h:WC P n c x (Exit.then (Code.rounds P x Q k) Q) l H):WK n c (Code.rounds P x Q (k+1)) l H:=h
end
section
variable {P : Program} {n : Nat} {c : Cx} {opsA : Array Oper} {Q : Exit → Act → World → Prop} {l : Fr} {H : List Ent} {d : Nat} {ty : TypeId} {pos : String} {af : Array Edge}
end
def P1:Option Nat→Value
 | none=>.pointer none
 | some b=>.pointer (some ⟨b,0,none⟩)
@[reducible] def J3 (x:Option Nat):List Rp:=[rv (P1 x)]
theorem NW (x:Option Nat):(J3 x).length=1:=rfl
set_option linter.unusedSimpArgs false
set_option maxRecDepth 100000
set_option maxHeartbeats 4000000
theorem KG {n:Nat}{c:Cx}{l:Fr}{H:List Ent}{d:Option Nat}{ty:TypeId}{pos:String}{af:Array Edge}{g:Option (Nat×Bool)}:Bd Tryz.prog n c l H { dst:=d,op:=.build 68 #[],type:=ty,pos:=pos,after:=af,guard:=g } (AT [Ah 0,rv (.map none),rv (.map none)]):=λa w Z ha _=>by
  have hb:Tryz.prog.built 68 []=some #[(.int .i64 0),((.map none)),((.map none))]:=by
    rw[L4];simp[Instr.fill,Value.cells]
  refine⟨.agg #[(.int .i64 0),((.map none)),((.map none))],⟨[(.int .i64 0),((.map none)),((.map none))],rfl,rfl,rfl,rfl,trivial⟩,?_⟩;have:=run_build w 68 #[] _ (by simpa using hb);simp[execOp,this]
theorem Hz (e:Ao)(r:(List As))(h:BR e=some r):Fn Tryz.prog GE 21 [rv (.pointer none),rS e] [] (λR H=>R=AH 8 (Aq Ad r)∧H=[]):=by
 refine enter (n:=42) Tryz.func21 Aa Tryz.ntmps21 Aa (λw Z=>?_);unfold BR at h;refine Am (wa Aa (Av (Au (Am (wm Aa (Cw Ey (Db false Aa) Aa (wv (B5 Aa) (Av (Bx Aa (BH Aa) (Am (wa Aa (Av (A0 (Ai (WK.up (d:=4) (r:=AH 8 (Aq Ad ([]:List As))) Aa (Up.le (DE.nil _)) ?_)))))))))))))));obtain rfl:=A2 h;exact Az (BJ N4 (AN Aa)) sN ⟨Aa,Aa⟩
theorem Jr (op:A3)(now:Int)(r:Int)(h:HY op now=some r):Fn Tryz.prog GE 18 [rv (.pointer none),AT (Al op),Ah now] [] (λR H=>R=Ah r∧H=[]):=by
 refine enter (n:=121) Tryz.func18 Aa Tryz.ntmps18 Aa (λw Z=>?_);unfold HY at h;refine Am (Bt Aa Aa (λb1=>?_));refine wa Aa (Av (Au (Am (wm Aa (Cw Ey (Db false Aa) Aa (wv (B5 Aa) (Av (Bx Aa (BH Aa) (Am (wa Aa (Av (A0 (Ai ?_)))))))))))));obtain rfl:=A2 h;exact Az (BJ Iu (AN Aa)) (sS sN) ⟨Aa,Aa⟩
theorem KK (e:Ao)(now:Int)(r:As×Bool)(h:GJ e now=some r):Fn Tryz.prog GE 17 [rv (.pointer none),rS e,Ah now] [] (λR H=>R=Ce [AT (Ad r.1),rB r.2]∧H=[]):=by
 refine enter (n:=107) Tryz.func17 Aa Tryz.ntmps17 Aa (λw Z=>?_);unfold GJ at h;refine Am (Bl (cs:=[rS ([]:Ao),rS ([]:Ao),rS ([]:Ao),rv (.slice none 0 0),Ah 0,rv (.slice none 0 0),Ah 0,Ah 0]) H3 Aa Aa (λb1=>?_));refine wa Aa (Av (Au (AU [(0,rv (.pointer none)),(1,rS e),(2,Ah now),(6,rP b1 0),(28,rB true)] [.blk b1 [rS ([]:Ao),rS ([]:Ao),rS ([]:Ao),rv (.slice none 0 0),Ah 0,rv (.slice none 0 0),Ah 0,Ah 0] 44] ?_ ?_)))
 ·refine A4 (wm Aa (Cw Ey (Db false Aa) Aa (wv (B5 Aa) (wm Aa (A9 (b:=!false) Aa Aa (BH Aa) Aa (A9 (b:=!false) Aa Aa (BH Aa) Aa (A9 (b:=!false) Aa Aa (BH Aa) Aa (A9 (b:=!false) Aa Aa (BH Aa) Aa (A9 (b:=!false) Aa Aa (BH Aa) Aa (A9 (b:=!false) Aa Aa (BH Aa) Aa (wv (r:=rB true) (Ar (b:=!false) Aa (BH Aa) Aa) (wm Aa (wz Aa Aa (wz Aa Aa (wv (r:=rB true) (Ar (b:=true) Aa Aa Aa) (A1 ?_))))))))))))))));exact wt
 refine Bx Aa Aa (Am (wv (r:=AT [rS ([]:Ao),rS ([]:Ao),rS ([]:Ao),rv (.slice none 0 0),Ah 0,rv (.slice none 0 0),Ah 0,Ah 0]) (Da ) (A6 (i:=0) Cv Aa Aa Aa (AV.c Aa) Aa Aa (cs':=[rS ([]:Ao),rS ([]:Ao),rS ([]:Ao),rv (.slice none 0 0),Ah 0,rv (.slice none 0 0),Ah 0,Ah 0]) Aa (H':=[.blk b1 [rS ([]:Ao),rS ([]:Ao),rS ([]:Ao),rv (.slice none 0 0),Ah 0,rv (.slice none 0 0),Ah 0,Ah 0] 44]) Aa (wa Aa (Av (A0 (Ai (WK.upBlk (i:=0) (cs':=[rS ([]:Ao),rS ([]:Ao),rS ([]:Ao),AH 1 (Aq Ak ([]:List (List Ac))),Ah 0,AH 4 (Aq Ab ([]:List Ac)),Ah 0,Ah 0]) Aa ⟨Up.refl _,Up.refl _,Up.refl _,Up.le (DE.nil _),Up.refl _,Up.le (DE.nil _),Up.refl _,Up.refl _,trivial⟩ ?_))))))));obtain rfl:=A2 h;exact Az (Hv K6 (BC (i:=0) Gz Cv Aa Aa Aa) (AN Aa)) (sS sN) ⟨Aa,Aa⟩
theorem Ke (e:Ao)(r:(List Ac))(h:BD e=some r):Fn Tryz.prog GE 19 [rv (.pointer none),rS e] [] (λR H=>R=AH 4 (Aq Ab r)∧H=[]):=by
 refine enter (n:=25) Tryz.func19 Aa Tryz.ntmps19 Aa (λw Z=>?_);unfold BD at h;refine Am (wa Aa (Av (Au (Am (wm Aa (Cw Ey (Db false Aa) Aa (Av (Co Aa Aa (A7 (AW (Am (ob h λr1 e3 h2=>Cw Mv (G5 r1 e3) Aa (wa Aa (Av (A0 ?_)))))))))))))));obtain rfl:=A2 h2;exact Az (BJ N5 (AN Aa)) sN ⟨Aa,Aa⟩
theorem I1 (F:Nat)(e:Ao)(r:(List Ao))(h:BA F e=some r):Fn Tryz.prog GE 20 [rv (.pointer none),rS e] [] (λR H=>R=AH 1 (Aq eS r)∧H=[]):=by
 refine enter (n:=27) Tryz.func20 Aa Tryz.ntmps20 Aa (λw Z=>?_);unfold BA at h;refine Am (wa Aa (Bs (wa Aa (Av (Au (Am (wm Aa (wm Aa (ob h λr1 e3 h2=>Cw Mw (Hz e r1 e3) Aa (wv (Bb (ys:=r1) (enc:=Ad) It Aa) (wv (r:=Ah 0) (Ax Aa) (Av (AS (WC.nilrow (e:=9) (sz:=1) (ob h2 λhn ho hp=>BF (S:=Nat×((List Ao)×Int)×(Value)) (V:=((List Ao))×(Value)) 0 (λσ=>CB (λσ=>CQ r1 σ.1 σ.2) σ.1 σ.2.1=some hn) (λσ=>[(5,rv σ.2.2),(10,AH 8 (Aq Ad r1)),(11,Ah (r1.length:Int)),(12,Ah σ.2.1.2)]) (λσ=>[.row σ.2.2 9 1 (Aq eS σ.2.1.1)]) (λσ=>σ.1) (F,(([]:List Ao),0),(.slice none 0 0         )) ho (AQ.c Aa (AQ.c Aa (AQ.c Aa (AQ.c Aa AQ.nil)))) (sC sN) (λσ=>CP σ.1=some r) (λσ=>[(5,rv σ.2)]) (λσ=>[.row σ.2 9 1 (Aq eS σ.1)]) ?_ ?_)))))))))))))))
 ·rintro⟨hA,⟨hb,ha⟩,hd⟩ hq;refine Ch (l':=[(5,rv hd),(10,AH 8 (Aq Ad r1)),(11,Ah (r1.length:Int)),(12,Ah ha)]) (H':=[.row hd 9 1 (Aq eS hb)]) Aa Aa ?_;obtain⟨hr,rfl,hh,he,hl⟩:=Ds hq;replace he:CQ r1 hb ha=some hh:=he;unfold CQ at he;refine Am (wv (D8 Aa Aa) (Av (Au (cz he Aa (λhs ht=>?_) (λhs hu=>?_)))))
  ·refine A7 (AW (C9 (S:=((List Ao))×(Value)) (λσ=>Cn ha σ.1=some hh) (λσ=>[(5,rv σ.2),(10,AH 8 (Aq Ad r1)),(11,Ah (r1.length:Int)),(12,Ah ha)]) (λσ=>[.row σ.2 9 1 (Aq eS σ.1)]) ?_ ?_))
   ·refine AS (Am (ck ht λhw hx=>wv (Bu (enc:=Ad) (ys:=r1) It Cv Aa Aa hw) (wv (CE Gz Cv Aa Aa Aa) (Bl (cs:=[rS ([]:Ao),rS ([]:Ao),rS ([]:Ao),rv (.slice none 0 0),Ah 0,rv (.slice none 0 0),Ah 0,Ah 0]) H3 Aa Aa (λhy=>?_)))));refine A6 (i:=0) Cv Aa Aa Aa (AV.c Aa) Aa Aa (cs':=[rS (((Aj r1 ha).fOp).fEntity),rS (((Aj r1 ha).fOp).fID),rS (((Aj r1 ha).fOp).fOp),AH 1 (Aq Ak (((Aj r1 ha).fOp).fArgs)),Ah (((Aj r1 ha).fAnswer).fErr),AH 4 (Aq Ab (((Aj r1 ha).fAnswer).fValue)),Ah ((Aj r1 ha).fFrom),Ah ((Aj r1 ha).fTo)]) Aa (H':=[.blk hy [rS (((Aj r1 ha).fOp).fEntity),rS (((Aj r1 ha).fOp).fID),rS (((Aj r1 ha).fOp).fOp),AH 1 (Aq Ak (((Aj r1 ha).fOp).fArgs)),Ah (((Aj r1 ha).fAnswer).fErr),AH 4 (Aq Ab (((Aj r1 ha).fAnswer).fValue)),Ah ((Aj r1 ha).fFrom),Ah ((Aj r1 ha).fTo)] 44,.row hd 9 1 (Aq eS hb)]) Aa (Bs (vF Ew Aa C0 (vL 0 DN Aa (wv (BK Aa Aa) (Av (cz hx Aa (λhz h0=>?_) (λhz h1=>?_)))))))
    ·refine A4 (wm Aa (vF Ew Aa Dt (vF BI Aa CM (vL 0 Dm Aa (AZ (ys:=([((Aj r1 ha).fOp).fID]:List Ao)) (enc:=eS) (css:=[[rS (((Aj r1 ha).fOp).fID)]]) (xs:=[.tmp 22]) Ev CM OS Aa Aa Aa ⟨GS.one Aa (Up.refl _),trivial⟩ Aa EB Aa Aa Aa (λhB=>?_))))));refine ck h0 λh3 h4=>Exists.elim Ng λinf hinf=>C1 (xs:=hb) (ys:=([((Aj r1 ha).fOp).fID]:List Ao)) (enc:=eS) (i:=2) Ev hinf.1 hinf.2.1 hinf.2.2.1 hinf.2.2.2 Aa Aa Aa Aa Aa (K3.w (i:=0) Aa Aa) EB KW h3 Aa (λh5=>?_);exact wa Aa (A1 (AX (AE (AR (hb++([((Aj r1 ha).fOp).fID]:List Ao),h5) h4 (AQ.c Aa (AQ.c Aa (AQ.c Aa (AQ.c Aa AQ.nil)))) (sC (sS (sS sN)))))))
    ·exact A7 (AX (AE (AR (hb,hd) h1 (AQ.c Aa (AQ.c Aa (AQ.c Aa (AQ.c Aa AQ.nil)))) (sS (sC sN)))))
   ·rintro⟨hi,hj⟩ hf;refine Ch (l':=[(5,rv hj),(10,AH 8 (Aq Ad r1)),(11,Ah (r1.length:Int)),(12,Ah ha)]) (H':=[.row hj 9 1 (Aq eS hi)]) Aa Aa ?_;replace hf:Cn ha hi=some hh:=hf;unfold Cn at hf;refine A4 (ck hf λh6 h7=>wv (BS Aa Aa h6) (wm Aa (A1 ?_)));have h8:=BG h7 hl;exact AE (AR (hr,(hi,ha+1),hj) ⟨h8,PX _⟩ (AQ.c Aa (AQ.c Aa (AQ.c Aa (AQ.c Aa AQ.nil)))) (sC sN))
  ·refine B7 (AB ?_);have h9:=Cy hu hl hp;exact AB (Bp (AR (hb,hd) h9 (AQ.c Aa AQ.nil) (sC sN)))
 ·rintro⟨hk,hm⟩ hg;refine Dr (l':=[(5,rv hm)]) (H':=[.row hm 9 1 (Aq eS hk)]) Aa Aa ?_;replace hg:CP hk=some r:=hg;unfold CP at hg;refine Bi (AW (Am (wm Aa (wa Aa (Av (A0 (WK.freeze (i:=0) Aa (WK.up (d:=4) (r:=AH 1 (Aq eS hk)) Aa (Up.fact (i:=0) Aa) ?_))))))));obtain rfl:=A2 hg;exact Az (BJ Tryz.results20 (AN Aa)) (sS sN) ⟨Aa,Aa⟩
theorem Jw (id:Ao)(r:A8×Bool)(h:Ek id=some r):Fn Tryz.prog GE 28 [rv (.pointer none),rS id] [] (λR H=>R=Ce [AT (Aw r.1),rB r.2]∧H=[]):=by
 refine enter (n:=36) Tryz.func28 Aa Tryz.ntmps28 Aa (λw Z=>?_);unfold Ek at h;refine Am (Bl (cs:=[Ah 0,rv (.slice none 0 0)]) Gw Aa Aa (λb1=>?_));refine wa Aa (Av (Au (Am (wm Aa (Cw Ey (Db false Aa) Aa (wv (B5 Aa) (Av (Bx Aa (BH Aa) (Am (wv (r:=AT [Ah 0,rv (.slice none 0 0)]) (Eh ) (A6 (i:=0) B4 Aa Aa Aa (AV.c Aa) Aa Aa (cs':=[Ah 0,rv (.slice none 0 0)]) Aa (H':=[.blk b1 [Ah 0,rv (.slice none 0 0)] 31]) Aa (wa Aa (Av (A0 (Ai (WK.upBlk (i:=0) (cs':=[Ah 0,AH 4 (Aq Ab ([]:List Ac))]) Aa ⟨Up.refl _,Up.le (DE.nil _),trivial⟩ ?_))))))))))))))));obtain rfl:=A2 h;exact Az (Hv Tryz.results28 (BC (i:=0) Du B4 Aa Aa Aa) (AN Aa)) (sS sN) ⟨Aa,Aa⟩
theorem Kf  (r:(List Ao))(h:CG=some r):Fn Tryz.prog GE 22 [rv (.pointer none)] [] (λR H=>R=AH 1 (Aq eS r)∧H=[]):=by
 refine enter (n:=12) Tryz.func22 Aa Tryz.ntmps22 Aa (λw Z=>?_);unfold CG at h;refine Am (wa Aa (Av (Au (Am (wm Aa (Cw Ey (Db false Aa) Aa (wv (B5 Aa) (Av (Bx Aa (BH Aa) (Am (wa Aa (Av (A0 (Ai (WK.up (d:=2) (r:=AH 1 (Aq eS ([]:List Ao))) Aa (Up.le (DE.nil _)) ?_)))))))))))))));obtain rfl:=A2 h;exact Az (BJ Tryz.results22 (AN Aa)) sN ⟨Aa,Aa⟩
theorem GL (ha:Nat)(e:Ao)(r:(List As))(h:D9 e=some r):Fn Tryz.prog GE 21 [rP ha 0,rS e] [.blk ha [Ah 0,rv (.map none),rv (.map none)] 68] (λR H=>R=AH 8 (Aq Ad r)∧H=[.blk ha [Ah 0,rv (.map none),rv (.map none)] 68]):=by
 refine enter (n:=42) Tryz.func21 Aa Tryz.ntmps21 Aa (λw Z=>?_);unfold D9 at h;refine Am (wa Aa (Av (Au (Am (wm Aa (Gt (Hr:=[]) Ey (CH ha false Aa) Aa (PO _) Aa ?_))))));rintro _ _ ⟨rfl,rfl⟩;refine wv (B5 Aa) (Av (Bx Aa (BH Aa) (Am (wa Aa (Av (A0 (Ai (WK.up (d:=4) (r:=AH 8 (Aq Ad ([]:List As))) Aa (Up.le (DE.nil _)) ?_))))))));obtain rfl:=A2 h;exact Az (BJ N4 (AN Aa)) (sC sN) ⟨Aa,Aa⟩
theorem I3 (ha:Nat)(op:A3)(now:Int)(r:Int)(h:Hx op now=some r):Fn Tryz.prog GE 18 [rP ha 0,AT (Al op),Ah now] [.blk ha [Ah 0,rv (.map none),rv (.map none)] 68] (λR H=>R=Ah r∧H=[.blk ha [Ah 0,rv (.map none),rv (.map none)] 68]):=by
 refine enter (n:=121) Tryz.func18 Aa Tryz.ntmps18 Aa (λw Z=>?_);unfold Hx at h;refine Am (Bt Aa Aa (λb1=>?_));refine wa Aa (Av (Au (Am (wm Aa (Gt (Hr:=[.blk b1 (Al op) 25]) Ey (CH ha false Aa) Aa ((Af (i:=1) Aa).trans (PN _ (PO _))) Aa ?_)))));rintro _ _ ⟨rfl,rfl⟩;refine wv (B5 Aa) (Av (Bx Aa (BH Aa) (Am (wa Aa (Av (A0 (Ai ?_)))))));obtain rfl:=A2 h;exact Az (BJ Iu (AN Aa)) (sC (sS sN)) ⟨Aa,Aa⟩
theorem Kc (ha:Nat)(e:Ao)(now:Int)(r:As×Bool)(h:EK e now=some r):Fn Tryz.prog GE 17 [rP ha 0,rS e,Ah now] [.blk ha [Ah 0,rv (.map none),rv (.map none)] 68] (λR H=>R=Ce [AT (Ad r.1),rB r.2]∧H=[.blk ha [Ah 0,rv (.map none),rv (.map none)] 68]):=by
 refine enter (n:=107) Tryz.func17 Aa Tryz.ntmps17 Aa (λw Z=>?_);unfold EK at h;refine Am (Bl (cs:=[rS ([]:Ao),rS ([]:Ao),rS ([]:Ao),rv (.slice none 0 0),Ah 0,rv (.slice none 0 0),Ah 0,Ah 0]) H3 Aa Aa (λb1=>?_));refine wa Aa (Av (Au (Am (wm Aa (Gt (Hr:=[.blk b1 [rS ([]:Ao),rS ([]:Ao),rS ([]:Ao),rv (.slice none 0 0),Ah 0,rv (.slice none 0 0),Ah 0,Ah 0] 44]) Ey (CH ha false Aa) Aa ((Af (i:=1) Aa).trans (PN _ (PO _))) Aa ?_)))));rintro _ _ ⟨rfl,rfl⟩;refine wv (B5 Aa) (wm Aa (A9 (b:=!false) Aa Aa (BH Aa) Aa (A9 (b:=!false) Aa Aa (BH Aa) Aa (A9 (b:=!false) Aa Aa (BH Aa) Aa (A9 (b:=!false) Aa Aa (BH Aa) Aa (A9 (b:=!false) Aa Aa (BH Aa) Aa (A9 (b:=!false) Aa Aa (BH Aa) Aa (wv (r:=rB true) (Ar (b:=!false) Aa (BH Aa) Aa) (wm Aa (wz Aa Aa (wz Aa Aa (wv (r:=rB true) (Ar (b:=true) Aa Aa Aa) (Av (Bx Aa Aa (Am (wv (r:=AT [rS ([]:Ao),rS ([]:Ao),rS ([]:Ao),rv (.slice none 0 0),Ah 0,rv (.slice none 0 0),Ah 0,Ah 0]) (Da ) (A6 (i:=1) Cv Aa Aa Aa (AV.c Aa) Aa Aa (cs':=[rS ([]:Ao),rS ([]:Ao),rS ([]:Ao),rv (.slice none 0 0),Ah 0,rv (.slice none 0 0),Ah 0,Ah 0]) Aa (H':=[.blk ha [Ah 0,rv (.map none),rv (.map none)] 68,.blk b1 [rS ([]:Ao),rS ([]:Ao),rS ([]:Ao),rv (.slice none 0 0),Ah 0,rv (.slice none 0 0),Ah 0,Ah 0] 44]) Aa (wa Aa (Av (A0 (Ai (WK.upBlk (i:=1) (cs':=[rS ([]:Ao),rS ([]:Ao),rS ([]:Ao),AH 1 (Aq Ak ([]:List (List Ac))),Ah 0,AH 4 (Aq Ab ([]:List Ac)),Ah 0,Ah 0]) Aa ⟨Up.refl _,Up.refl _,Up.refl _,Up.le (DE.nil _),Up.refl _,Up.le (DE.nil _),Up.refl _,Up.refl _,trivial⟩ ?_))))))))))))))))))))));obtain rfl:=A2 h;exact Az (Hv K6 (BC (i:=1) Gz Cv Aa Aa Aa) (AN Aa)) (sC (sS sN)) ⟨Aa,Aa⟩
theorem Jt (ha:Nat)(e:Ao)(r:(List Ac))(h:Ei e=some r):Fn Tryz.prog GE 19 [rP ha 0,rS e] [.blk ha [Ah 0,rv (.map none),rv (.map none)] 68] (λR H=>R=AH 4 (Aq Ab r)∧H=[.blk ha [Ah 0,rv (.map none),rv (.map none)] 68]):=by
 refine enter (n:=25) Tryz.func19 Aa Tryz.ntmps19 Aa (λw Z=>?_);unfold Ei at h;refine Am (wa Aa (Av (Au (Am (wm Aa (Gt (Hr:=[]) Ey (CH ha false Aa) Aa (PO _) Aa ?_))))));rintro _ _ ⟨rfl,rfl⟩;refine Av (Co Aa Aa (A7 (AW (Am (ob h λr1 e3 h2=>Cw Mv (G5 r1 e3) Aa (wa Aa (Av (A0 ?_))))))));obtain rfl:=A2 h2;exact Az (BJ N5 (AN Aa)) (sC sN) ⟨Aa,Aa⟩
theorem HU (F:Nat)(hb:Nat)(e:Ao)(r:(List Ao))(h:Dv F e=some r):Fn Tryz.prog GE 20 [rP hb 0,rS e] [.blk hb [Ah 0,rv (.map none),rv (.map none)] 68] (λR H=>R=AH 1 (Aq eS r)∧H=[.blk hb [Ah 0,rv (.map none),rv (.map none)] 68]):=by
 refine enter (n:=27) Tryz.func20 Aa Tryz.ntmps20 Aa (λw Z=>?_);unfold Dv at h;refine Am (wa Aa (Bs (wa Aa (Av (Au (Am (wm Aa (wm Aa (ob h λr1 e3 h2=>Gt (Hr:=[]) Mw (GL hb e r1 e3) Aa (PO _) Aa ?_)))))))));rintro _ _ ⟨rfl,rfl⟩;refine wv (Bb (ys:=r1) (enc:=Ad) It Aa) (wv (r:=Ah 0) (Ax Aa) (Av (AS (WC.nilrow (e:=9) (sz:=1) (G3 (H2:=[.blk hb [Ah 0,rv (.map none),rv (.map none)] 68,.row (.slice none 0 0         ) 9 1 (Aq eS ([]:List Ao))]) ((Af (i:=1) Aa).trans (PN _ (PO _))) (ob h2 λhq hr hs=>BF (S:=Nat×((List Ao)×Int)×(Value)) (V:=((List Ao))×(Value)) 0 (λσ=>CB (λσ=>C7 r1 σ.1 σ.2) σ.1 σ.2.1=some hq) (λσ=>[(5,rv σ.2.2),(10,AH 8 (Aq Ad r1)),(11,Ah (r1.length:Int)),(12,Ah σ.2.1.2)]) (λσ=>[.blk hb [Ah 0,rv (.map none),rv (.map none)] 68,.row σ.2.2 9 1 (Aq eS σ.2.1.1)]) (λσ=>σ.1) (F,(([]:List Ao),0),(.slice none 0 0         )) hr (AQ.c Aa (AQ.c Aa (AQ.c Aa (AQ.c Aa AQ.nil)))) (sC (sC sN)) (λσ=>C6 σ.1=some r) (λσ=>[(5,rv σ.2)]) (λσ=>[.blk hb [Ah 0,rv (.map none),rv (.map none)] 68,.row σ.2 9 1 (Aq eS σ.1)]) ?_ ?_))))))
 ·rintro⟨hC,⟨hd,ha⟩,he⟩ ht;refine Ch (l':=[(5,rv he),(10,AH 8 (Aq Ad r1)),(11,Ah (r1.length:Int)),(12,Ah ha)]) (H':=[.blk hb [Ah 0,rv (.map none),rv (.map none)] 68,.row he 9 1 (Aq eS hd)]) Aa Aa ?_;obtain⟨hu,rfl,hi,hf,hm⟩:=Ds ht;replace hf:C7 r1 hd ha=some hi:=hf;unfold C7 at hf;refine Am (wv (D8 Aa Aa) (Av (Au (cz hf Aa (λhw hx=>?_) (λhw hy=>?_)))))
  ·refine A7 (AW (C9 (S:=((List Ao))×(Value)) (λσ=>BY ha σ.1=some hi) (λσ=>[(5,rv σ.2),(10,AH 8 (Aq Ad r1)),(11,Ah (r1.length:Int)),(12,Ah ha)]) (λσ=>[.blk hb [Ah 0,rv (.map none),rv (.map none)] 68,.row σ.2 9 1 (Aq eS σ.1)]) ?_ ?_))
   ·refine AS (Am (ck hx λhz h0=>wv (Bu (enc:=Ad) (ys:=r1) It Cv Aa Aa hz) (wv (CE Gz Cv Aa Aa Aa) (Bl (cs:=[rS ([]:Ao),rS ([]:Ao),rS ([]:Ao),rv (.slice none 0 0),Ah 0,rv (.slice none 0 0),Ah 0,Ah 0]) H3 Aa Aa (λhn=>?_)))));refine A6 (i:=0) Cv Aa Aa Aa (AV.c Aa) Aa Aa (cs':=[rS (((Aj r1 ha).fOp).fEntity),rS (((Aj r1 ha).fOp).fID),rS (((Aj r1 ha).fOp).fOp),AH 1 (Aq Ak (((Aj r1 ha).fOp).fArgs)),Ah (((Aj r1 ha).fAnswer).fErr),AH 4 (Aq Ab (((Aj r1 ha).fAnswer).fValue)),Ah ((Aj r1 ha).fFrom),Ah ((Aj r1 ha).fTo)]) Aa (H':=[.blk hn [rS (((Aj r1 ha).fOp).fEntity),rS (((Aj r1 ha).fOp).fID),rS (((Aj r1 ha).fOp).fOp),AH 1 (Aq Ak (((Aj r1 ha).fOp).fArgs)),Ah (((Aj r1 ha).fAnswer).fErr),AH 4 (Aq Ab (((Aj r1 ha).fAnswer).fValue)),Ah ((Aj r1 ha).fFrom),Ah ((Aj r1 ha).fTo)] 44,.blk hb [Ah 0,rv (.map none),rv (.map none)] 68,.row he 9 1 (Aq eS hd)]) Aa (Bs (vF Ew Aa C0 (vL 0 DN Aa (wv (BK Aa Aa) (Av (cz h0 Aa (λh1 h3=>?_) (λh1 h4=>?_)))))))
    ·refine A4 (wm Aa (vF Ew Aa Dt (vF BI Aa CM (vL 0 Dm Aa (AZ (ys:=([((Aj r1 ha).fOp).fID]:List Ao)) (enc:=eS) (css:=[[rS (((Aj r1 ha).fOp).fID)]]) (xs:=[.tmp 22]) Ev CM OS Aa Aa Aa ⟨GS.one Aa (Up.refl _),trivial⟩ Aa EB Aa Aa Aa (λh5=>?_))))));refine ck h3 λh6 h7=>Exists.elim Ng λinf hinf=>C1 (xs:=hd) (ys:=([((Aj r1 ha).fOp).fID]:List Ao)) (enc:=eS) (i:=3) Ev hinf.1 hinf.2.1 hinf.2.2.1 hinf.2.2.2 Aa Aa Aa Aa Aa (K3.w (i:=0) Aa Aa) EB KW h6 Aa (λho=>?_);exact wa Aa (A1 (AX (BU (H2:=[.blk hb [Ah 0,rv (.map none),rv (.map none)] 68,.row ho 9 1 (Aq eS (hd++([((Aj r1 ha).fOp).fID]:List Ao))),.row (.slice (some ⟨h5,0,none⟩) 1 1) 9 1 (Aq eS ([((Aj r1 ha).fOp).fID]:List Ao)),.blk hn [rS (((Aj r1 ha).fOp).fEntity),rS (((Aj r1 ha).fOp).fID),rS (((Aj r1 ha).fOp).fOp),AH 1 (Aq Ak (((Aj r1 ha).fOp).fArgs)),Ah (((Aj r1 ha).fAnswer).fErr),AH 4 (Aq Ab (((Aj r1 ha).fAnswer).fValue)),Ah ((Aj r1 ha).fFrom),Ah ((Aj r1 ha).fTo)] 44]) ((Af (i:=3) Aa).trans (PN _ (PO _))) (AE (AR (hd++([((Aj r1 ha).fOp).fID]:List Ao),ho) h7 (AQ.c Aa (AQ.c Aa (AQ.c Aa (AQ.c Aa AQ.nil)))) (sC (sC (sS (sS sN)))))))))
    ·exact A7 (AX (AE (AR (hd,he) h4 (AQ.c Aa (AQ.c Aa (AQ.c Aa (AQ.c Aa AQ.nil)))) (sS (sC (sC sN))))))
   ·rintro⟨hj,hk⟩ hg;refine Ch (l':=[(5,rv hk),(10,AH 8 (Aq Ad r1)),(11,Ah (r1.length:Int)),(12,Ah ha)]) (H':=[.blk hb [Ah 0,rv (.map none),rv (.map none)] 68,.row hk 9 1 (Aq eS hj)]) Aa Aa ?_;replace hg:BY ha hj=some hi:=hg;unfold BY at hg;refine A4 (ck hg λh8 h9=>wv (BS Aa Aa h8) (wm Aa (A1 ?_)));have hA:=BG h9 hm;exact AE (AR (hu,(hj,ha+1),hk) ⟨hA,PX _⟩ (AQ.c Aa (AQ.c Aa (AQ.c Aa (AQ.c Aa AQ.nil)))) (sC (sC sN)))
  ·refine B7 (AB ?_);have hB:=Cy hy hm hs;exact AB (Bp (AR (hd,he) hB (AQ.c Aa AQ.nil) (sC (sC sN))))
 ·rintro⟨hl,hp⟩ hh;refine Dr (l':=[(5,rv hp)]) (H':=[.blk hb [Ah 0,rv (.map none),rv (.map none)] 68,.row hp 9 1 (Aq eS hl)]) Aa Aa ?_;replace hh:C6 hl=some r:=hh;unfold C6 at hh;refine Bi (AW (Am (wm Aa (wa Aa (Av (A0 (WK.freeze (i:=1) Aa (WK.up (d:=4) (r:=AH 1 (Aq eS hl)) Aa (Up.fact (i:=0) Aa) ?_))))))));obtain rfl:=A2 hh;exact Az (BJ Tryz.results20 (AN Aa)) (sS (sC sN)) ⟨Aa,Aa⟩
theorem I4 (ha:Nat)(id:Ao)(r:A8×Bool)(h:DM id=some r):Fn Tryz.prog GE 28 [rP ha 0,rS id] [.blk ha [Ah 0,rv (.map none),rv (.map none)] 68] (λR H=>R=Ce [AT (Aw r.1),rB r.2]∧H=[.blk ha [Ah 0,rv (.map none),rv (.map none)] 68]):=by
 refine enter (n:=36) Tryz.func28 Aa Tryz.ntmps28 Aa (λw Z=>?_);unfold DM at h;refine Am (Bl (cs:=[Ah 0,rv (.slice none 0 0)]) Gw Aa Aa (λb1=>?_));refine wa Aa (Av (Au (Am (wm Aa (Gt (Hr:=[.blk b1 [Ah 0,rv (.slice none 0 0)] 31]) Ey (CH ha false Aa) Aa ((Af (i:=1) Aa).trans (PN _ (PO _))) Aa ?_)))));rintro _ _ ⟨rfl,rfl⟩;refine wv (B5 Aa) (Av (Bx Aa (BH Aa) (Am (wv (r:=AT [Ah 0,rv (.slice none 0 0)]) (Eh ) (A6 (i:=1) B4 Aa Aa Aa (AV.c Aa) Aa Aa (cs':=[Ah 0,rv (.slice none 0 0)]) Aa (H':=[.blk ha [Ah 0,rv (.map none),rv (.map none)] 68,.blk b1 [Ah 0,rv (.slice none 0 0)] 31]) Aa (wa Aa (Av (A0 (Ai (WK.upBlk (i:=1) (cs':=[Ah 0,AH 4 (Aq Ab ([]:List Ac))]) Aa ⟨Up.refl _,Up.le (DE.nil _),trivial⟩ ?_))))))))));obtain rfl:=A2 h;exact Az (Hv Tryz.results28 (BC (i:=1) Du B4 Aa Aa Aa) (AN Aa)) (sC (sS sN)) ⟨Aa,Aa⟩
theorem Ju (ha:Nat)  (r:(List Ao))(h:Ej=some r):Fn Tryz.prog GE 22 [rP ha 0] [.blk ha [Ah 0,rv (.map none),rv (.map none)] 68] (λR H=>R=AH 1 (Aq eS r)∧H=[.blk ha [Ah 0,rv (.map none),rv (.map none)] 68]):=by
 refine enter (n:=12) Tryz.func22 Aa Tryz.ntmps22 Aa (λw Z=>?_);unfold Ej at h;refine Am (wa Aa (Av (Au (Am (wm Aa (Gt (Hr:=[]) Ey (CH ha false Aa) Aa (PO _) Aa ?_))))));rintro _ _ ⟨rfl,rfl⟩;refine wv (B5 Aa) (Av (Bx Aa (BH Aa) (Am (wa Aa (Av (A0 (Ai (WK.up (d:=2) (r:=AH 1 (Aq eS ([]:List Ao))) Aa (Up.le (DE.nil _)) ?_))))))));obtain rfl:=A2 h;exact Az (BJ Tryz.results22 (AN Aa)) (sC sN) ⟨Aa,Aa⟩
theorem Ig (F:Nat)  (r:Bool)(h:EA F=some r):Fn Tryz.prog GE 10 [] [] (λR H=>R=rB r∧H=[]):=by
 refine enter (n:=87) Tryz.func10 Aa Tryz.ntmps10 Aa (λw Z=>?_);unfold EA at h;refine Am (wa Aa (Bs (ob h λr1 e3 h2=>Gt (Hr:=[]) Tryz.call16 (O9 r1 e3) Aa (PO _) Aa ?_)));rintro _ _ ⟨b4,b5,b6,v7,v8,rfl,rfl⟩;refine wa Aa (Av (Au (Am (wm Aa (ob h2 λr9 hz h0=>Cw Tryz.call35 (Ih ([97]:Ao) 1 r9 hz) Aa (ob h0 λhe h1 h3=>Gt (Hr:=[]) Mx (Hf F b4 b5 b6 v7 v8 r1.1 r1.2.1 r1.2.2 r9 5 he h1) Aa (PO _) Aa ?_))))));rintro _ _ ⟨h4,h5,rfl,rfl⟩;refine wv (CK Aa Aa) (wm Aa (ck h3 λg17 h6=>Bc (b:=!decide (he.1=0)) Aa Aa (Bool.not_eq_eq_eq_not.1 g17) (wm Aa (Bc (b:=!decide (he.1=0)) Aa Aa (Bool.not_eq_eq_eq_not.1 g17) (ob h6 λhr h7 h8=>Cw Tryz.call35 (Ih ([98]:Ao) 2 hr h7) Aa (Bc (b:=!decide (he.1=0)) Aa Aa (Bool.not_eq_eq_eq_not.1 g17) (ob h8 λhd h9 hA=>Gt (Hr:=[]) Mx (Hf F b4 b5 b6 h4 h5 he.2.1 he.2.2.1 he.2.2.2 hr 5 hd h9) Aa (PO _) Aa ?_)))))));rintro _ _ ⟨hB,v26,rfl,rfl⟩;refine Bc (b:=!decide (he.1=0)) Aa Aa (Bool.not_eq_eq_eq_not.1 g17) (wv (CK Aa Aa) (wv (r:=rB (!decide (hd.1=0))) (AJ (b:=!decide (he.1=0)) Aa (Bool.not_eq_eq_eq_not.1 g17) Aa) (wm Aa (ck hA λhj hC=>Bc (b:=!decide (hd.1=0)) Aa Aa (Bool.not_eq_eq_eq_not.1 hj) (wm Aa (Bc (b:=!decide (hd.1=0)) Aa Aa (Bool.not_eq_eq_eq_not.1 hj) (ob hC λhs hD hE=>Cw Tryz.call35 (Ih ([98]:Ao) 1 hs hD) Aa (Bc (b:=!decide (hd.1=0)) Aa Aa (Bool.not_eq_eq_eq_not.1 hj) (ob hE λhf hG hH=>Gt (Hr:=[]) Mx (Hf F b4 b5 b6 hB v26 hd.2.1 hd.2.2.1 hd.2.2.2 hs 5 hf hG) Aa (PO _) Aa ?_)))))))));rintro _ _ ⟨v35,v36,rfl,rfl⟩;refine Bc (b:=!decide (hd.1=0)) Aa Aa (Bool.not_eq_eq_eq_not.1 hj) (wv (CK Aa Aa) (wv (r:=rB (!decide (hf.1=19))) (AJ (b:=!decide (hd.1=0)) Aa (Bool.not_eq_eq_eq_not.1 hj) Aa) (Av (ck hH λhI hJ=>Co (b:=!decide (hf.1=19)) Aa (Bool.not_eq_eq_eq_not.1 hI) (A7 (AW (Am (wm Aa (ob hJ λht hK hL=>Gt (Hr:=[]) Tryz.call20 (KJ F b4 b5 b6 v35 v36 hf.2.1 hf.2.2.1 hf.2.2.2 ([120]:Ao) ht hK) Aa (PO _) Aa ?_)))))))));rintro _ _ ⟨rfl,rfl⟩;refine wa Aa (Bs (wm Aa (ob hL λhb hN hO=>Gt (Hr:=[]) Tryz.call17 (Lr F b4 b5 b6 v35 v36 hf.2.1 hf.2.2.1 hf.2.2.2 ([120]:Ao) 6 hb hN) Aa (PO _) Aa ?_)));rintro _ _ ⟨hu,v46,rfl,rfl⟩;refine wm Aa (wv (AG Aa Aa) (wv (AG Aa Aa) (Bl (cs:=[rS ([]:Ao),rS ([]:Ao),rS ([]:Ao),rv (.slice none 0 0),Ah 0,rv (.slice none 0 0),Ah 0,Ah 0]) H3 Aa Aa (λhk=>?_))));refine A6 (i:=0) Cv Aa Aa Aa (AV.c Aa) Aa Aa (cs':=[rS hb.1.fOp.fEntity,rS hb.1.fOp.fID,rS hb.1.fOp.fOp,AH 1 (Aq Ak hb.1.fOp.fArgs),Ah hb.1.fAnswer.fErr,AH 4 (Aq Ab hb.1.fAnswer.fValue),Ah hb.1.fFrom,Ah hb.1.fTo]) Aa (H':=[.blk hk (Ad hb.1) 44,.blk b4 [Ah hb.2.2.1.fNow,rv (.map (some b5)),rv (.map (some b6))] 68,.map b5 (A5 (mP b5) hb.2.2.1.fEntities),.map b6 (A5 (mP b6) hb.2.2.1.fCalls),.poolw b5 hu 87 88 1 (Aq (Ae b6) hb.2.2.2.1) none,.pool b6 v46 44 (Aq Ad hb.2.2.2.2)]) Aa (wa Aa (Bs (wm Aa (ob hO λha hP hQ=>Gt (Hr:=[.blk hk (Ad hb.1) 44]) Tryz.call17 (Lr F b4 b5 b6 hu v46 hb.2.2.1 hb.2.2.2.1 hb.2.2.2.2 ([120]:Ao) 7 ha hP) Aa ((Af (i:=1) Aa).trans (PN _ ((Af (i:=1) Aa).trans (PN _ ((Af (i:=1) Aa).trans (PN _ ((Af (i:=1) Aa).trans (PN _ ((Af (i:=1) Aa).trans (PN _ (PO _))))))))))) Aa ?_))));rintro _ _ ⟨v51,ho,rfl,rfl⟩;refine wm Aa (wv (AG Aa Aa) (wv (AG Aa Aa) (Bl (cs:=[rS ([]:Ao),rS ([]:Ao),rS ([]:Ao),rv (.slice none 0 0),Ah 0,rv (.slice none 0 0),Ah 0,Ah 0]) H3 Aa Aa (λhp=>?_))));refine A6 (i:=0) Cv Aa Aa Aa (AV.c Aa) Aa Aa (cs':=[rS ha.1.fOp.fEntity,rS ha.1.fOp.fID,rS ha.1.fOp.fOp,AH 1 (Aq Ak ha.1.fOp.fArgs),Ah ha.1.fAnswer.fErr,AH 4 (Aq Ab ha.1.fAnswer.fValue),Ah ha.1.fFrom,Ah ha.1.fTo]) Aa (H':=[.blk hp (Ad ha.1) 44,.blk b4 [Ah ha.2.2.1.fNow,rv (.map (some b5)),rv (.map (some b6))] 68,.map b5 (A5 (mP b5) ha.2.2.1.fEntities),.map b6 (A5 (mP b6) ha.2.2.1.fCalls),.poolw b5 v51 87 88 1 (Aq (Ae b6) ha.2.2.2.1) none,.pool b6 ho 44 (Aq Ad ha.2.2.2.2),.blk hk (Ad hb.1) 44]) Aa (wa Aa (Bs (wm Aa (ob hQ λhq hR hS=>Gt (Hr:=[.blk hp (Ad ha.1) 44,.blk hk (Ad hb.1) 44]) Tryz.call19 (MS b4 b5 b6 v51 ho ha.2.2.1 ha.2.2.2.1 ha.2.2.2.2 ([120]:Ao) hq hR) Aa ((Af (i:=1) Aa).trans (PN _ ((Af (i:=1) Aa).trans (PN _ ((Af (i:=1) Aa).trans (PN _ ((Af (i:=1) Aa).trans (PN _ ((Af (i:=1) Aa).trans (PN _ (PO _))))))))))) Aa ?_))));rintro _ _ ⟨rfl,rfl⟩;refine wa Aa (Bs (wm Aa (AZ (ys:=([([97]:Ao),([98]:Ao)]:List Ao)) (enc:=eS) (css:=[[rS ([97]:Ao)],[rS ([98]:Ao)]]) (xs:=[.const (.string ⟨#[97]⟩),.const (.string ⟨#[98]⟩)]) Ev CM OS Aa Aa Aa ⟨GS.one Aa (Up.refl _),GS.one Aa (Up.refl _),trivial⟩ Aa EB Aa Aa Aa (λhT=>?_))));refine WL.freeze (i:=0) Aa (WL.up (d:=40) (r:=AH 1 (Aq eS ([([97]:Ao),([98]:Ao)]:List Ao))) Aa (Up.fact (i:=0) Aa) (ob hS λhU hV hW=>Cw Tryz.call23 (Km F ht ([([97]:Ao),([98]:Ao)]:List Ao) hU hV) Aa (wm Aa (ck hW λhw hX=>wo hw (wm Aa (GU Aa hw Aa (wm Aa (ck hX λhx hY=>wo hx (wm Aa (GU Aa hx Aa (wm Aa (ck hY λhm hZ=>wo hm (vF Ew Aa C0 (wo hm (vL 6 DN Aa (wo hm (wv (BK Aa Aa) (GU Aa hm Aa (wm Aa ?_)))))))))))))))))));refine ck hZ λhh ga=>wo hh (vF Ew Aa B4 (wo hh (vF Nz Aa D2 (wo hh (vL 6 Ez Aa (wo hh (wv (Bb (ys:=ha.1.fAnswer.fValue) (enc:=Ab) BW Aa) (wo hh (wv (BK Aa Aa) (GU Aa hh Aa (wm Aa (ck ga λhg gb=>wo hg (vF Ew Aa B4 (wo hg (vF Nz Aa D2 (wo hg (vL 6 Ez Aa (wo hg (ck gb λgc gd=>wv (Bu (enc:=Ab) (ys:=ha.1.fAnswer.fValue) BW Cu Aa Aa gc) (wo hg ?_))))))))))))))))))));refine wv (B9 BB Aa C0 Aa Aa) (wo hg (wv (Bj DN Aa Aa) (wo hg (wv (BK Aa Aa) (GU Aa hg Aa (wm Aa (ck gd λhn ge=>wo hn (wm Aa (wo hn (wv (Bb (ys:=hq) (enc:=Ab) BW Aa) (wo hn (wv (BK Aa Aa) (GU Aa hn Aa (wm Aa (ck ge λhi gf=>wo hi (wm Aa (wo hi (ck gf λgg gh=>wv (Bu (enc:=Ab) (ys:=hq) BW Cu Aa Aa gg) (wo hi (wv (B9 BB Aa C0 Aa Aa) ?_))))))))))))))))))));refine wo hi (wv (Bj DN Aa Aa) (wo hi (wv (BK Aa Aa) (GU Aa hi Aa (wm Aa (ck gh λhl gi=>wo hl (wm Aa (wo hl (ob gi λhy gj gl=>Gt (Hr:=[.fact (.slice (some ⟨hT,0,none⟩) 2 2) (AH 1 (Aq eS ([([97]:Ao),([98]:Ao)]:List Ao))),.blk hp (Ad ha.1) 44,.blk hk (Ad hb.1) 44]) Tryz.call22 (MV b4 b5 b6 v51 ho ha.2.2.1 ha.2.2.2.1 ha.2.2.2.2 hy gj) Aa ((Af (i:=1) Aa).trans (PN _ ((Af (i:=1) Aa).trans (PN _ ((Af (i:=1) Aa).trans (PN _ ((Af (i:=1) Aa).trans (PN _ ((Af (i:=1) Aa).trans (PN _ (PO _))))))))))) Aa ?_)))))))));rintro _ _ ⟨rfl,rfl⟩;refine wo hl (AZ (ys:=([([120]:Ao)]:List Ao)) (enc:=eS) (css:=[[rS ([120]:Ao)]]) (xs:=[.const (.string ⟨#[120]⟩)]) Ev CM OS Aa Aa Aa ⟨GS.one Aa (Up.refl _),trivial⟩ Aa EB Aa Aa Aa (λgr=>?_));refine wo hl (WL.freeze (i:=0) Aa (WL.up (d:=84) (r:=AH 1 (Aq eS ([([120]:Ao)]:List Ao))) Aa (Up.fact (i:=0) Aa) (ob gl λgm gp gq=>Cw Tryz.call23 (Km F hy ([([120]:Ao)]:List Ao) gm gp) Aa (GU Aa hl Aa (wa Aa (Av (A0 ?_)))))));obtain rfl:=A2 gq;exact Az (BJ Tryz.results10 (AN Aa)) (sS (sS (sS (sS (sS (sS (sS (sS (sS sN))))))))) ⟨Aa,Aa⟩
theorem KT (F:Nat)(op:A3)(now:Int)(r:Bool)(h:E9 F op now=some r):Fn Tryz.prog GE 7 [AT (Al op),Ah now] [] (λR H=>R=rB r∧H=[]):=by
 refine enter (n:=82) Tryz.func7 Aa Tryz.ntmps7 Aa (λw Z=>?_);unfold E9 at h;refine Am (Bt Aa Aa (λb1=>?_));refine wa Aa (Av (Au (Am (wv (Ba (i:=0) G0 Dt Aa Aa Aa Aa) (ob h λr2 e4 h3=>Cw Tryz.call9 (Ne F op r2 e4) Aa (wv (B5 Aa) (Av (cz h3 Aa (λc5 h6=>?_) (λc5 h5=>?_)))))))))
 ·refine Am (ob h6 λr7 e9 h8=>Cw Tryz.call10 (Ig F r7 e9) Aa (wa Aa (Av (A0 (Ai ?_)))));obtain rfl:=A2 h8;exact Az (BJ Pq (AN Aa)) (sS sN) ⟨Aa,Aa⟩
 ·refine A7 (AW (Au (Am (wv (r:=AT [Ah 0,rv (.map none),rv (.map none)]) (KG ) (Bt Aa Aa (λha=>?_))))));refine AZ (ys:=([none,some ha]:List (Option Nat))) (enc:=J3) (css:=[[rv (.pointer none)],[rP ha 0]]) (xs:=[.const (.pointer none),.tmp 16]) Nx Tryz.sizeOf41 Tryz.zeroValue41 Aa Aa Aa ⟨GS.one Aa (Up.refl _),GS.one Aa (Up.refl _),trivial⟩ Aa NW Aa Aa Aa (λhf=>?_);refine wv (CO (ys:=([none,some ha]:List (Option Nat))) (enc:=J3) (i:=0) Nx Aa Aa) (wv (r:=Ah 0) (Ax Aa) (Av (AS (LG 3 (Am (wv (D8 Aa Aa) (Av (Au (Bx Aa Aa (A7 (AW (Au (AS (Am (ck h5 λhw h7=>wv (r:=rv (Dn 1 (.slice (some ⟨hf,0,none⟩) 2 2) (Cg 0) 0)) (E4 (i:=0) Nx Tryz.sizeOf41 Aa Aa Aa (Bh hw)) (wv (r:=rv (.pointer none)) (Do (enc:=J3) (ys:=([none,some ha]:List (Option Nat))) (i:=0) (j:=0) Tryz.isAgg41 Aa Aa hw Aa) (wa Aa (Bs (wm Aa (vF BI Aa CM (vL 2 Dm Aa (wm Aa ?_))))))))))))))))))))));refine ob h7 λhl h9 hA=>Cw Tryz.call17 (KK op.fEntity now hl h9) Aa (wm Aa (wv (AG Aa Aa) (wv (AG Aa Aa) (Bl (cs:=[rS ([]:Ao),rS ([]:Ao),rS ([]:Ao),rv (.slice none 0 0),Ah 0,rv (.slice none 0 0),Ah 0,Ah 0]) H3 Aa Aa (λhx=>?_)))));refine A6 (i:=0) Cv Aa Aa Aa (AV.c Aa) Aa Aa (cs':=[rS hl.1.fOp.fEntity,rS hl.1.fOp.fID,rS hl.1.fOp.fOp,AH 1 (Aq Ak hl.1.fOp.fArgs),Ah hl.1.fAnswer.fErr,AH 4 (Aq Ab hl.1.fAnswer.fValue),Ah hl.1.fFrom,Ah hl.1.fTo]) Aa (H':=[.blk hx (Ad hl.1) 44,.row (.slice (some ⟨hf,0,none⟩) 2 2) 41 1 (Aq J3 ([none,some ha]:List (Option Nat))),.blk ha [Ah 0,rv (.map none),rv (.map none)] 68,.blk b1 (Al op) 25]) Aa (wa Aa (Bs (wm Aa (vF BI Aa CM (vL 3 Dm Aa (ob hA λhq hB hC=>Cw Tryz.call28 (Jw op.fID hq hB) Aa (wm Aa (wv (AG Aa Aa) (wv (AG Aa Aa) (Bl (cs:=[Ah 0,rv (.slice none 0 0)]) Gw Aa Aa (λhD=>?_)))))))))));refine A6 (i:=0) B4 Aa Aa Aa (AV.c Aa) Aa Aa (cs':=[Ah hq.1.fErr,AH 4 (Aq Ab hq.1.fValue)]) Aa (H':=[.blk hD (Aw hq.1) 31,.blk hx (Ad hl.1) 44,.row (.slice (some ⟨hf,0,none⟩) 2 2) 41 1 (Aq J3 ([none,some ha]:List (Option Nat))),.blk ha [Ah 0,rv (.map none),rv (.map none)] 68,.blk b1 (Al op) 25]) Aa (wa Aa (Av (ck hC λhE hG=>ck hG λhH hI=>ck hI λhJ hK=>ck hK λhL hN=>ck hN λhO hP=>ck hP λhQ hR=>AU [(1,Ah now),(2,rP b1 0),(17,rv (.slice (some ⟨hf,0,none⟩) 2 2)),(18,Ah 2),(19,Ah 0),(79,rB (hl.2||(hq.2||((!(ov (DG F (ov (BD op.fEntity)) (ov (D6)))))||((!decide (((ov (BA F op.fEntity)).length:Int)=0))||((!decide (((ov (BR op.fEntity)).length:Int)=0))||(!decide (((ov (CG)).length:Int)=0))))))))] [.row (.slice (some ⟨hf,0,none⟩) 2 2) 41 1 (Aq J3 ([none,some ha]:List (Option Nat))),.blk ha [Ah 0,rv (.map none),rv (.map none)] 68,.blk b1 (Al op) 25] ?_ ?_)))
  ·refine A4 (wm Aa (wv (Ba (i:=4) G0 Dt Aa Aa Aa Aa) (wm Aa (Cw Mx (Jr op now 10 Aa) Aa (wv (CK Aa Aa) (wm Aa (Bc (b:=!decide (10=10)) Aa Aa (BX Aa) (wm Aa (wv (r:=rB hl.2) (AJ (b:=!decide (10=10)) Aa (BX Aa) Aa) (wm Aa (AY (hl.2) (λhh=>?_) (λhh=>?_))))))))))))
   ·refine wf hh (wv (r:=rB true) (Ar Aa hh Aa) (wm Aa (wz Aa Aa (wz Aa Aa (wz Aa Aa (wz Aa Aa (wz Aa Aa (wz Aa Aa (wz Aa Aa (wv (r:=rB true) (Ar (b:=true) Aa Aa Aa) (wm Aa (wz Aa Aa (wz Aa Aa (wz Aa Aa (wz Aa Aa (wz Aa Aa (wz Aa Aa (wv (r:=rB true) (Ar (b:=true) Aa Aa Aa) (wm Aa (wz Aa Aa (wz Aa Aa (wz Aa Aa (wz Aa Aa ?_)))))))))))))))))))))));refine wz Aa Aa (wz Aa Aa (wv (r:=rB true) (Ar (b:=true) Aa Aa Aa) (wm Aa (wz Aa Aa (wz Aa Aa (wz Aa Aa (wz Aa Aa (wv (r:=rB true) (Ar (b:=true) Aa Aa Aa) (A1 ?_)))))))));exact CW hh
   ·refine wo hh (wm Aa (G1 Aa hh Aa (wm Aa (AY (hq.2) (λhb=>?_) (λhb=>?_)))))
    ·refine wf hb (wf hb (wf hb (wf hb (wf hb (wf hb (wf hb (wv (r:=rB true) (Ar Aa hb Aa) (wm Aa (wz Aa Aa (wz Aa Aa (wz Aa Aa (wz Aa Aa (wz Aa Aa (wz Aa Aa (wv (r:=rB true) (Ar (b:=true) Aa Aa Aa) (wm Aa (wz Aa Aa (wz Aa Aa (wz Aa Aa (wz Aa Aa (wz Aa Aa (wz Aa Aa (wv (r:=rB true) (Ar (b:=true) Aa Aa Aa) ?_)))))))))))))))))))))));refine wm Aa (wz Aa Aa (wz Aa Aa (wz Aa Aa (wz Aa Aa (wv (r:=rB true) (Ar (b:=true) Aa Aa Aa) (A1 ?_))))));exact CW (And.intro hh hb)
    ·refine wo hb (wm Aa (wo hb (vF BI Aa CM (wo hb (vL 4 Dm Aa (wo hb (Cw Tryz.call19 (Ke op.fEntity (ov (BD op.fEntity)) (Jm (CS (CS hE hh) hb))) Aa (wo hb (Cw Tryz.call34 (Ll (ov (D6)) (Jm (CS (CS hH hh) hb))) Aa (wo hb (Cw Tryz.call13 (Lj F (ov (BD op.fEntity)) (ov (D6)) (ov (DG F (ov (BD op.fEntity)) (ov (D6)))) (Jm (CS (CS hJ hh) hb))) Aa (wo hb (wv (B5 Aa) (G1 Aa hb Aa (wm Aa (AY (!(ov (DG F (ov (BD op.fEntity)) (ov (D6))))) (λhd=>?_) (λhd=>?_)))))))))))))))))
     ·refine wf hd (wf hd (wf hd (wf hd (wf hd (wf hd (wv (r:=rB true) (Ar Aa hd Aa) (wm Aa (wz Aa Aa (wz Aa Aa (wz Aa Aa (wz Aa Aa (wz Aa Aa (wz Aa Aa (wv (r:=rB true) (Ar (b:=true) Aa Aa Aa) (wm Aa (wz Aa Aa (wz Aa Aa (wz Aa Aa (wz Aa Aa (wv (r:=rB true) (Ar (b:=true) Aa Aa Aa) (A1 ?_)))))))))))))))))))));exact CW (And.intro hh (And.intro hb hd))
     ·refine wo hd (wm Aa (wo hd (vF BI Aa CM (wo hd (vL 4 Dm Aa (wo hd (Cw Tryz.call20 (I1 F op.fEntity (ov (BA F op.fEntity)) (Jm (CS (CS (CS hL hh) hb) hd))) Aa (wo hd (wv (Bb (ys:=(ov (BA F op.fEntity))) (enc:=eS) Ev Aa) (wo hd (wv (CK Aa Aa) (G1 Aa hd Aa (wm Aa (AY (!decide (((ov (BA F op.fEntity)).length:Int)=0)) (λhe=>?_) (λhe=>?_)))))))))))))))
      ·refine wf he (wf he (wf he (wf he (wf he (wf he (wv (r:=rB true) (Ar Aa he Aa) (wm Aa (wz Aa Aa (wz Aa Aa (wz Aa Aa (wz Aa Aa (wv (r:=rB true) (Ar (b:=true) Aa Aa Aa) (A1 ?_)))))))))))));exact CW (And.intro hh (And.intro hb (And.intro hd he)))
      ·refine wo he (wm Aa (wo he (vF BI Aa CM (wo he (vL 4 Dm Aa (wo he (Cw Mw (Hz op.fEntity (ov (BR op.fEntity)) (Jm (CS (CS (CS (CS hO hh) hb) hd) he))) Aa (wo he (wv (Bb (ys:=(ov (BR op.fEntity))) (enc:=Ad) It Aa) (wo he (wv (CK Aa Aa) (G1 Aa he Aa (wm Aa (AY (!decide (((ov (BR op.fEntity)).length:Int)=0)) (λhm=>?_) (λhm=>?_)))))))))))))))
       ·refine wf hm (wf hm (wf hm (wf hm (wv (r:=rB true) (Ar Aa hm Aa) (A1 ?_)))));exact CW (And.intro hh (And.intro hb (And.intro hd (And.intro he hm))))
       ·refine wo hm (wm Aa (wo hm (Cw Tryz.call22 (Kf (ov (CG)) (Jm (CS (CS (CS (CS (CS hQ hh) hb) hd) he) hm))) Aa (wo hm (wv (Bb (ys:=(ov (CG))) (enc:=eS) Ev Aa) (wo hm (wv (CK Aa Aa) (G1 Aa hm Aa (A1 ?_)))))))));exact CW (And.intro hh (And.intro hb (And.intro hd (And.intro he hm))))
  refine cz hR Aa (λhS hT=>?_) (λhS hU=>?_)
  ·refine Am (wa Aa (Av (A0 (AI (Ai (Ai (AI (Ai ?_))))))));obtain rfl:=A2 hT;exact Az (BJ Pq (AN Aa)) (sS (sS (sS sN))) ⟨Aa,Aa⟩
  ·refine A7 (AX (AW (A4 (wv (BS Aa Aa (by decide)) (wm Aa (A1 (AE (I7 (Am (wv (D8 Aa Aa) (Av (Au (Bx Aa Aa (A7 (AW (Au (AS (Am (ck hU λhy hV=>wv (r:=rv (Dn 1 (.slice (some ⟨hf,0,none⟩) 2 2) (Cg 1) 0)) (E4 (i:=0) Nx Tryz.sizeOf41 Aa Aa Aa (Bh hy)) (wv (r:=rP ha 0) (Do (enc:=J3) (ys:=([none,some ha]:List (Option Nat))) (i:=0) (j:=1) Tryz.isAgg41 Aa Aa hy Aa) (wa Aa (Bs ?_))))))))))))))))))))));refine wm Aa (vF BI Aa CM (vL 2 Dm Aa (wm Aa (ob hV λhg hW hX=>Gt (Hr:=[.row (.slice (some ⟨hf,0,none⟩) 2 2) 41 1 (Aq J3 ([none,some ha]:List (Option Nat))),.blk b1 (Al op) 25]) Tryz.call17 (Kc ha op.fEntity now hg hW) Aa ((Af (i:=1) Aa).trans (PN _ (PO _))) Aa ?_))));rintro _ _ ⟨rfl,rfl⟩;refine wm Aa (wv (AG Aa Aa) (wv (AG Aa Aa) (Bl (cs:=[rS ([]:Ao),rS ([]:Ao),rS ([]:Ao),rv (.slice none 0 0),Ah 0,rv (.slice none 0 0),Ah 0,Ah 0]) H3 Aa Aa (λhp=>?_))));refine A6 (i:=0) Cv Aa Aa Aa (AV.c Aa) Aa Aa (cs':=[rS hg.1.fOp.fEntity,rS hg.1.fOp.fID,rS hg.1.fOp.fOp,AH 1 (Aq Ak hg.1.fOp.fArgs),Ah hg.1.fAnswer.fErr,AH 4 (Aq Ab hg.1.fAnswer.fValue),Ah hg.1.fFrom,Ah hg.1.fTo]) Aa (H':=[.blk hp (Ad hg.1) 44,.blk ha [Ah 0,rv (.map none),rv (.map none)] 68,.row (.slice (some ⟨hf,0,none⟩) 2 2) 41 1 (Aq J3 ([none,some ha]:List (Option Nat))),.blk b1 (Al op) 25]) Aa (wa Aa (Bs (wm Aa (vF BI Aa CM (vL 3 Dm Aa (ob hX λho hY hZ=>Gt (Hr:=[.blk hp (Ad hg.1) 44,.row (.slice (some ⟨hf,0,none⟩) 2 2) 41 1 (Aq J3 ([none,some ha]:List (Option Nat))),.blk b1 (Al op) 25]) Tryz.call28 (I4 ha op.fID ho hY) Aa ((Af (i:=1) Aa).trans (PN _ (PO _))) Aa ?_))))));rintro _ _ ⟨rfl,rfl⟩;refine wm Aa (wv (AG Aa Aa) (wv (AG Aa Aa) (Bl (cs:=[Ah 0,rv (.slice none 0 0)]) Gw Aa Aa (λhr=>?_))));refine A6 (i:=0) B4 Aa Aa Aa (AV.c Aa) Aa Aa (cs':=[Ah ho.1.fErr,AH 4 (Aq Ab ho.1.fValue)]) Aa (H':=[.blk hr (Aw ho.1) 31,.blk ha [Ah 0,rv (.map none),rv (.map none)] 68,.blk hp (Ad hg.1) 44,.row (.slice (some ⟨hf,0,none⟩) 2 2) 41 1 (Aq J3 ([none,some ha]:List (Option Nat))),.blk b1 (Al op) 25]) Aa (wa Aa (Av (C9 (S:=(Bool)×(Unit)) (λσ=>BM F σ.1=some r) (λσ=>[(1,Ah now),(2,rP b1 0),(17,rv (.slice (some ⟨hf,0,none⟩) 2 2)),(18,Ah 2),(19,Ah 1),(79,rB σ.1)]) (λσ=>[.blk ha [Ah 0,rv (.map none),rv (.map none)] 68,.row (.slice (some ⟨hf,0,none⟩) 2 2) 41 1 (Aq J3 ([none,some ha]:List (Option Nat))),.blk b1 (Al op) 25]) ?_ ?_)))
   ·refine A4 (wm Aa (wv (Ba (i:=4) G0 Dt Aa Aa Aa Aa) (wm Aa (Gt (Hr:=[.blk hr (Aw ho.1) 31,.blk hp (Ad hg.1) 44,.row (.slice (some ⟨hf,0,none⟩) 2 2) 41 1 (Aq J3 ([none,some ha]:List (Option Nat))),.blk b1 (Al op) 25]) Mx (I3 ha op now 10 Aa) Aa ((Af (i:=1) Aa).trans (PN _ (PO _))) Aa ?_))));rintro _ _ ⟨rfl,rfl⟩;refine wv (CK Aa Aa) (wm Aa (Bc (b:=!decide (10=10)) Aa Aa (BX Aa) (wm Aa (wv (r:=rB hg.2) (AJ (b:=!decide (10=10)) Aa (BX Aa) Aa) (wm Aa (bz hZ (λhs ga=>?_) (λhs gb=>?_)))))))
    ·refine wf hs (wv (r:=rB true) (Ar Aa hs Aa) (wm Aa (wz Aa Aa (wz Aa Aa (wz Aa Aa (wz Aa Aa (wz Aa Aa (wz Aa Aa (wz Aa Aa (wv (r:=rB true) (Ar (b:=true) Aa Aa Aa) (wm Aa (wz Aa Aa (wz Aa Aa (wz Aa Aa (wz Aa Aa (wz Aa Aa (wz Aa Aa (wv (r:=rB true) (Ar (b:=true) Aa Aa Aa) (wm Aa (wz Aa Aa (wz Aa Aa (wz Aa Aa (wz Aa Aa ?_)))))))))))))))))))))));exact wz Aa Aa (wz Aa Aa (wv (r:=rB true) (Ar (b:=true) Aa Aa Aa) (wm Aa (wz Aa Aa (wz Aa Aa (wz Aa Aa (wz Aa Aa (wv (r:=rB true) (Ar (b:=true) Aa Aa Aa) (A1 (AE (AR (true,()) ga (AQ.c Aa (AQ.c5 Aa Aa Aa Aa Aa AQ.nil)) (sC (sS (sS (sC (sC sN))))))))))))))))
    ·refine wo hs (wm Aa (G1 Aa hs Aa (wm Aa (bz gb (λhi gc=>?_) (λhi gd=>?_)))))
     ·refine wf hi (wf hi (wf hi (wf hi (wf hi (wf hi (wf hi (wv (r:=rB true) (Ar Aa hi Aa) (wm Aa (wz Aa Aa (wz Aa Aa (wz Aa Aa (wz Aa Aa (wz Aa Aa (wz Aa Aa (wv (r:=rB true) (Ar (b:=true) Aa Aa Aa) (wm Aa (wz Aa Aa (wz Aa Aa (wz Aa Aa (wz Aa Aa (wz Aa Aa (wz Aa Aa (wv (r:=rB true) (Ar (b:=true) Aa Aa Aa) ?_)))))))))))))))))))))));exact wm Aa (wz Aa Aa (wz Aa Aa (wz Aa Aa (wz Aa Aa (wv (r:=rB true) (Ar (b:=true) Aa Aa Aa) (A1 (AE (AR (true,()) gc (AQ.c Aa (AQ.c5 Aa Aa Aa Aa Aa AQ.nil)) (sC (sS (sS (sC (sC sN)))))))))))))
     ·refine wo hi (wm Aa (wo hi (vF BI Aa CM (wo hi (vL 4 Dm Aa (wo hi (ob gd λhz ge gf=>Gt (Hr:=[.blk hr (Aw ho.1) 31,.blk hp (Ad hg.1) 44,.row (.slice (some ⟨hf,0,none⟩) 2 2) 41 1 (Aq J3 ([none,some ha]:List (Option Nat))),.blk b1 (Al op) 25]) Tryz.call19 (Jt ha op.fEntity hz ge) Aa (PO _) Aa ?_)))))));rintro _ _ ⟨rfl,rfl⟩;refine wo hi (ob gf λh0 gg gh=>Cw Tryz.call34 (Ll h0 gg) Aa (wo hi (ob gh λgi gj gl=>Cw Tryz.call13 (Lj F hz h0 gi gj) Aa (wo hi (wv (B5 Aa) (G1 Aa hi Aa (wm Aa (bz gl (λhj gm=>?_) (λhj gp=>?_)))))))))
      ·exact wf hj (wf hj (wf hj (wf hj (wf hj (wf hj (wv (r:=rB true) (Ar Aa hj Aa) (wm Aa (wz Aa Aa (wz Aa Aa (wz Aa Aa (wz Aa Aa (wz Aa Aa (wz Aa Aa (wv (r:=rB true) (Ar (b:=true) Aa Aa Aa) (wm Aa (wz Aa Aa (wz Aa Aa (wz Aa Aa (wz Aa Aa (wv (r:=rB true) (Ar (b:=true) Aa Aa Aa) (A1 (AE (AR (true,()) gm (AQ.c Aa (AQ.c5 Aa Aa Aa Aa Aa AQ.nil)) (sC (sS (sS (sC (sC sN))))))))))))))))))))))))))))
      ·refine wo hj (wm Aa (wo hj (vF BI Aa CM (wo hj (vL 4 Dm Aa (wo hj (ob gp λh1 gq gr=>Gt (Hr:=[.blk hr (Aw ho.1) 31,.blk hp (Ad hg.1) 44,.row (.slice (some ⟨hf,0,none⟩) 2 2) 41 1 (Aq J3 ([none,some ha]:List (Option Nat))),.blk b1 (Al op) 25]) Tryz.call20 (HU F ha op.fEntity h1 gq) Aa (PO _) Aa ?_)))))));rintro _ _ ⟨rfl,rfl⟩;refine wo hj (wv (Bb (ys:=h1) (enc:=eS) Ev Aa) (wo hj (wv (CK Aa Aa) (G1 Aa hj Aa (wm Aa (bz gr (λhk gs=>?_) (λhk gt=>?_)))))))
       ·exact wf hk (wf hk (wf hk (wf hk (wf hk (wf hk (wv (r:=rB true) (Ar Aa hk Aa) (wm Aa (wz Aa Aa (wz Aa Aa (wz Aa Aa (wz Aa Aa (wv (r:=rB true) (Ar (b:=true) Aa Aa Aa) (A1 (AE (AR (true,()) gs (AQ.c Aa (AQ.c5 Aa Aa Aa Aa Aa AQ.nil)) (sC (sS (sS (sC (sC sN))))))))))))))))))))
       ·refine wo hk (wm Aa (wo hk (vF BI Aa CM (wo hk (vL 4 Dm Aa (wo hk (ob gt λh2 gu gv=>Gt (Hr:=[.blk hr (Aw ho.1) 31,.blk hp (Ad hg.1) 44,.row (.slice (some ⟨hf,0,none⟩) 2 2) 41 1 (Aq J3 ([none,some ha]:List (Option Nat))),.blk b1 (Al op) 25]) Mw (GL ha op.fEntity h2 gu) Aa (PO _) Aa ?_)))))));rintro _ _ ⟨rfl,rfl⟩;refine wo hk (wv (Bb (ys:=h2) (enc:=Ad) It Aa) (wo hk (wv (CK Aa Aa) (G1 Aa hk Aa (wm Aa (bz gv (λhn gw=>?_) (λhn gx=>?_)))))))
        ·exact wf hn (wf hn (wf hn (wf hn (wv (r:=rB true) (Ar Aa hn Aa) (A1 (AE (AR (true,()) gw (AQ.c Aa (AQ.c5 Aa Aa Aa Aa Aa AQ.nil)) (sC (sS (sS (sC (sC sN))))))))))))
        ·refine wo hn (wm Aa (wo hn (ob gx λhu gy gz=>Gt (Hr:=[.blk hr (Aw ho.1) 31,.blk hp (Ad hg.1) 44,.row (.slice (some ⟨hf,0,none⟩) 2 2) 41 1 (Aq J3 ([none,some ha]:List (Option Nat))),.blk b1 (Al op) 25]) Tryz.call22 (Ju ha hu gy) Aa (PO _) Aa ?_)));rintro _ _ ⟨rfl,rfl⟩;exact wo hn (wv (Bb (ys:=hu) (enc:=eS) Ev Aa) (wo hn (wv (CK Aa Aa) (G1 Aa hn Aa (A1 (AE (AR (!decide ((hu.length:Int)=0),()) gz (AQ.c Aa (AQ.c5 Aa Aa Aa Aa Aa AQ.nil)) (sC (sS (sS (sC (sC sN))))))))))))
   ·rintro⟨h4,⟨⟩⟩ ht;refine Ch (l':=[(1,Ah now),(2,rP b1 0),(17,rv (.slice (some ⟨hf,0,none⟩) 2 2)),(18,Ah 2),(19,Ah 1),(79,rB h4)]) (H':=[.blk ha [Ah 0,rv (.map none),rv (.map none)] 68,.row (.slice (some ⟨hf,0,none⟩) 2 2) 41 1 (Aq J3 ([none,some ha]:List (Option Nat))),.blk b1 (Al op) 25]) Aa Aa ?_;replace ht:BM F h4=some r:=ht;unfold BM at ht;refine cz ht Aa (λg0 g1=>?_) (λg0 g2=>?_)
    ·refine Am (wa Aa (Av (A0 (AI (Ai (Ai (AI (Ai ?_))))))));obtain rfl:=A2 g1;exact Az (BJ Pq (AN Aa)) (sS (sS (sS sN))) ⟨Aa,Aa⟩
    ·refine A7 (AX (AW (A4 (wv (BS Aa Aa (by decide)) (wm Aa (A1 (AE (I7 (Am (wv (D8 Aa Aa) (Av (Au (Co Aa Aa (B7 (AB (AB (Bi (AW (Am (ob g2 λg3 g4 g5=>Cw Tryz.call10 (Ig F g3 g4) Aa (wa Aa (Av ?_))))))))))))))))))))));refine A0 ?_;obtain rfl:=A2 g5;exact Az (BJ Pq (AN Aa)) (sS (sS (sS sN))) ⟨Aa,Aa⟩
end Go.Proofs.YtfbmdidnlhifjaaGreatDoor.Q
namespace Go.Proofs.YtfbmdidnlhifjaaGreatDoor.lawEntityNobody
open Go
set_option linter.unusedVariables false
def MO (y:Ac):Bool:=(Cr .i64) y.fKind&&(Cr .i64) y.fInt&&NK y.fStr&&(Cr .i64) y.fN
def O8 (y:A3):Bool:=NK y.fEntity&&NK y.fID&&NK y.fOp&&(λys:(List (List Ac))=>ys.all (λys:(List Ac)=>ys.all MO&&decide (ys.length≤9223372036854775807))&&decide (ys.length≤9223372036854775807)) y.fArgs
def PL:Prop:=∀(y0:A3) (y1:Int) (o0:O8 y0=true) (o1:(Cr .i64) y1=true),∃F,E9 F y0 y1=some true
end Go.Proofs.YtfbmdidnlhifjaaGreatDoor.lawEntityNobody
namespace Go.Proofs.YtfbmdidnlhifjaaGreatDoor
open Go
set_option linter.unusedVariables false
set_option linter.unusedSimpArgs false
def Nu (c:UInt8):Bool:=decide (32≤c.toNat)&&decide (c.toNat≤126)
theorem Od {s:Ao}{x:Int}{c:UInt8}(h:s[x.toNat]? =some c):La s x=(c.toNat:Int):=by simp[La,h]
theorem Iw {α:Type}{p:α→Bool}{s:List α}{k:Nat}{c:α}(h:s[k]? =some c):(s.take (k+1)).all p=((s.take k).all p&&p c):=by
 rw[List.take_add_one,h];simp
theorem J6 {α:Type}{p:α→Bool}{s:List α}{k:Nat}{c:α}(h:s[k]? =some c)(hp:p c=false):s.all p=false:=by
 rw[List.all_eq_false];exact⟨c,PU h,by simp[hp]⟩
theorem JJ {F:Nat}{s:Ao}(hF:s.length<F)(hs:s.length≤9223372036854775807):G4 F s=some (s.all Nu):=by
 obtain⟨o,h1,h2⟩:=Jx (body:=λσ=>DT s σ) (λx=>0≤x∧x≤(s.length:Int)∧(s.take x.toNat).all Nu=true) (λx=>s.length-x.toNat)
  (λo=>Cf (λ_=>DS) o=some (s.all Nu)) (λx ⟨h0,hl,ha⟩=>by
   unfold DT
   by_cases hx:x<(s.length:Int)
   ·obtain⟨c,hc⟩:∃c,s[x.toNat]? =some c:=⟨s[x.toNat]'(by omega),PR (by omega)⟩
    rw[Bm (by simpa using hx),Df h0 hx,Od hc]
    cases ho:Nu c with
    | false=>
     refine .inr ⟨.ret false,?_,?_⟩
     ·rw[Bm];simp only[Nu,Bool.and_eq_false_iff,PP] at ho;simp only[Bool.or_eq_true,PQ];omega
     ·simp[Cf,J6 hc ho]
    | true=>
     refine .inl ⟨x+1,?_,⟨by omega,by omega,?_⟩,by omega⟩
     ·rw[Bk,Br (by omega) (by omega)];simp only[Nu,PY,PQ] at ho;simp only[Bool.or_eq_false_iff,PP];omega
     ·rw[show(x+1).toNat=x.toNat+1 from by omega,Iw hc,ha,ho];rfl
   ·refine .inr ⟨.go (),by rw[Bk (by simpa using hx)],?_⟩;rw[show x.toNat=s.length from by omega,List.take_length] at ha;simp[Cf,DS,ha]) F 0 ⟨by omega,by omega,by simp⟩ (by simpa using hF)
 unfold G4;rw[C3 h1,h2]
theorem Jh (F:Nat)(s:Ao):Ji F s=G4 F s:=rfl
theorem LQ {F:Nat}{s:Ao}(hF:s.length<F)(hs:s.length≤9223372036854775807):Ji F s=some (s.all Nu):=by rw[Jh];exact JJ hF hs
def pl (c:Ac):Bool:=
 bif decide (c.fKind=1) then(decide (c.fInt=0)&&(decide (c.fStr=[])&&decide (c.fN=0))) else
 bif decide (c.fKind=2) then((decide (c.fInt=0)||decide (c.fInt=1))&&(decide (c.fStr=[])&&decide (c.fN=0))) else
 bif decide (c.fKind=3) then(decide (c.fStr=[])&&decide (c.fN=0)) else
 bif decide (c.fKind=4) then(decide (c.fInt=0)&&(decide (c.fN=0)&&c.fStr.all Nu)) else
 bif decide (c.fKind=5) then(decide (c.fInt=0)&&(decide (c.fStr=[])&&decide (0≤c.fN))) else
 bif decide (c.fKind=6) then(decide (c.fInt=0)&&(decide (c.fStr=[])&&decide (0≤c.fN))) else false
theorem C4 {α:Type}{p:Bool}{x y:Option α}{a b:α}(h:x=some a)(h':y=some b):B0 p x y=some (bif p then a else b):=by cases p<;>simp[B0,h,h']
theorem LI {F:Nat}{c:Ac}(hF:c.fStr.length<F)(hs:c.fStr.length≤9223372036854775807):HM F c=some (pl c):=by
 unfold HM pl;rw[JJ hF hs];refine C4 rfl (C4 ?_ (C4 rfl (C4 ?_ (C4 rfl (C4 rfl rfl)))))
 ·cases h:decide (c.fInt=0)<;>simp
 ·simp[imp,Bn,ov]
def K1:List Ay→List Ay
 | []=>[]
 | e::S=>bif decide (1<e.fLeft) then⟨e.fPairs,e.fLeft-1,e.fPairs,e.fLast,e.fStarted⟩::S else K1 S
theorem HG {α:Type}[Inhabited α](xs:List α)(e:α):Aj (xs++[e]) (xs.length:Int)=e:=by simp[Aj]
theorem G8 {α:Type}(xs:List α)(e e':α):List.set (xs++[e]) (Int.toNat (xs.length:Int)) e'=xs++[e']:=by simp
theorem GM {α:Type}(xs:List α)(e:α):((xs++[e]).length:Int)-1=(xs.length:Int):=by simp
theorem LL {α:Type}(xs:List α)(e:α):List.take (Int.toNat (xs.length:Int)) (xs++[e])=xs:=by simp
theorem Ht:∀(S:List Ay) (F:Nat),S.length<F→(∀e∈S,1≤e.fLeft∧e.fLeft≤9223372036854775807)→S.length≤4611686018427387904→
  ∃o,CB (λσ=>Ci σ) F S.reverse=some o∧Cf (λν=>CA ν) o=some (K1 S).reverse
 | [],F+1,_,_,_=>⟨.go [],by simp[CB,Ci,B0],by simp[Cf,CA,K1]⟩
 | e::S,F+1,hF,hb,hl=>by
  obtain⟨h1,h2⟩:=hb e (by simp);simp only[Qg] at hF hl;have hx:S.reverse.length=S.length:=by simp
  generalize hxs:S.reverse=xs at hx;have hr:(e::S).reverse=xs++[e]:=by simp[hxs]
  rw[hr];have hb1:Ci (xs++[e])=bif decide (1<e.fLeft) then some (.out (.ret (xs++[⟨e.fPairs,e.fLeft-1,e.fPairs,e.fLast,e.fStarted⟩]))) else some (.next xs):=by
   unfold Ci;rw[Bm (by simp)];simp only[GM,HG,G8,Mk];rw[Br (by omega) (by omega),Df (by omega) (by simp;omega),Br (by omega) (by omega)]
   cases hd:decide (1<e.fLeft) with
   | true=>
    rw[Bm (by simp at hd ⊢;omega)];rfl
   | false=>
    rw[Bk (by simp at hd ⊢;omega),Br (by omega) (by omega),NZ (by omega) (by simp;omega),LL];rfl
  rw[CB,hb1]
  cases hd:decide (1<e.fLeft) with
  | true=>exact⟨_,rfl,by simp[Cf,CA,K1,hd,hxs]⟩
  | false=>
   obtain⟨o,ho1,ho2⟩:=Ht S F (by omega) (λe he=>hb e (by simp[he])) (by omega);rw[hxs] at ho1;exact⟨o,ho1,by rw[ho2];simp[K1,hd]⟩
theorem HO {S:List Ay}{F:Nat}(hF:S.length<F)(hb:∀e∈S,1≤e.fLeft∧e.fLeft≤9223372036854775807)(hl:S.length≤4611686018427387904):G7 F S.reverse=some (K1 S).reverse:=by
 obtain⟨o,h1,h2⟩:=Ht S F hF hb hl;unfold G7;rw[C3 h1,h2]
def MG (s:Ao):Int:=s.length+2+s.count 34+s.count 92
theorem HL {s:Ao}(hs:s.length≤1152921504606846976):EG s=some (MG s):=by
 have h1:s.count 34≤s.length:=List.count_le_length;have h2:s.count 92≤s.length:=List.count_le_length;unfold EG Lib.countByte;rw[Br (by omega) (by omega),Br (by omega) (by omega),Br (by omega) (by omega)];rfl
def Py (c:Ac):Int:=
 bif decide (c.fKind=1) then 4 else bif decide (c.fKind=2) then IntKind.wrap .i64 (5-c.fInt) else bif decide (c.fKind=3) then((Lib.itoa c.fInt).length:Int) else
 bif decide (c.fKind=4) then MG c.fStr else IntKind.wrap .i64 (2+max 0 (IntKind.wrap .i64 (c.fN-1)))
theorem JK {c:Ac}(hs:c.fStr.length≤1152921504606846976)(hi:Cr .i64 c.fInt=true):JL c=some (Py c):=by
 unfold JL Py;rw[HL hs];refine C4 rfl (C4 rfl (C4 ?_ (C4 rfl rfl)));rw[Dk hi]
def K0 (d:Nat)(sh:AC)(c:Ac):AC:=
 ⟨max sh.fDepth ((d:Int)+1),IntKind.wrap .i64 (sh.fBytes+Py c),sh.fOutside||(decide (c.fKind=3)&&!(decide ((-1000000000000)≤c.fInt)&&decide (c.fInt≤1000000000000))),sh.fLong||decide (200<(c.fStr.length:Int))⟩
def P0 (sh:AC)(c:Ac):AC:=⟨sh.fDepth,IntKind.wrap .i64 (sh.fBytes+(MG c.fStr+1)),sh.fOutside,sh.fLong||decide (200<(c.fStr.length:Int))⟩
abbrev Mq:=List Ay×Int×AC
abbrev OP:=Out (Int×AC×Bool) AC
def P4 (n:Int)(S:List Ay)(i:Int)(sh:AC)(c:Ac):Stp Mq OP:=
 bif !pl c then .out (.ret (0,sh,false)) else
 match S with
 | e::S'=>
  bif e.fKey then
   bif !decide (c.fKind=4)||(e.fStarted&&(CY c.fStr e.fLast||decide (c.fStr=e.fLast))) then .out (.ret (0,sh,false))
   else .next ((⟨e.fPairs,e.fLeft,false,c.fStr,true⟩::S').reverse,i+1,P0 sh c)
  else bif decide (0<c.fN) then
   bif decide (n<c.fN) then .out (.ret (0,K0 S.length sh c,false))
   else .next ((⟨decide (c.fKind=6),c.fN,decide (c.fKind=6),[],false⟩::S).reverse,i+1,K0 S.length sh c)
  else bif decide (K1 S=[]) then .out (.ret (i+1,K0 S.length sh c,true)) else .next ((K1 S).reverse,i+1,K0 S.length sh c)
 | []=>
  bif decide (0<c.fN) then
   bif decide (n<c.fN) then .out (.ret (0,K0 0 sh c,false))
   else .next ([⟨decide (c.fKind=6),c.fN,decide (c.fKind=6),[],false⟩],i+1,K0 0 sh c)
  else .out (.ret (i+1,K0 0 sh c,true))
theorem Il {S:List Ay}:decide (((K1 S).reverse.length:Int)=0)=decide (K1 S=[]):=by
 rw[Qi];simp
theorem Ph {α:Type}{xs:List α}{e x:α}{M:Nat}(h:xs.length+1≤M)(hM2:(M+2)*48≤140737488355328):Mf 48 ((xs++[e]).length+([x]:List α).length)=true:=by
 refine Qf (Nat.le_trans (Nat.mul_le_mul_right 48 ?_) hM2);rw[List.length_append,List.length_singleton,List.length_singleton];omega
set_option maxHeartbeats 600000 in
theorem JM {F:Nat}{v:List Ac}{S:List Ay}{i:Int}{sh:AC}{c:Ac}(h0:0≤i)(hc:v[i.toNat]? =some c){M:Nat}(hM:M≤1152921504606846976)(hM2:(M+2)*48≤140737488355328)(hv:v.length≤M)(hS:S.length≤M)(hF:M<F)
  (hs:c.fStr.length≤M) (hi:Cr .i64 c.fInt=true) (hb:∀e∈S,1≤e.fLeft∧e.fLeft≤9223372036854775807):D4 F v S.reverse i sh=some (P4 v.length S i sh c):=by
 have hil:i.toNat<v.length:=(List.getElem?_eq_some_iff.1 hc).1;have hat:Aj v i=c:=by simp[Aj,hc]
 unfold D4 P4;rw[Bm (by simp;omega),Df h0 (by omega),hat,LI (by omega) (by omega),C3 rfl]
 cases hp:pl c with
 | false=>rw[Bm (by simp)];rfl
 | true=>
  rw[Bk (by simp)]
  cases S with
  | nil=>
   rw[Dk (by simp[imp]),Dk (by simp[imp]),Bk (by simp),Br (by simp) (by simp),JK (by omega) hi,C3 rfl,Dk (by simp[imp,Be])];simp only[Be,ov,Qd,Qe,Qa]
   cases hn:decide (0<c.fN) with
   | true=>
    rw[Bm rfl]
    cases hm:decide ((v.length:Int)<c.fN) with
    | true=>rw[Bm rfl];simp[K0]
    | false=>rw[Bk rfl,Dk (by simp[Mf])];unfold C2;rw[Br (by omega) (by omega)];simp[K0]
   | false=>
    rw[Bk rfl,C3 (HO (S:=[]) (by simp;omega) (by simp) (by simp)),Bm (by simp[K1]),Br (by omega) (by omega)];simp[K0]
  | cons e S'=>
   have hx:S'.reverse.length=S'.length:=by simp
   generalize hxs:S'.reverse=xs at hx;have hr:(e::S').reverse=xs++[e]:=by simp[hxs]
   simp only[Qg] at hS;have hlen:((xs++[e]).length:Int)=(xs.length:Int)+1:=by simp
   rw[hr,Dk (by simp only[imp,GM];rw[Kq (by omega) (by omega)];simp),Dk (by simp only[imp,GM];rw[OG (by omega) (by omega)];simp)];rw[GM,HG]
   cases hk:e.fKey with
   | true=>
    rw[Bm (by simp),Br (by omega) (by omega),Df (by omega) (by omega)];simp only[hk,Qe,Qa,Ql]
    cases ht : !decide (c.fKind=4)||(e.fStarted&&(CY c.fStr e.fLast||decide (c.fStr=e.fLast))) with
    | true=>rw[Bm rfl];rfl
    | false=>
     rw[Bk rfl,G8,Mk,HG,G8,Mk,HG,G8,Mk,HL (by omega),C3 rfl,Br (by unfold MG;omega) (by unfold MG;have:=@List.count_le_length UInt8 _ 34 c.fStr;have:=@List.count_le_length UInt8 _ 92 c.fStr;omega)];unfold C2;rw[Br (by omega) (by omega)];simp[P0,hxs]
   | false=>
    rw[Bk (by simp),hlen,Br (by omega) (by omega),JK (by omega) hi,C3 rfl,Dk (by simp[imp,Be])];simp only[hk,Be,ov,Qd,Qe,Qa,Ql]
    cases hn:decide (0<c.fN) with
    | true=>
     rw[Bm rfl]
     cases hm:decide ((v.length:Int)<c.fN) with
     | true=>rw[Bm rfl];simp[K0,hx]
     | false=>rw[Bk rfl,Dk (Ph (by omega) hM2)];unfold C2;rw[Br (by omega) (by omega)];simp[K0,hx,hxs]
    | false=>
     have hcl:=HO (S:=e::S') (F:=F) (by simp;omega) hb (by simp;omega);rw[hr] at hcl;rw[Bk rfl,hcl,C3 rfl,Il]
     cases hq:decide (K1 (e::S')=[]) with
     | true=>rw[Bm rfl,Br (by omega) (by omega)];simp[K0,hx]
     | false=>rw[Bk rfl];unfold C2;rw[Br (by omega) (by omega)];simp[K0,hx]
section
variable {S O : Type} {body : S → Option (Stp S O)} {s t u : S} {o : O}
def DD (body:S→Option (Stp S O))(s t:S):Prop:=∃k,∀n,CB body (n+k) s=CB body n t
def Fin (body:S→Option (Stp S O))(s:S)(o:O):Prop:=∃k,∀n,CB body (n+k) s=some o
theorem DD.refl (s:S):DD body s s:=⟨0,λ_=>rfl⟩
theorem DD.trans (h:DD body s t)(h':DD body t u):DD body s u:=by
 obtain⟨k,hk⟩:=h;obtain⟨j,hj⟩:=h';exact⟨j+k,λn=>by rw[← Nat.add_assoc,hk,hj]⟩
theorem DD.step (h:body s=some (.next t)):DD body s t:=⟨1,λn=>by rw[CB,h]⟩
theorem Fin.step (h:body s=some (.out o)):Fin body s o:=⟨1,λn=>by rw[CB,h]⟩
theorem DD.fin (h:DD body s t)(h':Fin body t o):Fin body s o:=by
 obtain⟨k,hk⟩:=h;obtain⟨j,hj⟩:=h';exact⟨j+k,λn=>by rw[← Nat.add_assoc,hk,hj]⟩
end
inductive Fo where
 | nil
 | cell (k:Option Ao) (c:Ac) (r:Fo)
 | node (k:Option Ao) (c:Ac) (kids r:Fo)
def Ij:Option Ao→List Ac
 | none=>[]
 | some s=>[⟨4,0,s,0⟩]
def Fo.flat:Fo→List Ac
 | .nil=>[]
 | .cell k c r=>Ij k++c::r.flat
 | .node k c kids r=>Ij k++c::(kids.flat++r.flat)
def Fo.cnt:Fo→Nat
 | .nil=>0
 | .cell _ _ r=>r.cnt+1
 | .node _ _ _ r=>r.cnt+1
def GN (m:Bool)(last:Option Ao):Option Ao→Bool
 | none=>!m
 | some s=>m&&s.all Nu&&(match last with
  | none=>true
  | some p=>!(CY s p||decide (s=p)))
def Fo.wf:Bool→Option Ao→Fo→Bool
 | _,_,.nil=>true
 | m,last,.cell k c r=>GN m last k&&pl c&&!decide (0<c.fN)&&r.wf m k
 | m,last,.node k c kids r=>GN m last k&&pl c&&decide (0<c.fN)&&decide (c.fN=kids.cnt)&&kids.wf (decide (c.fKind=6)) none&&r.wf m k
def PA (k:Option Ao)(sh:AC):AC:=match k with
 | none=>sh
 | some s=>P0 sh ⟨4,0,s,0⟩
def Fo.sh (d:Nat):AC→Fo→AC
 | s,.nil=>s
 | s,.cell k c r=>r.sh d (K0 d (PA k s) c)
 | s,.node k c kids r=>r.sh d (kids.sh (d+1) (K0 d (PA k s) c))
def Ld (body:Mq→Option (Stp Mq OP))(s:Mq)(S:List Ay)(i:Int)(sh:AC):Prop:=
 if K1 S=[] then Fin body s (.ret (i,sh,true)) else DD body s ((K1 S).reverse,i,sh)
theorem Ld.of {body:Mq→Option (Stp Mq OP)}{s t:Mq}{S:List Ay}{i:Int}{sh:AC}(h:DD body s t)(h':Ld body t S i sh):Ld body s S i sh:=by
 unfold Ld at *
 split
 ·rename_i e;rw[if_pos e] at h';exact h.fin h'
 ·rename_i e;rw[Qm e] at h';exact h.trans h'
theorem Ld.more {body:Mq→Option (Stp Mq OP)}{s:Mq}{e:Ay}{S:List Ay}{i:Int}{sh:AC}(h:Ld body s (e::S) i sh)(h1:1<e.fLeft):DD body s ((⟨e.fPairs,e.fLeft-1,e.fPairs,e.fLast,e.fStarted⟩::S).reverse,i,sh):=by
 have:K1 (e::S)=⟨e.fPairs,e.fLeft-1,e.fPairs,e.fLast,e.fStarted⟩::S:=by simp[K1,h1]
 unfold Ld at *;rw[this,Qm (by simp)] at h;exact h
structure PK (F M:Nat) (v:List Ac):Prop where
 hM:M≤1152921504606846976
 hM2:(M+2)*48≤140737488355328
 hv:v.length≤M
 hF:M<F
 hc:∀c∈v,c.fStr.length≤M∧Cr .i64 c.fInt=true∧c.fN≤9223372036854775807
abbrev PI (F:Nat)(v:List Ac):Mq→Option (Stp Mq OP):=λσ=>D4 F v σ.1 σ.2.1 σ.2.2
def OX (S:List Ay):Prop:=∀e∈S,1≤e.fLeft∧e.fLeft≤9223372036854775807
section
variable {F M : Nat} {v : List Ac} {S : List Ay} {i : Int} {sh : AC} {c : Ac} {r : List Ac} {e : Ay}
theorem EC (h0:0≤i)(h:v.drop i.toNat=c::r):v[i.toNat]? =some c∧v.drop (i+1).toNat=r∧i<v.length:=by
 have h1:(v.drop i.toNat)[0]? =some c:=by rw[h];rfl
 have h2:v[i.toNat]? =some c:=by simpa using h1
 have h3:=(List.getElem?_eq_some_iff.1 h2).1;refine⟨h2,?_,by omega⟩;rw[show(i+1).toNat=i.toNat+1 from by omega,← List.drop_drop,h];rfl
theorem round (hA:PK F M v)(h0:0≤i)(h:v.drop i.toNat=c::r)(hS:(S.length:Int)≤i)(hb:OX S):PI F v (S.reverse,i,sh)=some (P4 v.length S i sh c):=by
 obtain⟨h1,_,h3⟩:=EC h0 h;obtain⟨a,b,_⟩:=hA.hc c (PU h1);have:=hA.hv;exact JM h0 h1 hA.hM hA.hM2 hA.hv (by omega) hA.hF a b hb
theorem Kv {α:Type}{v xs r:List α}{i:Int}(h0:0≤i)(h:v.drop i.toNat=xs++r):v.drop (i+xs.length).toNat=r:=by
 rw[show(i+(xs.length:Int)).toNat=i.toNat+xs.length from by omega,← List.drop_drop,h,List.drop_left]
end
def Fo.one:Fo→Bool
 | .cell none _ .nil=>true
 | .node none _ _ .nil=>true
 | _=>false
def Gm (m:Bool)(last:Option Ao)(xs:List Ac):Option (Option Ao×List Ac):=
 bif m then match xs with
  | []=>none
  | c::r=>bif pl c&&decide (c.fKind=4)&&GN true last (some c.fStr) then some (some c.fStr,r) else none
 else some (none,xs)
def Gu:Nat→Bool→Option Ao→Nat→List Ac→Option (Fo×List Ac)
 | 0,_,_,_,_=>none
 | _+1,_,_,0,xs=>some (.nil,xs)
 | F+1,m,last,k+1,xs=>
  match Gm m last xs with
  | none=>none
  | some (_,[])=>none
  | some (key,c::xs')=>
   bif !pl c then none else
   bif decide (0<c.fN) then
    match Gu F (decide (c.fKind=6)) none c.fN.toNat xs' with
    | none=>none
    | some (kids,ys)=>match Gu F m key k ys with
     | none=>none
     | some (r,zs)=>some (.node key c kids r,zs)
   else match Gu F m key k xs' with
    | none=>none
    | some (r,zs)=>some (.cell key c r,zs)
theorem KA {c:Ac}(hp:pl c=true)(hk:c.fKind=4):c=⟨4,0,c.fStr,0⟩∧c.fStr.all Nu=true:=by
 cases c
 simp only at hk;subst hk;simp[pl] at hp;obtain⟨h1,h2,h3⟩:=hp;subst h1;subst h2;exact⟨rfl,by simpa using h3⟩
theorem Jj {m:Bool}{last key:Option Ao}{xs r:List Ac}(h:Gm m last xs=some (key,r)):xs=Ij key++r∧GN m last key=true:=by
 unfold Gm at h
 cases m with
 | false=>cases h;exact⟨rfl,rfl⟩
 | true=>
  simp only[Ql] at h
  cases xs with
  | nil=>cases h
  | cons c r'=>
   simp only at h
   cases hb:(pl c&&decide (c.fKind=4)&&GN true last (some c.fStr)) with
   | false=>rw[hb] at h;cases h
   | true=>
    rw[hb] at h;simp only[PY,PQ] at hb
    cases h
    exact⟨by rw[(KA hb.1.1 hb.1.2).1];rfl,hb.2⟩
theorem E3:∀(F:Nat) (m:Bool) (last:Option Ao) (k:Nat) (xs:List Ac) (f:Fo) (ys:List Ac),Gu F m last k xs=some (f,ys)→xs=f.flat++ys∧f.wf m last=true∧f.cnt=k
 | 0,_,_,_,_,_,_,h=>by cases h
 | F+1,m,last,0,xs,f,ys,h=>by cases h;exact⟨rfl,rfl,rfl⟩
 | F+1,m,last,k+1,xs,f,ys,h=>by
  rw[Gu] at h
  cases hk:Gm m last xs with
  | none=>rw[hk] at h;cases h
  | some p=>
   obtain⟨key,r⟩:=p;obtain⟨h1,h2⟩:=Jj hk;rw[hk] at h
   cases r with
   | nil=>cases h
   | cons c xs'=>
    simp only at h
    cases hp:pl c with
    | false=>rw[hp] at h;cases h
    | true=>
     rw[hp] at h;simp only[Qe,Qa] at h
     cases hn:decide (0<c.fN) with
     | true=>
      rw[hn] at h;simp only[Ql] at h
      cases hq:Gu F (decide (c.fKind=6)) none c.fN.toNat xs' with
      | none=>rw[hq] at h;cases h
      | some q=>
       obtain⟨kids,zs⟩:=q;rw[hq] at h;simp only at h
       cases hr:Gu F m key k zs with
       | none=>rw[hr] at h;cases h
       | some q2=>
        obtain⟨r2,us⟩:=q2;rw[hr] at h;cases h;obtain⟨a1,a2,a3⟩:=E3 F _ _ _ _ _ _ hq;obtain⟨b1,b2,b3⟩:=E3 F _ _ _ _ _ _ hr;refine⟨by rw[h1,a1,b1];simp[Fo.flat],?_,by simp[Fo.cnt,b3]⟩;simp only[PQ] at hn;simp only[Fo.wf,h2,hp,a2,b2,Qx,Qn,PY,PQ];omega
     | false=>
      rw[hn] at h;simp only[Qa] at h
      cases hr:Gu F m key k xs' with
      | none=>rw[hr] at h;cases h
      | some q2=>
       obtain⟨r2,us⟩:=q2;rw[hr] at h;cases h;obtain⟨b1,b2,b3⟩:=E3 F _ _ _ _ _ _ hr;exact⟨by rw[h1,b1];simp[Fo.flat],by simp[Fo.wf,h2,hp,b2,hn],by simp[Fo.cnt,b3]⟩
theorem DV:∀(F F':Nat) (m:Bool) (last:Option Ao) (k:Nat) (xs:List Ac),xs.length<F→xs.length<F'→Gu F m last k xs=Gu F' m last k xs
 | 0,_,_,_,_,_,h,_=>by omega
 | _+1,0,_,_,_,_,_,h=>by omega
 | F+1,F'+1,m,last,0,xs,_,_=>rfl
 | F+1,F'+1,m,last,k+1,xs,h,h'=>by
  rw[Gu,Gu]
  cases hk:Gm m last xs with
  | none=>rfl
  | some p=>
   obtain⟨key,r⟩:=p;obtain⟨h1,h2⟩:=Jj hk
   cases r with
   | nil=>rfl
   | cons c xs'=>
    have hl:xs'.length<xs.length:=by rw[h1];simp;omega
    simp only
    cases hp:pl c with
    | false=>rfl
    | true=>
     simp only[Qe,Qa]
     cases hn:decide (0<c.fN) with
     | true=>
      simp only[Ql];rw[DV F F' _ _ _ xs' (by omega) (by omega)]
      cases hq:Gu F' (decide (c.fKind=6)) none c.fN.toNat xs' with
      | none=>rfl
      | some q=>
       obtain⟨kids,zs⟩:=q;have:=(E3 _ _ _ _ _ _ _ hq).1;have hz:zs.length≤xs'.length:=by rw[this];simp
       simp only;rw[DV F F' m key k zs (by omega) (by omega)]
     | false=>
      simp only[Qa];rw[DV F F' m key k xs' (by omega) (by omega)]
def PG {S:Type}(body:S→Option (Stp S OP))(s:S):Prop:=∃sh',Fin body s (.ret (0,sh',false))∨Fin body s (.go sh')
theorem DD.bad {S:Type}{body:S→Option (Stp S OP)}{s t:S}(h:DD body s t)(h':PG body t):PG body s:=by
 obtain⟨sh',h' | h'⟩:=h'
 ·exact⟨sh',.inl (h.fin h')⟩
 ·exact⟨sh',.inr (h.fin h')⟩
section
variable {F M : Nat} {v : List Ac}
def H8 (xs:List Ac):Option (Fo×List Ac):=Gu (xs.length+1) false none 1 xs
theorem NG {P:Nat}{xs ys:List Ac}{f:Fo}(h:Gu P false none 1 xs=some (f,ys)):f.one=true:=by
 obtain⟨h1,h2,h3⟩:=E3 _ _ _ _ _ _ _ h
 cases f with
 | nil=>cases h3
 | cell k c r=>
  cases r with
  | nil=>
   cases k with
   | none=>rfl
   | some s=>simp[Fo.wf,GN] at h2
  | cell _ _ _=>simp[Fo.cnt] at h3
  | node _ _ _ _=>simp[Fo.cnt] at h3
 | node k c kids r=>
  cases r with
  | nil=>
   cases k with
   | none=>rfl
   | some s=>simp[Fo.wf,GN] at h2
  | cell _ _ _=>simp[Fo.cnt] at h3
  | node _ _ _ _=>simp[Fo.cnt] at h3
end
theorem O7 {c:Ac}(hp:pl c=true):0≤c.fN:=by
 simp only[pl,← Bool.decide_or] at hp
 cases h1:decide (c.fKind=1)<;>cases h2:decide (c.fKind=2)<;>cases h3:decide (c.fKind=3)<;>cases h4:decide (c.fKind=4)<;>cases h5:decide (c.fKind=5)<;>cases h6:decide (c.fKind=6)<;>simp[h1,h2,h3,h4,h5,h6] at hp<;>omega
def Fo.put (k:Option Ao):Fo→Fo→Fo
 | .cell _ c _,r=>.cell k c r
 | .node _ c kids _,r=>.node k c kids r
 | .nil,_=>.nil
theorem MH (P:Nat)(m:Bool)(last:Option Ao)(k:Nat)(xs:List Ac):Gu (P+2) m last (k+1) xs =
  match Gm m last xs with
  | none=>none
  | some (key,ys)=>match Gu (P+2) false none 1 ys with
   | none=>none
   | some (f,zs)=>match Gu (P+1) m key k zs with
    | none=>none
    | some (r,us)=>some (f.put key r,us):=by
 rw[Gu]
 cases hk:Gm m last xs with
 | none=>rfl
 | some p=>
  obtain⟨key,ys⟩:=p;simp only;rw[Gu];simp only[Gm,Qa]
  cases ys with
  | nil=>rfl
  | cons c ys=>
   simp only
   cases hp:pl c with
   | false=>rfl
   | true=>
    simp only[Qe,Qa]
    cases hn:decide (0<c.fN) with
    | true=>
     simp only[Ql]
     cases hq:Gu (P+1) (decide (c.fKind=6)) none c.fN.toNat ys with
     | none=>rfl
     | some q=>
      obtain⟨kids,zs⟩:=q;simp only[Gu]
      cases hr:Gu (P+1) m key k zs with
      | none=>rfl
      | some q=>obtain⟨a,b⟩:=q;rfl
    | false=>
     simp only[Qa,Gu]
     cases hr:Gu (P+1) m key k ys with
     | none=>rfl
     | some q=>obtain⟨a,b⟩:=q;rfl
def Iy (m:Bool)(last:Option Ao)(k:Nat)(xs:List Ac):Option (Fo×List Ac):=Gu (xs.length+1) m last k xs
theorem Ha (m:Bool)(last:Option Ao)(xs:List Ac):Iy m last 0 xs=some (.nil,xs):=rfl
theorem EH (m:Bool)(last:Option Ao)(k:Nat)(xs:List Ac):Iy m last (k+1) xs =
  match Gm m last xs with
  | none=>none
  | some (key,ys)=>match H8 ys with
   | none=>none
   | some (f,zs)=>match Iy m key k zs with
    | none=>none
    | some (r,us)=>some (f.put key r,us):=by
 unfold Iy H8;rw[DV (xs.length+1) (xs.length+2) m last (k+1) xs (by omega) (by omega),MH]
 cases hk:Gm m last xs with
 | none=>rfl
 | some p=>
  obtain⟨key,ys⟩:=p;have h1:=(Jj hk).1;have hy:ys.length≤xs.length:=by rw[h1];simp
  simp only;rw[DV (xs.length+2) (ys.length+1) false none 1 ys (by omega) (by omega)]
  cases hf:Gu (ys.length+1) false none 1 ys with
  | none=>rfl
  | some q=>
   obtain⟨f,zs⟩:=q;have h2:=(E3 _ _ _ _ _ _ _ hf).1;have hz:zs.length≤ys.length:=by rw[h2];simp
   simp only;rw[DV (xs.length+1) (zs.length+1) m key k zs (by omega) (by omega)]
   all_goals (cases Gu (zs.length+1) m key k zs<;>rfl)
theorem Ov {S O:Type}{body:S→Option (Stp S O)}{n:Nat}{s s':S}{o:O}(h:body s=some (.next s'))(h':CB body n s'=some o):CB body (n+1) s=some o:=by rw[CB,h];exact h'
theorem IN {S O:Type}{body:S→Option (Stp S O)}{n:Nat}{s:S}{o:O}(h:body s=some (.out o)):CB body (n+1) s=some o:=by rw[CB,h]
theorem MI:H8 []=none:=rfl
theorem Hb (c:Ac)(r:List Ac):H8 (c::r)=bif !pl c then none else bif decide (0<c.fN) then(match Iy (decide (c.fKind=6)) none c.fN.toNat r with
  | none=>none
  | some (kids,zs)=>some (.node none c kids .nil,zs)) else some (.cell none c .nil,r):=by
 unfold H8;rw[Gu];simp only[Gm,Qa]
 cases hp:pl c with
 | false=>rfl
 | true=>
  simp only[Qe,Qa]
  cases hn:decide (0<c.fN) with
  | true=>
   simp only[Ql];unfold Iy;rw[Qg]
   cases hq:Gu (r.length+1) (decide (c.fKind=6)) none c.fN.toNat r with
   | none=>rfl
   | some q=>obtain⟨kids,zs⟩:=q;rfl
  | false=>rfl
theorem JS {f:Fo}(h:f.one=true)(key:Option Ao)(r:Fo):(f.put key r).flat=Ij key++(f.flat++r.flat):=by
 cases f with
 | nil=>cases h
 | cell k c r'=>
  cases k with
  | some s=>cases h
  | none=>cases r' with
   | nil=>simp[Fo.put,Fo.flat,Ij]
   | cell _ _ _=>cases h
   | node _ _ _ _=>cases h
 | node k c kids r'=>
  cases k with
  | some s=>cases h
  | none=>cases r' with
   | nil=>simp[Fo.put,Fo.flat,Ij]
   | cell _ _ _=>cases h
   | node _ _ _ _=>cases h
theorem ML {f:Fo}(h:f.one=true):1≤f.flat.length:=by
 cases f with
 | nil=>cases h
 | cell k c r'=>simp[Fo.flat];omega
 | node k c kids r'=>simp[Fo.flat];omega
theorem Jk {xs ys:List Ac}{f:Fo}(h:H8 xs=some (f,ys)):xs=f.flat++ys∧f.wf false none=true∧f.one=true:=
 ⟨(E3 _ _ _ _ _ _ _ h).1,(E3 _ _ _ _ _ _ _ h).2.1,NG h⟩
def Gd (v:List Ac)(i:Int):Int:=match H8 (v.drop i.toNat) with
 | none=>-1
 | some (f,_)=>i+f.flat.length
def GG (m:Bool)(last:Option Ao)(v:List Ac)(i:Int)(k:Nat):Int:=match Iy m last k (v.drop i.toNat) with
 | none=>-1
 | some (f,_)=>i+f.flat.length
theorem IH {v:List Ac}{i:Int}(h0:0≤i)(h1:i≤v.length):Gd v i = -1∨(i<Gd v i∧Gd v i≤v.length):=by
 unfold Gd
 cases h:H8 (v.drop i.toNat) with
 | none=>exact .inl rfl
 | some q=>
  obtain⟨f,ys⟩:=q;obtain⟨h2,_,h3⟩:=Jk h;have:=ML h3;have hl:(v.drop i.toNat).length=f.flat.length+ys.length:=by rw[h2];simp
  rw[List.length_drop] at hl
  right;simp only;omega
structure Pt (F M:Nat) (v:List Ac):Prop where
 hM:M≤1152921504606846976
 hv:v.length≤M
 hF:M<F
 hc:∀c∈v,c.fStr.length≤M
theorem LT (ok:Bool){i:Int}(h0:0≤i)(h1:i≤1152921504606846976):BN ok i=some (bif ok then i+1 else -1):=by
 unfold BN
 cases ok
 ·rfl
 ·rw[Bm rfl,Br (by omega) (by omega)];rfl
theorem Lm {F:Nat}{c:Ac}(hF:c.fStr.length<F)(hs:c.fStr.length≤1152921504606846976):ME F c=some (decide (c.fKind=4)&&pl c):=by
 unfold ME;rw[LQ hF (by omega)];simp only[Option.isSome_some,ov,Qd,imp,Qv,Bn,Ql]
 cases h4:decide (c.fKind=4) with
 | false=>rfl
 | true=>
  simp only[PQ] at h4;simp[pl,h4]
theorem L8 {v:List Ac}{i:Int}{c:Ac}{r:List Ac}(h0:0≤i)(h:v.drop i.toNat=c::r):Aj v i=c:=by
 have:=(EC h0 h).1;simp[Aj,this]
section
variable {M : Nat} {v : List Ac}
theorem Gb {F:Nat}(hA:Pt F M v){g:List Ac→Int→Option Int}{n:Int}(hn:n≤9223372036854775807):∀(L:Nat) (i x:Int),0≤i→i≤v.length→0≤x→x≤n→(∀j,i≤j→j≤v.length→g v j=some (Gd v j))→v.length-i.toNat<L→
  ∃o,CB (λσ=>Cp v n g σ.1 σ.2) L (i,x)=some o∧Cf (λν=>Ee ν) o=some (GG false none v i (n-x).toNat)
 | 0,i,x,_,_,_,_,_,h=>by omega
 | L+1,i,x,h0,h1,hx,hxn,hg,hL=>by
  cases hxl:decide (x<n) with
  | false=>
   refine⟨.go i,IN (by show Cp v n g i x=_;unfold Cp;rw[Bk hxl]),?_⟩;simp only[PP] at hxl;rw[show(n-x).toNat=0 from by omega];simp[Cf,Ee,GG,Ha,Fo.flat]
  | true=>
   have hb:Cp v n g i x=B0 (decide (Gd v i<0)) (some (.out (.ret (-1)))) (Bn (Cr .i64 (x+1))<|some (.next (Gd v i,x+1))):=by unfold Cp;rw[Bm hxl,hg i (Int.le_refl i) h1,C3 rfl]
   simp only[PQ] at hxl;obtain⟨k,hk⟩:∃k,(n-x).toNat=k+1:=⟨(n-x).toNat-1,by omega⟩
   rw[hk];have e:GG false none v i (k+1)=bif decide (Gd v i<0) then -1 else GG false none v (Gd v i) k:=by
    unfold GG;rw[EH];simp only[Gm,Qa]
    cases hp:H8 (v.drop i.toNat) with
    | none=>simp[Gd,hp]
    | some q=>
     obtain⟨f,ys⟩:=q;obtain⟨q1,q2,q3⟩:=Jk hp;have hi:Gd v i=i+f.flat.length:=by simp[Gd,hp]
     have hd:v.drop (Gd v i).toNat=ys:=by rw[hi];exact Kv h0 q1
     rw[hd,PZ (by omega)];simp only[Qa]
     cases hr:Iy false none k ys with
     | none=>rfl
     | some q=>
      obtain⟨r,zs⟩:=q;simp only[JS q3,Ij,List.nil_append,List.length_append,hi];omega
   rw[e];rcases IH (v:=v) h0 h1 with hneg | ⟨hlt,hle⟩
   ·exact⟨.ret (-1),IN (hb.trans (by rw[hneg,Bm (by decide)])),by rw[hneg];rfl⟩
   ·have hM:=hA.hM;have hvM:=hA.hv;obtain⟨o,ho1,ho2⟩:=Gb hA hn L (Gd v i) (x+1) (by omega) hle (by omega) (by omega) (λj hj=>hg j (by omega)) (by omega);exact⟨o,Ov (hb.trans (by rw[Bk (PZ (by omega)),Br (by omega) (by omega)])) ho1,by rw[ho2,show(n-(x+1)).toNat=k from by omega,PZ (by omega)];rfl⟩
theorem HP {F:Nat}(hA:Pt F M v){g:List Ac→Int→Option Int}{n:Int}(hn:n≤9223372036854775807):∀(L:Nat) (i x:Int) (last:Ao),0≤i→i≤v.length→0≤x→x≤n→(∀j,i≤j→j≤v.length→g v j=some (Gd v j))→v.length-i.toNat<L→
  ∃o,CB (λσ=>CD F v n g σ.1 σ.2.1 σ.2.2) L (i,last,x)=some o∧Cf (λν=>GZ ν) o=some (GG true (bif decide (0<x) then some last else none) v i (n-x).toNat)
 | 0,i,x,_,_,_,_,_,_,h=>by omega
 | L+1,i,x,last,h0,h1,hx,hxn,hg,hL=>by
  have hM:=hA.hM;have hvM:=hA.hv;have hMF:=hA.hF
  cases hxl:decide (x<n) with
  | false=>
   refine⟨.go i,IN (by show CD F v n g i last x=_;unfold CD;rw[Bk hxl]),?_⟩;simp only[PP] at hxl;rw[show(n-x).toNat=0 from by omega];simp[Cf,GZ,GG,Ha,Fo.flat]
  | true=>
   have hxl':=hxl;simp only[PQ] at hxl;obtain⟨k,hk⟩:∃k,(n-x).toNat=k+1:=⟨(n-x).toNat-1,by omega⟩
   rw[hk]
   cases hd:v.drop i.toNat with
   | nil=>
    have hl:v.length≤i.toNat:=by simpa using hd
    refine⟨.ret (-1),IN (by
     show CD F v n g i last x=_;unfold CD;rw[Bm hxl',Dk (by simp[imp,show(v.length:Int)≤i from by omega]),Dk (by simp[imp,show(v.length:Int)≤i from by omega]),Bm (by simp[show(v.length:Int)≤i from by omega])]),?_⟩
    simp[Cf,GG,hd,EH,Gm]
   | cons c r=>
    obtain⟨g1,g2,g3⟩:=EC h0 hd;have hcM:=hA.hc c (PU g1);have hat:=L8 h0 hd;have hnl:decide ((v.length:Int)≤i)=false:=by simp;omega
    have hb:CD F v n g i last x=B0 (!(decide (c.fKind=4)&&pl c)||decide (0<x)&&(CY c.fStr last||decide (c.fStr=last))) (some (.out (.ret (-1)))) (B6 (g v (i+1)) λha=>B0 (decide (ha<0)) (some (.out (.ret (-1)))) (Bn (Cr .i64 (x+1))<|some (.next (ha,c.fStr,x+1)))):=by
     unfold CD;rw[Bm hxl',Dk (by simp only[imp];rw[OG h0 g3];simp),hat,Lm (by omega) (by omega),Dk (by simp[imp])];simp only[hnl,ov,Qd,Qk];rw[Df h0 g3,Br (by omega) (by omega)]
    have hpk:Gm true (bif decide (0<x) then some last else none) (c::r)=bif (!(decide (c.fKind=4)&&pl c)||decide (0<x)&&(CY c.fStr last||decide (c.fStr=last))) then none else some (some c.fStr,r):=by
     simp only[Gm,Ql]
     cases h4:decide (c.fKind=4) with
     | false=>simp
     | true=>
      cases hp:pl c with
      | false=>simp
      | true=>
       have hok:=(KA hp (by simpa using h4)).2
       cases h0x:decide (0<x) with
       | false=>simp[GN,hok]
       | true=>cases hs:(CY c.fStr last||decide (c.fStr=last))<;>simp[GN,hok,hs]
    cases ht:(!(decide (c.fKind=4)&&pl c)||decide (0<x)&&(CY c.fStr last||decide (c.fStr=last))) with
    | true=>
     rw[ht] at hpk;refine⟨.ret (-1),IN (hb.trans (Bm ht)),?_⟩;simp only[GG,hd,EH,hpk,Ql];rfl
    | false=>
     rw[ht] at hpk;rw[Bk ht,hg (i+1) (by omega) (by omega),C3 rfl] at hb;have e:GG true (bif decide (0<x) then some last else none) v i (k+1)=bif decide (Gd v (i+1)<0) then -1 else GG true (some c.fStr) v (Gd v (i+1)) k:=by
      unfold GG;rw[hd,EH,hpk];simp only[Qa];have hx:Gd v (i+1)=match H8 r with | none=>-1 | some (f,_)=>i+1+f.flat.length:=by unfold Gd;rw[g2]
      cases hp:H8 r with
      | none=>rw[hp] at hx;simp[hx]
      | some q=>
       obtain⟨f,ys⟩:=q;obtain⟨q1,q2,q3⟩:=Jk hp;rw[hp] at hx;simp only at hx;have hd2:v.drop (Gd v (i+1)).toNat=ys:=by rw[hx];exact Kv (by omega) (g2.trans q1)
       rw[hd2,PZ (by omega)];simp only[Qa]
       cases hr:Iy true (some c.fStr) k ys with
       | none=>rfl
       | some q=>
        obtain⟨r',zs⟩:=q;simp only[JS q3,Ij,List.length_append,Qg,List.length_nil,hx];omega
     rw[e];rcases IH (v:=v) (i:=i+1) (by omega) (by omega) with hneg | ⟨hlt,hle⟩
     ·exact⟨.ret (-1),IN (hb.trans (by rw[hneg,Bm (by decide)])),by rw[hneg];rfl⟩
     ·obtain⟨o,ho1,ho2⟩:=HP hA hn L (Gd v (i+1)) (x+1) c.fStr (by omega) hle (by omega) (by omega) (λj hj=>hg j (by omega)) (by omega);exact⟨o,Ov (hb.trans (by rw[Bk (PZ (by omega)),Br (by omega) (by omega)])) ho1,by rw[ho2,show(n-(x+1)).toNat=k from by omega,Qf (show(0:Int)<x+1 from by omega),PZ (by omega)];rfl⟩
theorem JY {i:Int}{c:Ac}{r:List Ac}(h0:0≤i)(hd:v.drop i.toNat=c::r)(hp:pl c=true):Gd v i=GG (decide (c.fKind=6)) none v (i+1) c.fN.toNat:=by
 have g2:=(EC h0 hd).2.1;have hN:=O7 hp;unfold Gd GG;rw[hd,Hb,g2,hp];simp only[Qe,Qa]
 cases hn:decide (0<c.fN) with
 | true=>
  simp only[Ql]
  cases hq:Iy (decide (c.fKind=6)) none c.fN.toNat r with
  | none=>rfl
  | some q=>
   obtain⟨kids,zs⟩:=q;simp only[Fo.flat,Ij,List.nil_append,Qg,List.append_nil];omega
 | false=>
  simp only[PP] at hn;rw[show c.fN.toNat=0 from by omega,Ha];simp[Fo.flat,Ij]
theorem MD (hA:Pt (M+1) M v)(hN:∀c∈v,c.fN≤9223372036854775807):∀(d F:Nat) (i:Int),0≤i→i≤v.length→v.length-i.toNat=d→M+2*d+3<F→IC F v i=some (Gd v i):=by
 have hM:=hA.hM;have hvM:=hA.hv;intro d
 induction d using Nat.strongRecOn with
 | ind d ih=>
  intro F i h0 h1 hd hF;obtain⟨F,rfl⟩:∃G,F=G+1:=⟨F-1,by omega⟩
  obtain⟨F,rfl⟩:∃G,F=G+1:=⟨F-1,by omega⟩
  rw[IC];unfold MC
  cases hdr:v.drop i.toNat with
  | nil=>
   have hl:v.length≤i.toNat:=by simpa using hdr
   rw[Bm (by simp;omega)];simp[Gd,hdr,MI]
  | cons c r=>
   obtain⟨g1,g2,g3⟩:=EC h0 hdr;have hcM:=hA.hc c (PU g1);have hcN:=hN c (PU g1);rw[Bk (by simp;omega),Df h0 g3,L8 h0 hdr];simp only[LT _ h0 (show i≤1152921504606846976 by omega),Option.isSome_some,ov,Qd,imp,Qv,Dk (x:=_) (rfl:true=true)];have hg:∀j,i+1≤j→j≤v.length→IC F v j=some (Gd v j):=λj hj hj2=>ih (v.length-j.toNat) (by omega) F j (by omega) hj2 rfl (by omega);have hpl0:pl c=false→Gd v i = -1:=λhp=>by simp[Gd,hdr,Hb,hp]
   have hleaf:pl c=true→c.fN=0→Gd v i=i+1:=λhp h0'=>by simp[Gd,hdr,Hb,hp,h0',Fo.flat,Ij]
   have hscal:∀b:Bool,pl c=b→(b=true→c.fN=0)→Gd v i=bif b then i+1 else -1:=λb hb hz=>by
    cases b
    ·exact hpl0 hb
    ·exact hleaf hb (hz rfl)
   by_cases k1:c.fKind=1
   ·rw[Bm (by simp[k1])];have hp:pl c=(decide (c.fInt=0)&&(decide (c.fStr=[])&&decide (c.fN=0))):=by simp[pl,k1]
    rw[hscal _ hp (λh=>by simp at h;exact h.2.2)]
    cases decide (c.fInt=0)<;>cases decide (c.fStr=[])<;>cases decide (c.fN=0)<;>rfl
   rw[Bk (by simp[k1])]
   by_cases k2:c.fKind=2
   ·rw[Bm (by simp[k2])];have hp:pl c=((decide (c.fInt=0)||decide (c.fInt=1))&&(decide (c.fStr=[])&&decide (c.fN=0))):=by simp[pl,k2]
    rw[hscal _ hp (λh=>by simp at h;exact h.2.2)]
    cases decide (c.fInt=0)<;>cases decide (c.fInt=1)<;>cases decide (c.fStr=[])<;>cases decide (c.fN=0)<;>rfl
   rw[Bk (by simp[k2])]
   by_cases k3:c.fKind=3
   ·rw[Bm (by simp[k3])];have hp:pl c=(decide (c.fStr=[])&&decide (c.fN=0)):=by simp[pl,k3]
    rw[hscal _ hp (λh=>by simp at h;exact h.2)]
    cases decide (c.fStr=[])<;>cases decide (c.fN=0)<;>rfl
   rw[Bk (by simp[k3])]
   by_cases k4:c.fKind=4
   ·rw[Bm (by simp[k4]),Lm (by omega) (by omega),C3 rfl,C3 rfl];rw[Qf k4,Qn,hscal (pl c) rfl (λhp=>by have:=(KA hp k4).1;rw[this])]
   rw[Bk (by simp[k4])]
   by_cases k5:c.fKind=5
   ·have hp:pl c=(decide (c.fInt=0)&&(decide (c.fStr=[])&&decide (0≤c.fN))):=by simp[pl,k5]
    rw[show(decide (c.fKind=5)&&(decide (c.fInt=0)&&(decide (c.fStr=[])&&decide (0≤c.fN))))=pl c from by rw[hp,Qf k5,Qn]];have k5' : ¬ c.fKind=6:=by omega
    cases hb:pl c with
    | false=>rw[Bk rfl,Bk (by simp[k5]),hpl0 hb]
    | true=>
     have hn0:=O7 hb;rw[Bm rfl,Br (by omega) (by omega),ID];unfold HQ;obtain⟨o,ho1,ho2⟩:=Gb (F:=F) ⟨hM,hvM,by omega,hA.hc⟩ hcN F (i+1) 0 (by omega) (by omega) (Int.le_refl 0) hn0 hg (by omega);rw[C3 ho1,ho2,C3 rfl,JY h0 hdr hb,PZ k5',Int.sub_zero]
   rw[Bk (by simp[k5])]
   by_cases k6:c.fKind=6
   ·have hp:pl c=(decide (c.fInt=0)&&(decide (c.fStr=[])&&decide (0≤c.fN))):=by simp[pl,k6]
    rw[show(decide (c.fKind=6)&&(decide (c.fInt=0)&&(decide (c.fStr=[])&&decide (0≤c.fN))))=pl c from by rw[hp,Qf k6,Qn]]
    cases hb:pl c with
    | false=>rw[Bk rfl,hpl0 hb]
    | true=>
     have hn0:=O7 hb;rw[Bm rfl,Br (by omega) (by omega),MB];unfold Lk;obtain⟨o,ho1,ho2⟩:=HP (F:=F) ⟨hM,hvM,by omega,hA.hc⟩ hcN F (i+1) 0 [] (by omega) (by omega) (Int.le_refl 0) hn0 hg (by omega);rw[C3 ho1,ho2,C3 rfl,JY h0 hdr hb,Qf k6,Int.sub_zero];rfl
   ·rw[Bk (by simp[k6]),hpl0 (by simp[pl,k1,k2,k3,k4,k5,k6])]
end
structure LE (M:Nat) (v:List Ac):Prop where
 hM:M≤1000000000
 hv:v.length≤M
 hc:∀c∈v,c.fStr.length≤M∧Cr .i64 c.fInt=true∧c.fN≤9223372036854775807
theorem LE.rf {M F:Nat}{v:List Ac}(h:LE M v)(hF:M<F):Pt F M v:=⟨by have:=h.hM;omega,h.hv,hF,λc hc=>(h.hc c hc).1⟩
theorem LE.drop {M:Nat}{v:List Ac}(h:LE M v)(k:Nat):LE M (v.drop k):=⟨h.hM,by have:=h.hv;rw[List.length_drop];omega,λc hc=>h.hc c (List.mem_of_mem_drop hc)⟩
theorem LE.take {M:Nat}{v:List Ac}(h:LE M v)(k:Nat):LE M (v.take k):=⟨h.hM,by have:=h.hv;rw[List.length_take];omega,λc hc=>h.hc c (List.mem_of_mem_take hc)⟩
def whole (v:List Ac):Option Fo:=match H8 v with
 | some (f,[])=>some f
 | _=>none
section
variable {M : Nat} {v : List Ac}
theorem LE.next (hA:LE M v){F:Nat}(hF:3*M+3<F){p:Int}(h0:0≤p)(h1:p≤v.length):IC F v p=some (Gd v p):=by
 have hM:=hA.hM;have hvM:=hA.hv;exact MD (hA.rf (PX M)) (λc hc=>(hA.hc c hc).2.2) (v.length-p.toNat) F p h0 h1 rfl (by omega)
end
theorem NJ {R V:Type}(K:V→Option R)(v:V):Cf K (.go v)=K v:=rfl
theorem MK {R V:Type}(K:V→Option R)(r:R):Cf K (.ret r)=some r:=rfl
section
variable {M : Nat} {v : List Ac}
end
section
variable {M : Nat} {v : List Ac}
theorem NI {α:Type}[Inhabited α](a:α):ov (some a)=a:=rfl
end
def Jo (c:Ac):Bool:=Cr .i64 c.fKind&&Cr .i64 c.fInt&&NK c.fStr&&Cr .i64 c.fN
theorem Jf {α:Type}{a b:List α}{n:Nat}(h:a.take n=b.take n)(h1:a.length≤n)(h2:b.length≤n):a=b:=by
 rw[List.take_of_length_le h1,List.take_of_length_le h2] at h;exact h
theorem JQ {F:Nat}{a b:List Ac}(hF:a.length<F)(hv:a.length≤1152921504606846976):Ec F a b=some (decide (a=b)):=by
 unfold Ec
 by_cases hl:(a.length:Int)=(b.length:Int)
 ·rw[Bk (by simp[hl])];obtain⟨o,h1,h2⟩:=Jx (body:=λσ=>Cl a b σ) (λx=>0≤x∧x≤(a.length:Int)∧a.take x.toNat=b.take x.toNat) (λx=>a.length-x.toNat) (λo=>Cf (λ_=>D5) o=some (decide (a=b))) (λx ⟨h0,hx,ht⟩=>by
   by_cases h:x<(a.length:Int)
   ·have hb:x<(b.length:Int):=by omega
    obtain⟨c,hc⟩:∃c,a[x.toNat]? =some c:=⟨a[x.toNat]'(by omega),PR (by omega)⟩
    obtain⟨d,hd⟩:∃d,b[x.toNat]? =some d:=⟨b[x.toNat]'(by omega),PR (by omega)⟩
    have ac:Aj a x=c:=by simp[Aj,hc]
    have bd:Aj b x=d:=by simp[Aj,hd]
    have heq:(decide (c.fKind=d.fKind)&&decide (c.fInt=d.fInt)&&decide (c.fStr=d.fStr)&&decide (c.fN=d.fN))=decide (c=d):=by
     cases c;cases d
     rw[Qi];simp only[Ac.mk.injEq,PY,PQ];constructor
     ·rintro⟨⟨⟨h1,h2⟩,h3⟩,h4⟩;exact⟨h1,h2,h3,h4⟩
     ·rintro⟨h1,h2,h3,h4⟩;exact⟨⟨⟨h1,h2⟩,h3⟩,h4⟩
    have hb1:Cl a b x=B0 (!decide (c=d)) (some (.out (.ret false))) (some (.next (x+1))):=by
     unfold Cl;rw[Bm (Qf h),Df h0 h,Df h0 hb,ac,bd,heq,Br (by omega) (by omega)]
    by_cases hcd:c=d
    ·refine .inl ⟨x+1,hb1.trans (by rw[Bk (by simp[hcd])]),⟨by omega,by omega,?_⟩,by omega⟩;rw[show(x+1).toNat=x.toNat+1 from by omega,List.take_add_one,List.take_add_one,ht,hc,hd,hcd]
    ·refine .inr ⟨.ret false,hb1.trans (by rw[Bm (by simp[hcd])]),?_⟩;rw[MK,PZ];intro e;subst e;rw[hc] at hd;cases hd;exact hcd rfl
   ·refine .inr ⟨.go (),by unfold Cl;rw[Bk (PZ h)],?_⟩;rw[NJ,Qf (Jf ht (by omega) (by omega))];rfl) F 0 ⟨Int.le_refl 0,by omega,rfl⟩ (by show a.length-0<F;omega)
  rw[C3 h1,h2]
 ·rw[Bm (by simp[hl]),PZ];intro e;subst e;exact hl rfl
theorem LO {F:Nat}{a b:List Ac}(hF:a.length<F)(hv:a.length≤1152921504606846976):DG F a b=some (decide (a=b)):=(show DG F a b=Ec F a b from rfl).trans (JQ hF hv)
theorem L7 {α:Type}[Inhabited α]{l:List α}{i:Nat}(h:i<l.length):Aj l (i:Int)=l[i]:=by simp[Aj,h]
theorem NQ {α U:Type}{l:List α}{body:Int→Option (Stp Int (Out Bool U))}{bad:α→Bool}{u:U}(hb:∀(i:Nat) (h:i<l.length),body (i:Int)=B0 (bad l[i]) (some (.out (.ret false))) (some (.next ((i:Int)+1))))(he:body (l.length:Int)=some (.out (.go u))) :
  ∀(d n i:Nat),i+d=l.length→d<n→CB body n (i:Int)=some (if (l.drop i).any bad=true then .ret false else .go u):=by
 intro d
 induction d with
 | zero=>
  intro n i h hn;obtain⟨n,rfl⟩:∃m,n=m+1:=⟨n-1,by omega⟩
  obtain rfl:i=l.length:=by omega
  rw[CB,he,List.drop_length];rfl
 | succ d ih=>
  intro n i h hn;obtain⟨n,rfl⟩:∃m,n=m+1:=⟨n-1,by omega⟩
  have hi:i<l.length:=by omega
  rw[CB,hb i hi,List.drop_eq_getElem_cons hi,List.any_cons]
  cases hf:bad l[i] with
  | false=>rw[Bk rfl,Qk];exact ih n (i+1) (by omega) (by omega)
  | true=>rw[Bm rfl,Qu,if_pos rfl]
theorem Kl {α U:Type}{l:List α}{body:Int→Option (Stp Int (Out Bool U))}{bad:α→Bool}{u:U}{F:Nat}(hF:l.length<F)(hb:∀(i:Nat) (h:i<l.length),body (i:Int)=B0 (bad l[i]) (some (.out (.ret false))) (some (.next ((i:Int)+1))))(he:body (l.length:Int)=some (.out (.go u)))(k:U→Option Bool) :
  B6 (CB body F 0) (Cf k)=bif l.any bad then some false else k u:=by
 have h:=NQ hb he l.length F 0 (by omega) hF;have h':CB body F 0=_:=h;rw[List.drop_zero] at h';rw[C3 h']
 cases l.any bad<;>rfl
def Io (v:List Ac):Bool:=decide (100<v.length)||v.any λc=>decide (250<c.fStr.length)
theorem DY {α:Type}(n:Nat)(f:List α):decide (((n:Nat):Int)<(f.length:Int))=decide (n<f.length):=by rw[Qi];simp
theorem Md {F:Nat}(hF:100<F)(v:List Ac):If F v=some (!Io v):=by
 unfold If Io;rw[show decide ((100:Int)<(v.length:Int))=decide (100<v.length) from DY 100 v]
 cases hl:decide (100<v.length) with
 | true=>rfl
 | false=>
  have hl' : ¬ 100<v.length:=of_decide_eq_false hl;rw[Bk rfl,Kl (l:=v) (bad:=λc=>decide (250<c.fStr.length)) (u:=()) (by omega) (λi h=>by
   unfold Dz;rw[Bm (Qf (by omega)),Df (by omega) (by omega),L7 h,Br (by omega) (by omega),show decide ((250:Int)<((v[i]).fStr.length:Int))=decide (250<(v[i]).fStr.length) from DY 250 _]) (by unfold Dz;rw[Bk (PZ (by omega))])]
  cases v.any _<;>rfl
def In (op:A3):Bool:=(decide (100<op.fEntity.length)||(decide (100<op.fID.length)||(decide (100<op.fOp.length)||decide (4<op.fArgs.length))))||op.fArgs.any Io
theorem Mc {F:Nat}(hF:100<F)(op:A3):Ie F op=some (!In op):=by
 unfold Ie In;have hk:((decide (100<(op.fEntity.length:Int)))||((decide (100<(op.fID.length:Int)))||((decide (100<(op.fOp.length:Int)))||(decide (4<(op.fArgs.length:Int))))))=(decide (100<op.fEntity.length)||(decide (100<op.fID.length)||(decide (100<op.fOp.length)||decide (4<op.fArgs.length)))):=by
  rw[← DY 100 op.fEntity,← DY 100 op.fID,← DY 100 op.fOp,← DY 4 op.fArgs];rfl
 rw[hk]
 cases hb:(decide (100<op.fEntity.length)||(decide (100<op.fID.length)||(decide (100<op.fOp.length)||decide (4<op.fArgs.length)))) with
 | true=>rfl
 | false=>
  simp only[Bool.or_eq_false_iff,PP] at hb;rw[Bk rfl,Kl (l:=op.fArgs) (bad:=Io) (u:=()) (by omega) (λi h=>by
   unfold Dy;rw[Bm (Qf (by omega)),Df (by omega) (by omega),L7 h,Md hF,C3 rfl,Bool.not_not,Br (by omega) (by omega)]) (by unfold Dy;rw[Bk (PZ (by omega))])]
  cases op.fArgs.any Io<;>rfl
theorem LE.ofN {v:List Ac}(hs:Io v=false)(hc:v.all Jo=true):LE 250 v:=by
 unfold Io at hs;simp only[Bool.or_eq_false_iff,PP,List.any_eq_false,Qj,PQ] at hs hc;refine⟨by decide,by omega,λc h=>?_⟩;have h1:=hs.2 c h;have h2:=hc c h;unfold Jo at h2;simp only[PY] at h2;exact⟨by omega,h2.1.1.2,(J1 h2.2).2⟩
structure PE (M:Nat) (op:A3):Prop where
 e:op.fEntity.length≤1000000
 i:op.fID.length≤1000000
 o:op.fOp.length≤1000000
 n:op.fArgs.length≤1000000
 a:∀v∈op.fArgs,LE M v
theorem PE.of {op:A3}(hs:In op=false)(hc:op.fArgs.all (λv=>v.all Jo)=true):PE 250 op:=by
 unfold In at hs;simp only[Bool.or_eq_false_iff,PP,List.any_eq_false] at hs;exact⟨by omega,by omega,by omega,by omega,λv hv=>LE.ofN (by have:=hs.2 v hv;simpa using this) (List.all_eq_true.1 hc v hv)⟩
def Kb:List Ac:=[⟨1,0,[],0⟩]
theorem Kn:EA 30000=some true:=by decide +kernel
theorem I2 (F:Nat)(hF:0<F)(e:Ao):BA F e=some []:=by
 obtain⟨n,rfl⟩:∃n,F=n+1:=⟨F-1,by omega⟩
 rfl
theorem HV (F:Nat)(hF:0<F)(e:Ao):Dv F e=some []:=by
 obtain⟨n,rfl⟩:∃n,F=n+1:=⟨F-1,by omega⟩
 rfl
theorem Jz (op:A3)(now:Int):E9 30000 op now=some true:=by
 have hs:DG 30000 Kb Kb=some true:=by rw[LO (by decide) (by decide),Qf rfl]
 have h1:BD op.fEntity=some Kb:=rfl;have h2:Ei op.fEntity=some Kb:=rfl;have h3:D6=some Kb:=rfl;have h4:BR op.fEntity=some []:=rfl;have h5:D9 op.fEntity=some []:=rfl;have h6:GJ op.fEntity now=some (⟨⟨[],[],[],[]⟩,⟨0,[]⟩,0,0⟩,false):=rfl;have h7:EK op.fEntity now=some (⟨⟨[],[],[],[]⟩,⟨0,[]⟩,0,0⟩,false):=rfl;have h8:Ek op.fID=some (⟨0,[]⟩,false):=rfl;have h9:DM op.fID=some (⟨0,[]⟩,false):=rfl;have ha:CG=some []:=rfl;have hb:Ej=some []:=rfl;unfold E9 BM;rw[Mc (by decide),C3 rfl,Kn]
 cases In op with
 | true=>rfl
 | false=>
  rw[Bk (by rfl),h1,h2,h3,h4,h5,h6,h7,h8,h9,ha,hb,I2 30000 (by decide),HV 30000 (by decide)];simp only[C3 rfl,NI,hs];rfl
end Go.Proofs.YtfbmdidnlhifjaaGreatDoor
namespace Go.Proofs.YtfbmdidnlhifjaaGreatDoor.lawEntityNobody
open Go
set_option linter.unusedVariables false
theorem PC:PL:=λop now _ _=>⟨30000,Jz op now⟩
end Go.Proofs.YtfbmdidnlhifjaaGreatDoor.lawEntityNobody
