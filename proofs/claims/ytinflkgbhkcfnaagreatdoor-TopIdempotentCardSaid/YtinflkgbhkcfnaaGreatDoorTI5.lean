/-
  Texts of the proof, put together: LuB, LuC, LuD, LuE, LuF, LuG, LuH, LuI, LuJ, LuL, LuM, LuN, LuO, LuP, LuQ, LyB, LyA, LyC, LyD, LyE, LwIdem.
-/
import Derived.Test.YtinflkgbhkcfnaaGreatDoorTI4
open Decidable renaming decide → Ac
open Option renaming some → Ad, none → Ai
open Bool renaming true → Af, false → Ah
open List renaming length → Ae, drop → Ap, take → Aq, replicate → Au, range → As
open Int renaming toNat → Ao
open UInt8 renaming ofNat → Ar
open Go.Proofs.Tryz
namespace Go.Proofs.YtinflkgbhkcfnaaGreatDoor
open Go
set_option linter.unusedVariables false
set_option linter.unusedSimpArgs false
def Qk (ps:List Aw)(x y:Int):Bool:=GO (Ax ps x).aC (Ax ps y).aC (Ax ps x).ar (Ax ps y).ar
theorem Afq (ps:List Aw):Lto (Qk ps):=Ul (λx:Int=>(Ax ps x).aC) (λx=>(Ax ps x).ar)
theorem OP {T:Type}{lt:T→T→Bool}:∀{xs:List T},(xs.Pairwise λa b=>(lt a b||lt b a)=Af)→GF lt xs=Af
 | [],_=>rfl
 | x::r,h=>by
  rw[List.pairwise_cons] at h;simp only[GF,AgO,AgY];exact⟨λy hy=>h.1 y hy,OP h.2⟩
variable{ps:List Aw}
theorem Ty {xs:List Int}(h:xs.Pairwise λi j=>(Ax ps i).ar<(Ax ps j).ar):GF (Qk ps) xs=Af:=
 OP (h.imp fun {i j} hij=>by
  unfold Qk GO;simp only[AgZ,AgO,AgQ];omega)
def Gn (ps:List Aw)(i:Int):AQ:=(Ax ps i).ai
def SmE (e:AQ):Prop:=Ae e.aQ≤300∧Ae e.aM≤300∧Hk e.aQ=Af
structure QI (q:A2) (ps:List Aw) (idx:List Int):Prop where
 vis:1≤q.ae.ah∧q.ae.ah≤1073741824
 rcs:1≤q.ae.aa∧q.ae.aa≤10
 pm:q.aj.Perm (idx.map λi=>((Ax ps i).ai.aQ,i))
 inr:∀i∈idx,CR i (Ae ps:Int)=Af
 ord:idx.Pairwise λi j=>(Ax ps i).ar<(Ax ps j).ar
 plc:∀i∈idx,(Ax ps i).ar<q.ao
 ids:(idx.map (λi=>(Ax ps i).ai.aQ)++q.a7.map (·.aQ)).Nodup
 now:0≤q.a6∧q.a6≤1073741824
 ats:∀i∈idx,0≤(Ax ps i).aC∧(Ax ps i).aC≤2147483648
 rcv:∀i∈idx,0≤(Ax ps i).aa∧(Ax ps i).aa≤q.ae.aa
 cnt:Ae idx+Ae q.a7≤256
 sm:∀i∈idx,SmE (Gn ps i)
 smd:∀e∈q.a7,SmE e
variable{q:A2}{idx:List Int}
theorem QI.wlen (h:QI q ps idx):Ae q.aj=Ae idx:=by rw[h.pm.length_eq,AgP]
variable{n:Nat}{α:Type}
theorem Add {x:Option α}(h:n≤1000000):Bp (H7 8 n) x=x:=C8 (AgL Ab)
theorem R1 {b:A1→Int→List Int→Option (Stp (List Int) (Out (List Int) (List Int)))}{holds:Int→Bool}{idx:List Int}(hb:∀(s:A1) (i:Int) (acc:List Int),i∈idx→Ae acc≤100000→b s i acc=Ad (.next (bif holds i then acc++[i] else acc))) :
  ∀(o:List (A1×Int)) (s:List Int),Ae s+Ae o≤100000→(∀p∈o,p.2∈idx)→Mc (λpe τ=>b pe.1 pe.2 τ) o s=Ad (.go (s++(o.map (·.2)).filter holds))
 | [],s,_,_=>by simp[Mc]
 | p::r,s,hl,h=>by
  simp only[Ahc] at hl;have e:=hb p.1 p.2 s (h p (List.mem_cons_self ..)) Ab;rw[Mc,e];simp only;rw[R1 hb r _ (by cases holds p.2<;>simp<;>omega) λq hq=>h q (List.mem_cons_of_mem _ hq)]
  cases hq:holds p.2<;>simp[hq]
theorem R2 {holds:Int→Bool}{ws:List (A1×Int)}{b:A1→Int→List Int→Option (Stp (List Int) (Out (List Int) (List Int)))}{k:List Int→Option (List Int)}
  (hpm:(ws.map (·.2)).Perm idx) (hl:Ae idx≤256) (hin:∀i∈idx,CR i (Ae ps:Int)=Af) (ho:idx.Pairwise λi j=>(Ax ps i).ar<(Ax ps j).ar)
  (hb:∀(s:A1) (i:Int) (acc:List Int),i∈idx→Ae acc≤100000→b s i acc=Ad (.next (bif holds i then acc++[i] else acc)))
  (hk:∀acc,k acc=(Bp (acc.all (λi=>CR i (Ae ps:Int)))<|Bp (GF (Qk ps) acc)<|Bp (Nat.blt (Ae acc) 4611686018427387904)<|some (MD (Qk ps) acc))) :
  Qe ws (λord=>BN (Mc (λpe τ=>b pe.1 pe.2 τ) ord ([]:List Int)) (CT λν=>k ν))=Ad (MD (Qk ps) (idx.filter holds)):=by
 refine Ta λo hp=>?_;have hpo:(o.map (·.2)).Perm idx:=(hp.map _).trans hpm;have hlo:Ae o=Ae idx:=by rw[← hpo.length_eq,AgP]
 rw[R1 hb o [] Am (λp hp'=>hpo.subset (List.mem_map_of_mem hp')),C3 rfl,G6,hk,List.nil_append];have hpf:((o.map (·.2)).filter holds).Perm (idx.filter holds):=hpo.filter _;have hdf:GF (Qk ps) (idx.filter holds)=Af:=Ty (ho.filter _);have hall:((o.map (·.2)).filter holds).all (λi=>CR i (Ae ps:Int))=Af:=by
  rw[AgY];exact λi hi=>hin i (hpo.subset (List.mem_filter.1 hi).1)
 have hle:Ae ((o.map (·.2)).filter holds)≤256:=Nat.le_trans (List.length_filter_le _ _) (by rw[AgP];omega);rw[C8 hall,C8 (ST hdf hpf),C8 Am,Vl (Afq ps) hdf hpf]
theorem QI.vals (h:QI q ps idx):(q.aj.map (·.2)).Perm idx:=by
 have:=h.pm.map (·.2)
 rwa [Ahv,show((λp:A1×Int=>p.2) ∘ λi=>((Ax ps i).ai.aQ,i))=id from rfl,List.map_id] at this
variable{i:Int}
theorem QI.in' (h:QI q ps idx)(hi:i∈idx):Ac (0≤i)=Af:=AgL (C7 (h.inr i hi)).1
def Kj (q:A2)(ps:List Aw)(now i:Int):Bool:=Ac ((Ax ps i).aC≤now)&&Ac (q.ae.aa≤(Ax ps i).aa)
def MB (ps:List Aw)(now i:Int):Bool:=Ac ((Ax ps i).aC≤now)
theorem Se {b:Bool}{acc:List Int}(h:Ae acc≤100000):BX b (Bp (H7 8 (Ae acc+Ae ([i]:List Int)))<|some (Stp.next (acc++([i]:List Int)):Stp (List Int) (Out (List Int) (List Int)))) (Ad (.next acc))=Ad (.next (bif b then acc++[i] else acc)):=by
 cases b with
 | true=>rw[Dh rfl,Add Am];rfl
 | false=>rfl
theorem Rl (h:QI q ps idx)(q':A2)(hw:q'.aj=q.aj)(hp:q'.ae=q.ae)(now:Int):Jc q' ps now=Ad (MD (Qk ps) (idx.filter (Kj q ps now))):=by
 unfold Jc;rw[hw];refine R2 h.vals (by have:=h.cnt;omega) h.inr h.ord (λs i acc hi ha=>?_) (λacc=>rfl);unfold Hw Acf Xg;rw[C8 (h.in' hi),C8 (h.inr i hi),C3 rfl,C3 rfl];simp only[hp];exact Se ha
theorem Rk (h:QI q ps idx)(now:Int):Jb q ps now=Ad (MD (Qk ps) (idx.filter (MB ps now))):=by
 unfold Jb;refine R2 h.vals (by have:=h.cnt;omega) h.inr h.ord (λs i acc hi ha=>?_) (λacc=>rfl);unfold Hv Acc;rw[C8 (h.in' hi),C8 (h.inr i hi),C3 rfl];exact Se ha
theorem N4 (n:Int):N5 n=Ad (Ac (0≤n∧n≤1073741824)):=by
 unfold N5;rw[Bool.decide_and]
def MI (ps:List Aw)(P:List Int)(ws:List (A1×Int)):List (A1×Int):=ws.filter λp=>!P.any λi=>Ac (p.1=(Gn ps i).aQ)
theorem VW (ps:List Aw)(i:Int)(P:List Int)(ws:List (A1×Int)):MI ps P (Gv ws (Gn ps i).aQ)=MI ps (i::P) ws:=by
 unfold MI Gv;rw[List.filter_filter];refine List.filter_congr λp _=>?_;rw[List.any_cons]
 cases Ac (p.1=(Gn ps i).aQ)<;>simp
theorem YF {x:Option α}(h:n≤1000000):Bp (H7 112 n) x=x:=C8 (AgL Ab)
theorem Zb {P:List Int}(hin:∀i∈P,CR i (Ae ps:Int)=Af)(hP:Ae P≤256):∀(d n j:Nat) (D:List AQ) (ws:List (A1×Int)),j+d=Ae P→d<n→Ae D+d≤100000→
  CQ (λσ=>Ez ps P σ.1 σ.2.1 σ.2.2) n ((j:Int),D,ws)=Ad (.go (D++(P.drop j).map (Gn ps),MI ps (P.drop j) ws)):=by
 intro d
 induction d with
 | zero=>
  intro n j D ws h hn hD;obtain⟨n,rfl⟩:∃m,n=m+1:=⟨n-1,Ab⟩
  have hb:Ez ps P (j:Int) D ws=Ad (.out (.go (D,ws))):=by unfold Ez;rw[CV (AgN Ab)]
  rw[CQ];simp only[hb];rw[List.drop_of_length_le Ab,List.map_nil,List.append_nil,show MI ps [] ws=ws from List.filter_eq_self.2 λ_ _=>rfl]
 | succ d ih=>
  intro n j D ws h hn hD;obtain⟨n,rfl⟩:∃m,n=m+1:=⟨n-1,Ab⟩
  have hj:j<Ae P:=Ab
  have hi:=hin P[j] (List.getElem_mem hj);have hb:Ez ps P (j:Int) D ws=Ad (.next (((j+1:Nat):Int),D++[Gn ps P[j]],Gv ws (Gn ps P[j]).aQ)):=by
   unfold Ez;rw[Dh (AgL Ab),HB Ab Ab,Mm hj,C8 (AgL (C7 hi).1),C8 hi,YF Am,De Ab Ab];rfl
  rw[CQ];simp only[hb];rw[ih n (j+1) _ _ Ab Ab Am,List.drop_eq_getElem_cons hj,VW,Ahf];rfl
def MJ (q:A2)(ps:List Aw)(idx:List Int)(now:Int):List Int:=MD (Qk ps) (idx.filter (Kj q ps now))
def DJ (q:A2)(ps:List Aw)(idx:List Int)(now:Int):A2:=⟨q.ae,MI ps (MJ q ps idx now) q.aj,q.a7++(MJ q ps idx now).map (Gn ps),now,q.ao⟩
def Eu (q:A2)(ps:List Aw)(idx:List Int)(now:Int):List Int:=idx.filter λi=>!Kj q ps now i
def Hh (q:A2)(now:Int):Int:=if 0≤now∧now≤1073741824 then if now<q.a6 then 11 else 0 else 2
theorem Mo (q:A2)(ps:List Aw)(idx:List Int)(now:Int):(MJ q ps idx now).Perm (idx.filter (Kj q ps now)):=GD _ _
variable{F:Nat}
theorem K2 (hF:300<F)(h:QI q ps idx)(now:Int) :
  Ix F q ps now=Ad (Hh q now,if Hh q now=0 then DJ q ps idx now else q,ps):=by
 unfold Ix Hh;rw[N4,C3 rfl]
 by_cases h1:0≤now∧now≤1073741824
 ·rw[AgL h1,CV (p:=!Af) rfl,Ahe h1]
  by_cases h2:now<q.a6
  ·rw[Dh (AgL h2),Ahe h2];rfl
  ·rw[CV (AgN h2),AgV h2,Rl h ⟨q.ae,q.aj,q.a7,now,q.ao⟩ rfl rfl,C3 rfl];have hc:=h.cnt;have hpm:=Mo q ps idx now;have hl:Ae (MJ q ps idx now)≤256:=by
    rw[hpm.length_eq];exact Nat.le_trans (List.length_filter_le _ _) Ab
   have hlop:=Zb (ps:=ps) (P:=MJ q ps idx now) (λi hi=>h.inr i (List.mem_filter.1 (hpm.subset hi)).1) hl (Ae (MJ q ps idx now)) F 0 q.a7 q.aj Ab Ab Ab;have hlop':CQ (λσ=>Ez ps (MD (Qk ps) (idx.filter (Kj q ps now))) σ.1 σ.2.1 σ.2.2) F ((0:Int),q.a7,q.aj)=_:=hlop;rw[hlop',C3 rfl,G6,List.drop_zero];rfl
 ·rw[AgN h1,Dh (p:=!Ah) rfl,AgV h1];rfl
theorem Jk {P:List Int}{over:Int→Bool}(hP:P.Perm (idx.filter over))(hids:(idx.map λi=>(Gn ps i).aQ).Nodup) :
  MI ps P (idx.map λi=>((Gn ps i).aQ,i))=(idx.filter λi=>!over i).map λi=>((Gn ps i).aQ,i):=by
 unfold MI;rw[List.filter_map]
 congr 1
 refine List.filter_congr λi hi=>?_;show(!P.any λk=>Ac ((Gn ps i).aQ=(Gn ps k).aQ)) = !over i
 congr 1
 rw[Bool.eq_iff_iff,List.any_eq_true];constructor
 ·rintro⟨k,hk,he⟩;have hk':=List.mem_filter.1 (hP.subset hk);have e:i=k:=(Lr (R:=λa b=>(Gn ps a).aQ≠(Gn ps b).aQ) (λx y h e=>h e.symm) (List.pairwise_map.1 hids) i k hi hk'.1).resolve_right (λhne=>hne (Ahi he));rw[e];exact hk'.2
 ·intro ho;exact⟨i,hP.symm.subset (List.mem_filter.2 ⟨hi,ho⟩),AgL rfl⟩
theorem Pp {P:List Int}{a b:List (A1×Int)}(h:a.Perm b):(MI ps P a).Perm (MI ps P b):=h.filter _
variable{now:Int}
theorem KX (h:QI q ps idx)(hn:0≤now∧now≤1073741824):QI (DJ q ps idx now) ps (Eu q ps idx now):=by
 have hpm:=Mo q ps idx now;have hids:(idx.map λi=>(Gn ps i).aQ).Nodup:=(List.nodup_append.1 h.ids).1;have hsub:∀i∈Eu q ps idx now,i∈idx:=λi hi=>(List.mem_filter.1 hi).1;refine⟨h.vis,h.rcs,?_,λi hi=>h.inr i (hsub i hi),h.ord.filter _,λi hi=>h.plc i (hsub i hi),?_,hn,λi hi=>h.ats i (hsub i hi),λi hi=>h.rcv i (hsub i hi),?_,λi hi=>h.sm i (hsub i hi),λe he=>?_⟩
 ·have h1:=Pp (ps:=ps) (P:=MJ q ps idx now) h.pm;have h2:=Jk (ps:=ps) hpm hids;exact h1.trans (List.Perm.of_eq h2)
 ·have h3:((Eu q ps idx now).map (λi=>(Gn ps i).aQ)++(q.a7++(MJ q ps idx now).map (Gn ps)).map (·.aQ)).Perm (idx.map (λi=>(Gn ps i).aQ)++q.a7.map (·.aQ)):=by
   rw[Ahk,Ahv];have h4:(idx.map λi=>(Gn ps i).aQ).Perm ((MJ q ps idx now).map (λi=>(Gn ps i).aQ)++(Eu q ps idx now).map λi=>(Gn ps i).aQ):=by
    rw[← Ahk];exact((List.filter_append_perm (Kj q ps now) idx).symm.trans (hpm.symm.append_right _)).map _
   refine List.Perm.symm ?_;refine(h4.append_right _).trans ?_;rw[Ahf];refine(List.perm_append_comm).trans ?_;rw[Ahf];exact AgM _
  exact h3.symm.nodup h.ids
 ·have h5:=(List.filter_append_perm (Kj q ps now) idx).length_eq;have h6:=hpm.length_eq;have hc:=h.cnt;show(Eu q ps idx now).length+Ae (q.a7++(MJ q ps idx now).map (Gn ps))≤256;rw[Ahu] at h5;rw[Ahu,AgP,h6];unfold Eu;omega
 ·rcases List.mem_append.1 he with h7 | h7
  ·exact h.smd e h7
  ·obtain⟨i,hi,rfl⟩:=List.mem_map.1 h7;exact h.sm i (List.mem_filter.1 (hpm.subset hi)).1
variable{y:Aw}
theorem QA {j:Int}(hi:CR i (Ae ps:Int)=Af)(hj:CR j (Ae ps:Int)=Af):Ax (ps.set i.toNat y) j=if j=i then y else Ax ps j:=by
 have h1:=C7 hi;have h2:=C7 hj;have l1:i.toNat<Ae ps:=Ab
 have l2:j.toNat<Ae ps:=Ab
 by_cases e:j=i
 ·subst e;rw[Ahe rfl];simp[Ax,l1]
 ·rw[AgV e];have:i.toNat≠j.toNat:=Ab
  simp[Ax,l2,List.getElem_set,this]
theorem QI.congr {ps':List Aw}(h:QI q ps idx)(hl:Ae ps'=Ae ps)(he:∀i∈idx,(Ax ps' i).ai=(Ax ps i).ai∧(Ax ps' i).ar=(Ax ps i).ar)
  (ha:∀i∈idx,0≤(Ax ps' i).aC∧(Ax ps' i).aC≤2147483648) (hr:∀i∈idx,0≤(Ax ps' i).aa∧(Ax ps' i).aa≤q.ae.aa):QI q ps' idx:=by
 have hids:idx.map (λi=>(Ax ps' i).ai.aQ)=idx.map (λi=>(Ax ps i).ai.aQ):=List.map_congr_left λi hi=>by rw[(he i hi).1]
 refine⟨h.vis,h.rcs,?_,λi hi=>by rw[hl];exact h.inr i hi,?_,λi hi=>by rw[(he i hi).2];exact h.plc i hi,by rw[hids];exact h.ids,h.now,ha,hr,h.cnt,λi hi=>?_,h.smd⟩
 ·rw[show(idx.map λi=>((Ax ps' i).ai.aQ,i))=idx.map λi=>((Ax ps i).ai.aQ,i) from List.map_congr_left λi hi=>by rw[(he i hi).1]];exact h.pm
 ·exact h.ord.imp_of_mem fun {i j} hi hj hij=>by rw[(he i hi).2,(he j hj).2];exact hij
 ·unfold Gn;rw[(he i hi).1];exact h.sm i hi
theorem QI.set (h:QI q ps idx)(hi:i∈idx)(he:y.ai=(Ax ps i).ai)(hp:y.ar=(Ax ps i).ar)(ha:0≤y.aC∧y.aC≤2147483648)(hr:0≤y.aa∧y.aa≤q.ae.aa) :
  QI q (ps.set i.toNat y) idx:=by
 refine h.congr (List.length_set ..) (λj hj=>?_) (λj hj=>?_) (λj hj=>?_)<;>rw[QA (h.inr i hi) (h.inr j hj)]<;>split
 ·rename_i e;subst e;exact⟨he,hp⟩
 ·exact⟨rfl,rfl⟩
 ·exact ha
 ·exact h.ats j hj
 ·exact hr
 ·exact h.rcv j hj
theorem Jj {T:Type}:∀{m:List (A1×T)} {k:A1} {v:T},mget m k=Ad v→(k,v)∈m
 | [],k,v,h=>by simp[mget] at h
 | p::r,k,v,h=>by
  unfold mget at h
  cases hk:Ac (p.1=k) with
  | true=>
   rw[hk] at h;have e:=Ahi hk;have e2:p.2=v:=Option.some.inj h;rw[← e,← e2];exact List.mem_cons_self ..
  | false=>
   rw[hk] at h;exact List.mem_cons_of_mem _ (Jj h)
theorem QI.get (h:QI q ps idx){k:A1}(hg:mget q.aj k=Ad i):i∈idx∧(Gn ps i).aQ=k:=by
 obtain⟨j,hj,e⟩:=List.mem_map.1 (h.pm.subset (Jj hg));injection e with e1 e2
 subst e2;exact⟨hj,e1⟩
def Tt (q:A2)(ps:List Aw)(id count:A1)(now:Int):Int×Int:=
 match mget q.aj id with
 | none=>(-1,5)
 | some i=>if ED count≠0∨D4 count<1∨(Ax ps i).aa<D4 count then(-1,5)
  else if D4 count<(Ax ps i).aa∨(Ax ps i).bc=Ah∨(Ax ps i).aC≤now then(-1,18) else(i,0)
theorem AcR {id count:A1}(h:(Tt q ps id count now).2=0):mget q.aj id=Ad (Tt q ps id count now).1:=by
 unfold Tt at *
 cases hg:mget q.aj id with
 | none=>rw[hg] at h;simp at h
 | some i=>
  rw[hg] at h;simp only at h ⊢
  split at h
  ·simp at h
  ·split at h
   ·simp at h
   ·rename_i h1 h2;rw[AgV h1,AgV h2]
variable{s:A1}
theorem Xi (h:QI q ps idx){a b:A1}{c:Bool}(hc:Xz s=Ad (a,b,c))(hb:Ae b≤1000000):TU q ps s now=Ad (Tt q ps a b now):=by
 unfold TU Tt;rw[hc,C3 rfl];simp only;rw[C8 (show H7 1 (Ae b)=Af from AgL Ab)]
 cases hg:mget q.aj a with
 | none=>
  have e1:CI q.aj a=Ah:=by unfold CI;rw[hg];rfl
  rw[e1];rfl
 | some i=>
  have e1:CI q.aj a=Af:=by unfold CI;rw[hg];rfl
  have e2:Cy q.aj a (-1)=i:=by unfold Cy;rw[hg];rfl
  obtain⟨hi,_⟩:=h.get hg;have hin:=h.inr i hi;have h0:=h.in' hi;rw[e1,e2,h0,hin];simp only[AcL,Ahl,Ahm,Ahb];rw[C8 (by cases(!(!Ac (ED b=0)))<;>cases(!Ac (D4 b<1))<;>rfl),C8 (by cases(!(!Ac (ED b=0)))<;>cases(!Ac (D4 b<1))<;>rfl),C8 rfl,C8 rfl]
  by_cases h1:ED b=0
  ·by_cases h2:D4 b<1
   ·simp[h1,h2,BX]
   ·by_cases h3:(Ax ps i).aa<D4 b
    ·simp[h1,h2,h3,BX]
    ·by_cases h4:D4 b<(Ax ps i).aa
     ·simp[h1,h2,h3,h4,BX]
     ·by_cases h5:(Ax ps i).bc=Af
      ·by_cases h6:(Ax ps i).aC≤now<;>simp[h1,h2,h3,h4,h5,h6,BX]
      ·simp[h1,h2,h3,h4,h5,BX]
  ·simp[h1,BX]
def Wp (s:A1):Int:=bif Ac (([35]:A1)=s) then 0 else Lib.indexByte s 35
def Oc (s:A1):A1×A1×Bool:=bif Ac (0≤Wp s) then(s.take (Wp s).toNat,s.drop (Wp s+1).toNat,Af) else(s,[],Ah)
theorem AcE (s:A1):Wp s<Ae s:=by
 unfold Wp
 by_cases h:([35]:A1)=s
 ·subst h;decide
 ·rw[AgN h];exact(AcM s 35).2
theorem Aac (hs:Ae s≤1000000):Xz s=Ad (Oc s):=by
 have hi:RJ s=Ad (Wp s):=by
  unfold RJ Wp
  cases Ac (([35]:A1)=s) with
  | true=>rfl
  | false=>rfl
 have hb:=AcE s;unfold Xz Xv Oc;rw[hi,C3 rfl]
 by_cases h:0≤Wp s
 ·rw[Dh (AgL h),Q3 h Ab,De Ab Ab,Q3 Ab Ab,C3 rfl,AgL h];rfl
 ·rw[CV (AgN h),C3 rfl,AgN h];rfl
theorem YB (s:A1):Ae (Oc s).2.1≤Ae s:=by
 unfold Oc
 cases Ac (0≤Wp s) with
 | true=>show(s.drop (Wp s+1).toNat).length≤Ae s;rw[List.length_drop];exact Nat.sub_le _ _
 | false=>exact Aht _
def tmQ (n:Int):Bool:=Ac (0≤n∧n≤1073741824)
def MC (q:A2)(ps:List Aw)(idx:List Int)(s:A1)(now ticks:Int):Int×Int:=
 bif tmQ ticks then if Hh q now=0 then Tt (DJ q ps idx now) ps (Oc s).1 (Oc s).2.1 now else(-1,Hh q now) else(-1,2)
def SE (q:A2)(ps:List Aw)(idx:List Int)(now ticks:Int):A2:=if tmQ ticks=Af∧Hh q now=0 then DJ q ps idx now else q
def Adz (q:A2)(ps:List Aw)(idx:List Int)(now ticks:Int):List Int:=if tmQ ticks=Af∧Hh q now=0 then Eu q ps idx now else idx
theorem LA (h:Hh q now=0):0≤now∧now≤1073741824∧q.a6≤now:=by
 unfold Hh at h
 split at h
 ·split at h
  ·simp at h
  ·rename_i h1 h2;exact⟨h1.1,h1.2,Ab⟩
 ·simp at h
theorem ZN (hF:300<F)(h:QI q ps idx)(hs:Ae s≤1000000)(now ticks:Int) :
  Xd F q ps s now ticks=Ad ((MC q ps idx s now ticks).1,(MC q ps idx s now ticks).2,SE q ps idx now ticks,ps):=by
 unfold Xd MC SE;rw[N4,C3 rfl]
 cases ht:tmQ ticks with
 | false=>
  have ht':Ac (0≤ticks∧ticks≤1073741824)=Ah:=ht;rw[ht',Dh (p:=!Ah) rfl];simp
 | true=>
  have ht':Ac (0≤ticks∧ticks≤1073741824)=Af:=ht;rw[ht',CV (p:=!Af) rfl,K2 hF h,C3 rfl]
  by_cases ha:Hh q now=0
  ·have hn:=LA ha;simp only[ha,decide_true,Ahl,if_true,and_self,Ahq];rw[CV rfl,Xi (a:=(Oc s).1) (b:=(Oc s).2.1) (c:=(Oc s).2.2) (KX h ⟨hn.1,hn.2.1⟩) (Aac hs) (Nat.le_trans (YB s) hs),C3 rfl]
  ·simp only[ha,decide_false,Ahm,Ahx,and_false,Ahq];rw[Dh rfl]
theorem AbX (h:QI q ps idx){ticks:Int}(he:(MC q ps idx s now ticks).2=0) :
  (0≤ticks∧ticks≤1073741824)∧Hh q now=0∧SE q ps idx now ticks=DJ q ps idx now∧Adz q ps idx now ticks=Eu q ps idx now∧(MC q ps idx s now ticks).1∈Eu q ps idx now:=by
 unfold MC at he ⊢
 cases ht:tmQ ticks with
 | false=>rw[ht] at he;simp at he
 | true=>
  rw[ht] at he;simp only[Ahq] at he ⊢
  by_cases ha:Hh q now=0
  ·rw[Ahe ha] at he ⊢;have hn:=LA ha;refine⟨Ahi ht,ha,?_,?_,((KX h ⟨hn.1,hn.2.1⟩).get (AcR he)).1⟩
   ·unfold SE;rw[Ahe ⟨ht,ha⟩]
   ·unfold Adz;rw[Ahe ⟨ht,ha⟩]
  ·rw[AgV ha] at he;exact absurd he ha
def rmQ (q:A2)(ps:List Aw)(i:Int):A2:=⟨q.ae,Gv q.aj (Gn ps i).aQ,q.a7,q.a6,q.ao⟩
def rmI (idx:List Int)(i:Int):List Int:=idx.filter λj=>!Ac (j=i)
theorem Ad9 (h:QI q ps idx)(hi:i∈idx):QI (rmQ q ps i) ps (rmI idx i):=by
 have hids:(idx.map λi=>(Gn ps i).aQ).Nodup:=(List.nodup_append.1 h.ids).1;have hnd:idx.Nodup:=h.ord.imp fun {a b} hab e=>by subst e;omega
 have hsub:∀j∈rmI idx i,j∈idx:=λj hj=>(List.mem_filter.1 hj).1;have hP:([i]:List Int).Perm (idx.filter λj=>Ac (j=i)):=by
  have:idx.filter (λj=>Ac (j=i))=[i]:=by
   have h1:=hnd.filter (p:=λj=>Ac (j=i));have h2:∀j∈idx.filter (λj=>Ac (j=i)),j=i:=λj hj=>Ahi (List.mem_filter.1 hj).2;have h3:i∈idx.filter (λj=>Ac (j=i)):=List.mem_filter.2 ⟨hi,AgL rfl⟩
   match hl:idx.filter (λj=>Ac (j=i)) with
   | []=>rw[hl] at h3;cases h3
   | [a]=>rw[hl] at h2;rw[h2 a Aj]
   | a::b::r=>
    rw[hl] at h1 h2;have e1:=h2 a Aj;have e2:=h2 b Aj;have h4:=(List.pairwise_cons.1 h1).1 b Aj;exact absurd (e1.trans e2.symm) h4
  rw[this]
 have hdel:Gv q.aj (Gn ps i).aQ=MI ps [i] q.aj:=by
  unfold Gv MI;exact List.filter_congr λp _=>by simp
 refine⟨h.vis,h.rcs,?_,λj hj=>h.inr j (hsub j hj),h.ord.filter _,λj hj=>h.plc j (hsub j hj),?_,h.now,λj hj=>h.ats j (hsub j hj),λj hj=>h.rcv j (hsub j hj),?_,λj hj=>h.sm j (hsub j hj),h.smd⟩
 ·show(Gv q.aj (Gn ps i).aQ).Perm _;rw[hdel];exact(Pp h.pm).trans (List.Perm.of_eq (Jk hP hids))
 ·exact h.ids.sublist (((List.filter_sublist).map _).append_right _)
 ·have:Ae (rmI idx i)≤Ae idx:=List.length_filter_le _ _;have:=h.cnt;show(rmI idx i).length+Ae q.a7≤256;omega
theorem SL (hF:300<F)(h:QI q ps idx)(hs:Ae s≤1000000)(now:Int) :
  GR F q ps s now=Ad ((MC q ps idx s now 0).2,if (MC q ps idx s now 0).2=0 then rmQ (SE q ps idx now 0) ps (MC q ps idx s now 0).1 else SE q ps idx now 0,ps):=by
 unfold GR;rw[ZN hF h hs,C3 rfl];simp only
 by_cases he:(MC q ps idx s now 0).2=0
 ·obtain⟨_,ha,e1,e2,hi⟩:=AbX h he;have hn:=LA ha;have hq:=KX h ⟨hn.1,hn.2.1⟩;rw[Dh (AgL he),C8 (hq.in' hi),C8 (hq.inr _ hi),Ahe he];rfl
 ·rw[CV (AgN he),AgV he]
def QB (n:Nat)(q:A2)(ps:List Aw):Prop:=0≤q.ao∧q.ao≤(n:Int)∧Ae ps≤n
theorem HK {T:Type}:∀{m:List (A1×T)} {k:A1},CI m k=Ah→∀p∈m,p.1≠k
 | [],k,_,p,hp=>by cases hp
 | a::r,k,h,p,hp=>by
  unfold CI mget at h
  cases hk:Ac (a.1=k) with
  | true=>rw[hk] at h;cases h
  | false=>
   rw[hk] at h;rcases List.mem_cons.1 hp with e | hp
   ·subst e;exact of_decide_eq_false hk
   ·exact HK (m:=r) h p hp
def O5 (e:AQ)(t arr:Int):Aw:=⟨e,t,0,Ah,arr⟩
def Abl (q:A2)(ps:List Aw)(D:List AQ)(e:AQ):A2:=⟨q.ae,Cj q.aj e.aQ (Ae ps:Int),D,q.a6,q.ao+1⟩
theorem YY (hi:CR i (Ae ps:Int)=Af):Ax (ps++[y]) i=Ax ps i:=by
 have h1:=C7 hi;have l1:i.toNat<Ae ps:=Ab
 simp[Ax,Ahj l1]
theorem UH:Ax (ps++[y]) (Ae ps:Int)=y:=by simp[Ax]
theorem Adf (h:QI q ps idx){D:List AQ}{e:AQ}{t:Int}(hs:SmE e)(ht:0≤t∧t≤2147483648)
  (hid:(e.aQ::(idx.map (λi=>(Ax ps i).ai.aQ)++D.map (·.aQ))).Nodup) (hD:∀x∈D,SmE x) (hc:Ae idx+1+Ae D≤256) :
  QI (Abl q ps D e) (ps++[O5 e t q.ao]) (idx++[(Ae ps:Int)]):=by
 have hold:∀i∈idx,Ax (ps++[O5 e t q.ao]) i=Ax ps i:=λi hi=>YY (h.inr i hi);have hnew:=UH (ps:=ps) (y:=O5 e t q.ao);have hnot:e.aQ ∉ idx.map (λi=>(Ax ps i).ai.aQ):=λhm=>(List.nodup_cons.1 hid).1 (List.mem_append_left _ hm);have hh:CI q.aj e.aQ=Ah:=by
  cases hx:CI q.aj e.aQ with
  | false=>rfl
  | true=>
   unfold CI at hx;obtain⟨i,hi⟩:=Option.isSome_iff_exists.1 hx;obtain⟨h1,h2⟩:=h.get hi;exact absurd (List.mem_map.2 ⟨i,h1,h2⟩) hnot
 have hms:(Cj q.aj e.aQ (Ae ps:Int)).Perm ((e.aQ,(Ae ps:Int))::q.aj):=by
  unfold Cj;rw[hh];exact HY _ _ _
 have hmap:(idx++[(Ae ps:Int)]).map (λi=>((Ax (ps++[O5 e t q.ao]) i).ai.aQ,i))=idx.map (λi=>((Ax ps i).ai.aQ,i))++[(e.aQ,(Ae ps:Int))]:=by
  rw[Ahk,Ahp,List.map_nil,hnew]
  congr 1
  exact List.map_congr_left λi hi=>by rw[hold i hi]
 have hids:(idx++[(Ae ps:Int)]).map (λi=>(Ax (ps++[O5 e t q.ao]) i).ai.aQ)=idx.map (λi=>(Ax ps i).ai.aQ)++[e.aQ]:=by
  rw[Ahk,Ahp,List.map_nil,hnew]
  congr 1
  exact List.map_congr_left λi hi=>by rw[hold i hi]
 have hmem:∀i∈idx++[(Ae ps:Int)],i∈idx∨i=(Ae ps:Int):=λi hi=>by simpa using hi
 refine⟨h.vis,h.rcs,?_,?_,?_,?_,?_,h.now,?_,?_,?_,?_,hD⟩
 ·rw[hmap];exact hms.trans ((AgR _ h.pm).trans (List.perm_append_comm (l₁:=[(e.aQ,(Ae ps:Int))])))
 ·intro i hi;rcases hmem i hi with h1 | h1
  ·have:=C7 (h.inr i h1);exact AcK Ab Am
  ·subst h1;exact AcK Ab Am
 ·rw[List.pairwise_append];refine⟨h.ord.imp_of_mem fun {i j} hi hj hij=>by rw[hold i hi,hold j hj];exact hij,List.pairwise_singleton _ _,λi hi j hj=>?_⟩;rw[List.mem_singleton.1 hj,hold i hi,hnew];exact h.plc i hi
 ·intro i hi;rcases hmem i hi with h1 | h1
  ·rw[hold i h1];have:=h.plc i h1;show _<q.ao+1;omega
  ·subst h1;rw[hnew];show q.ao<q.ao+1;omega
 ·rw[hids,Ahf];exact(List.perm_middle (a:=e.aQ) (l₁:=idx.map λi=>(Ax ps i).ai.aQ) (l₂:=D.map (·.aQ))).symm.nodup hid
 ·intro i hi;rcases hmem i hi with h1 | h1
  ·rw[hold i h1];exact h.ats i h1
  ·subst h1;rw[hnew];exact ht
 ·intro i hi;rcases hmem i hi with h1 | h1
  ·rw[hold i h1];exact h.rcv i h1
  ·subst h1;rw[hnew];have:=h.rcs;show(0:Int)≤0∧(0:Int)≤q.ae.aa;omega
 ·show(idx++[(Ae ps:Int)]).length+Ae D≤256;simp;omega
 ·intro i hi;rcases hmem i hi with h1 | h1
  ·unfold Gn;rw[hold i h1];exact h.sm i h1
  ·subst h1;unfold Gn;rw[hnew];exact hs
theorem ZT (hb:QB n q ps)(hn:n≤1000000)(e:AQ)(t:Int):Xj q ps e t=Ad (Abl q ps q.a7 e,ps++[O5 e t q.ao]):=by
 unfold Xj;obtain⟨h1,h2,_⟩:=hb;rw[De Ab Ab];rfl
theorem Yi {ys:List AQ}{id:A1}(hF:Ae ys<F)(hl:Ae ys≤1000000):∃k,Uu F ys id=Ad k∧Ac (0≤k)=ys.any λe=>Ac (e.aQ=id):=by
 have key:∀(d n i:Nat),i+d=Ae ys→d<n→∃o,CQ (λσ=>EE ys id σ) n (i:Int)=Ad o∧∃k,CT (λ_=>Jp) o=Ad k∧Ac (0≤k)=(ys.drop i).any λe=>Ac (e.aQ=id):=by
  intro d
  induction d with
  | zero=>
   intro n i h hn;obtain⟨n,rfl⟩:∃m,n=m+1:=⟨n-1,Ab⟩
   have hb:EE ys id (i:Int)=Ad (.out (.go ())):=by unfold EE;rw[CV (AgN Ab)]
   refine⟨.go (),by rw[CQ];simp only[hb],-1,rfl,?_⟩;rw[List.drop_of_length_le Ab];rfl
  | succ d ih=>
   intro n i h hn;obtain⟨n,rfl⟩:∃m,n=m+1:=⟨n-1,Ab⟩
   have hi:i<Ae ys:=Ab
   have hd:=List.drop_eq_getElem_cons hi
   cases hq:Ac (ys[i].aQ=id) with
   | true=>
    have hb:EE ys id (i:Int)=Ad (.out (.ret (i:Int))):=by
     unfold EE Rn;rw[Dh (AgL Ab),HB Ab Ab,Mm hi,C3 rfl,Dh hq]
    refine⟨.ret (i:Int),by rw[CQ];simp only[hb],(i:Int),rfl,?_⟩;rw[hd,List.any_cons,hq,Ahw];exact AgL Ab
   | false=>
    have hb:EE ys id (i:Int)=Ad (.next ((i+1:Nat):Int)):=by
     unfold EE Rn;rw[Dh (AgL Ab),HB Ab Ab,Mm hi,C3 rfl,CV hq,De Ab Ab];rfl
    obtain⟨o,h1,k,h2,h3⟩:=ih n (i+1) Ab Ab;refine⟨o,by rw[CQ];simp only[hb];exact h1,k,h2,?_⟩;rw[h3,hd,List.any_cons,hq,Ahb]
 obtain⟨o,h1,k,h2,h3⟩:=key (Ae ys) F 0 Ab hF;refine⟨k,?_,by rw[h3,List.drop_zero]⟩;unfold Uu;have h1':CQ (λσ=>EE ys id σ) F 0=Ad o:=h1;rw[C3 h1',h2]
def O0 (q:A2)(id:A1):Bool:=CI q.aj id||q.a7.any λe=>Ac (e.aQ=id)
theorem TT (hF:300<F)(h:QI q ps idx)(id:A1):SK F q ps id=Ad (O0 q id):=by
 have hc:=h.cnt;obtain⟨k,h1,h2⟩:=Yi (F:=F) (ys:=q.a7) (id:=id) Ab Ab;unfold SK O0 JC YG
 cases CI q.aj id with
 | true=>rfl
 | false=>rw[CV rfl,h1,C3 rfl,C3 rfl,h2];rfl
theorem U2 (h:QI q ps idx)(id:A1):O0 q id=Af↔id∈idx.map (λi=>(Ax ps i).ai.aQ)++q.a7.map (·.aQ):=by
 unfold O0;rw[AgZ,List.mem_append];refine or_congr ⟨λhx=>?_,λhx=>?_⟩ ⟨λhx=>?_,λhx=>?_⟩
 ·unfold CI at hx;obtain⟨i,hi⟩:=Option.isSome_iff_exists.1 hx;obtain⟨h1,h2⟩:=h.get hi;exact List.mem_map.2 ⟨i,h1,h2⟩
 ·obtain⟨i,hi,e⟩:=List.mem_map.1 hx
  cases hm:CI q.aj id with
  | true=>rfl
  | false=>exact absurd e (HK hm _ (h.pm.symm.subset (List.mem_map.2 ⟨i,hi,rfl⟩)))
 ·obtain⟨e,he,h1⟩:=List.any_eq_true.1 hx;exact List.mem_map.2 ⟨e,he,Ahi h1⟩
 ·obtain⟨e,he,h1⟩:=List.mem_map.1 hx;exact List.any_eq_true.2 ⟨e,he,AgL h1⟩
def OkE (e:AQ):Prop:=∀c∈e.aM,Dc .i64 c.aW=Af∧c.fN≤9223372036854775807
theorem Rr {e:AQ}(h:MP e=Af):Ae e.aQ≤300∧Ae e.aM≤300:=by
 unfold MP AeJ at h;simp only[AgO,Ahh,Aho,AgW] at h;exact⟨Ab,Ab⟩
theorem TS {e:AQ}(h:Ae e.aM≤300):SJ e=Ad e:=by
 unfold SJ Jz;rw[C8 (show H7 40 (Ae ([]:List AJ)+Ae e.aM)=Af from AgL Am),C3 rfl];rfl
def Pi (q:A2):Bool:=Ac (256≤Ae q.aj+Ae q.a7)
def Acm (q:A2)(ps:List Aw)(idx:List Int)(e:AQ)(now d x:Int):Int×A2×List Aw:=
 if tmQ d=Af then if Hh q now=0 then
  if x=0 then if O0 (DJ q ps idx now) e.aQ=Af then(6,DJ q ps idx now,ps) else if Pi (DJ q ps idx now)=Af then(3,DJ q ps idx now,ps)
   else(0,Abl (DJ q ps idx now) ps (DJ q ps idx now).a7 e,ps++[O5 e (now+d) q.ao])
  else(x,DJ q ps idx now,ps) else(Hh q now,q,ps) else(2,q,ps)
variable{x:Int}
theorem Xe (hF:5000<F)(h:QI q ps idx)(hb:QB n q ps)(hn:n≤1000000){e:AQ}(hs:MP e=Af)(ho:OkE e)(now d:Int)(hx:KK F e=Ad x) :
  N6 F q ps e now d=Ad (Acm q ps idx e now d x):=by
 unfold N6 Acm;rw[N4,C3 rfl]
 cases ht:tmQ d with
 | false=>
  have ht':Ac (0≤d∧d≤1073741824)=Ah:=ht;rw[ht',Dh (p:=!Ah) rfl];simp
 | true=>
  have ht':Ac (0≤d∧d≤1073741824)=Af:=ht;have htd:=Ahi ht';rw[ht',CV (p:=!Af) rfl,K2 Ab h,C3 rfl,Ahe rfl]
  by_cases ha:Hh q now=0
  ·have hnw:=LA ha;have hq:=KX h ⟨hnw.1,hnw.2.1⟩;have hqb:QB n (DJ q ps idx now) ps:=hb;simp only[ha,decide_true,Ahl,if_true];rw[CV rfl,hx,C3 rfl]
   by_cases hx0:x=0
   ·rw[Ahe hx0,hx0,CV (p:=!Ac ((0:Int)=0)) Al,TT Ab hq,C3 rfl]
    cases hh:O0 (DJ q ps idx now) e.aQ with
    | true=>rw[Dh rfl,Ahe rfl]
    | false=>
     have hw:=hq.wlen;have hc:=hq.cnt;rw[CV rfl,AgV Aj,De Ab Ab];have hfu:Ac ((256:Int)≤((Ae (DJ q ps idx now).aj:Int)+(Ae (DJ q ps idx now).a7:Int)))=Pi (DJ q ps idx now):=by
      unfold Pi;rw[Bool.eq_iff_iff];simp only[AgQ];omega
     rw[hfu]
     cases Pi (DJ q ps idx now) with
     | true=>rw[Dh rfl,Ahe rfl]
     | false=>
      rw[CV rfl,AgV Aj,TS (Rr hs).2,C3 rfl,De Ab Ab,ZT hqb hn,C3 rfl];rfl
   ·rw[AgV hx0,Dh (by simp[hx0])]
  ·simp only[ha,decide_false,Ahm,Ahx];rw[Dh rfl]
theorem Abk (hi:CR i (Ae ps:Int)=Af):Ax (ps.set i.toNat y) i=y:=by rw[QA hi hi,Ahe rfl]
theorem YD {x:Option α}:Bp Af x=x:=rfl
def Jf (x:Aw)(t:Int):Aw:=⟨x.ai,t,x.aa+1,Af,x.ar⟩
def IP (x:Aw):A1:=(x.ai.aQ++[35])++Lib.itoa x.aa
def NZ (x:Aw):B7:=⟨IP x,x.ai,x.aa⟩
theorem YE {x:Option α}(h:n≤1000000):Bp (H7 136 n) x=x:=C8 (AgL Ab)
theorem Rj (hi:CR i (Ae ps:Int)=Af)(hs:Ae (Ax ps i).ai.aQ≤300)(hr:0≤(Ax ps i).aa∧(Ax ps i).aa≤1000):HX i ps=Ad (IP (Ax ps i)):=by
 unfold HX;have h1:=RK (Ax ps i).aa Ab Ab;rw[C8 (AgL (C7 hi).1),C8 hi,De (by simp only[List.length_singleton];omega) (by simp only[List.length_singleton];omega),De Ab Ab,De (by simp only[Ahu,List.length_singleton];omega) (by simp only[Ahu,List.length_singleton];omega)];rfl
theorem X5 {most:Int}{r2:Int×A2×List Aw}{P:List Int}{j:Nat}{out:List B7}(hj:j<Ae P)(hP:Ae P≤256)(hi:CR P[j] (Ae ps:Int)=Af)(hs:SmE (Gn ps P[j]))(hr:0≤(Ax ps P[j]).aa∧(Ax ps P[j]).aa≤100)
  (ht : -10000000000≤now+r2.2.1.ae.ah∧now+r2.2.1.ae.ah≤10000000000) (ho:Ae out≤256) :
  Ef now most r2 P out (j:Int) ps=Ad (if most≤(Ae out:Int) then .out (.go (out,ps)) else .next (out++[NZ (Jf (Ax ps P[j]) (now+r2.2.1.ae.ah))],((j+1:Nat):Int),ps.set P[j].toNat (Jf (Ax ps P[j]) (now+r2.2.1.ae.ah)))):=by
 unfold Ef;rw[Dh (AgL Ab),HB Ab Ab,Mm hj]
 by_cases hm:most≤(Ae out:Int)
 ·rw[Dh (AgL hm),Ahe hm]
 ·rw[CV (AgN hm),AgV hm];generalize P[j]=i at hi hs hr ⊢;have hself:∀(y:Aw),Ax (ps.set i.toNat y) i=y:=λy=>Abk hi;rw[C8 (AgL (C7 hi).1),C8 hi,De Ab Ab];simp only[Oi,List.length_set,List.set_set,hself,hi,YD];rw[De Ab Ab];have hrc:HX i (ps.set i.toNat (Jf (Ax ps i) (now+r2.2.1.ae.ah)))=Ad (IP (Jf (Ax ps i) (now+r2.2.1.ae.ah))):=by
   have:=Rj (ps:=ps.set i.toNat (Jf (Ax ps i) (now+r2.2.1.ae.ah))) (i:=i) (by rw[List.length_set];exact hi) (by rw[hself];exact hs.1) (by rw[hself];show 0≤(Ax ps i).aa+1∧(Ax ps i).aa+1≤1000;omega);rw[hself] at this;exact this
  have hrc':HX i (ps.set i.toNat ⟨(Ax ps i).ai,now+r2.2.1.ae.ah,(Ax ps i).aa+1,Af,(Ax ps i).ar⟩)=Ad (IP (Jf (Ax ps i) (now+r2.2.1.ae.ah))):=hrc;have hown:SJ (Ax ps i).ai=Ad (Ax ps i).ai:=TS hs.2.1;rw[hrc',C3 rfl,hown,C3 rfl,YE Am,De Ab Ab];rfl
def Jg (t:Int):List Int→List Aw→List Aw
 | [],ps=>ps
 | i::L,ps=>Jg t L (ps.set i.toNat (Jf (Ax ps i) t))
def Iz (t:Int)(ps:List Aw)(L:List Int):List B7:=L.map λi=>NZ (Jf (Ax ps i) t)
theorem Vs {P:List Int}{most:Int}{r2:Int×A2×List Aw}(hr2:r2.2.1.ae=q.ae)(hnd:P.Nodup)(hsub:∀i∈P,i∈idx)(hP:Ae P≤256)(hnow:0≤now∧now≤1073741824) :
  ∀(d n j:Nat) (out:List B7) (ps:List Aw),j+d=Ae P→d<n→QI q ps idx→Ae out≤j→(∀i∈P.drop j,(Ax ps i).aa<q.ae.aa)→
   CQ (λσ=>Ef now most r2 P σ.1 σ.2.1 σ.2.2) n (out,(j:Int),ps)=Ad (.go (out++Iz (now+q.ae.ah) ps ((P.drop j).take (most.toNat-Ae out)),Jg (now+q.ae.ah) ((P.drop j).take (most.toNat-Ae out)) ps))∧QI q (Jg (now+q.ae.ah) ((P.drop j).take (most.toNat-Ae out)) ps) idx:=by
 intro d
 induction d with
 | zero=>
  intro n j out ps h hn hq ho hr;obtain⟨n,rfl⟩:∃m,n=m+1:=⟨n-1,Ab⟩
  have hb:Ef now most r2 P out (j:Int) ps=Ad (.out (.go (out,ps))):=by unfold Ef;rw[CV (AgN Ab)]
  rw[List.drop_of_length_le Ab,List.take_nil];exact⟨by rw[CQ];simp only[hb];rw[show Iz (now+q.ae.ah) ps []=[] from rfl,List.append_nil];rfl,hq⟩
 | succ d ih=>
  intro n j out ps h hn hq ho hr;obtain⟨n,rfl⟩:∃m,n=m+1:=⟨n-1,Ab⟩
  have hj:j<Ae P:=Ab
  have hd:=List.drop_eq_getElem_cons hj;have hm:P[j]∈idx:=hsub _ (List.getElem_mem hj);have hrj:=hr P[j] (by rw[hd];exact List.mem_cons_self ..);have hrc:=hq.rcv _ hm;have hpol:=hq.rcs;have hvis:=hq.vis;have hb:=X5 (now:=now) (most:=most) (r2:=r2) (out:=out) hj hP (hq.inr _ hm) (hq.sm _ hm) ⟨hrc.1,Ab⟩ (by rw[hr2];omega) Ab;rw[hr2] at hb
  by_cases hmo:most≤(Ae out:Int)
  ·rw[Ahe hmo] at hb;rw[show most.toNat-Ae out=0 from Ab,List.take_zero];exact⟨by rw[CQ];simp only[hb];rw[show Iz (now+q.ae.ah) ps []=[] from rfl,List.append_nil];rfl,hq⟩
  ·rw[AgV hmo] at hb;have hq':QI q (ps.set P[j].toNat (Jf (Ax ps P[j]) (now+q.ae.ah))) idx:=hq.set hm rfl rfl (by show 0≤now+q.ae.ah∧now+q.ae.ah≤2147483648;omega) (by show 0≤(Ax ps P[j]).aa+1∧(Ax ps P[j]).aa+1≤q.ae.aa;omega);have hsame:∀i∈P.drop (j+1),Ax (ps.set P[j].toNat (Jf (Ax ps P[j]) (now+q.ae.ah))) i=Ax ps i:=λi hi=>by
    have hii:i∈P.drop j:=by rw[hd];exact List.mem_cons_of_mem _ hi
    have hne:i≠P[j]:=λe=>by
     have hnd':(P.drop j).Nodup:=hnd.sublist (List.drop_sublist _ _);rw[hd,List.nodup_cons] at hnd';exact hnd'.1 (e▸hi)
    rw[QA (hq.inr _ hm) (hq.inr i (hsub i (List.mem_of_mem_drop hii))),AgV hne]
   obtain⟨h1,h2⟩:=ih n (j+1) (out++[NZ (Jf (Ax ps P[j]) (now+q.ae.ah))]) _ Ab Ab hq' Am (λi hi=>by
    rw[hsame i hi];exact hr i (by rw[hd];exact List.mem_cons_of_mem _ hi))
   have hk:most.toNat-Ae out=(most.toNat-(Ae out+1))+1:=Ab
   have hlen:Ae (out++[NZ (Jf (Ax ps P[j]) (now+q.ae.ah))])=Ae out+1:=Aj
   rw[hlen] at h1 h2;have hout:Iz (now+q.ae.ah) (ps.set P[j].toNat (Jf (Ax ps P[j]) (now+q.ae.ah))) ((P.drop (j+1)).take (most.toNat-(Ae out+1)))=Iz (now+q.ae.ah) ps ((P.drop (j+1)).take (most.toNat-(Ae out+1))):=
    List.map_congr_left λi hi=>by rw[hsame i (List.mem_of_mem_take hi)]
   rw[hk,hd,List.take_succ_cons];refine⟨?_,h2⟩;rw[CQ];simp only[hb];rw[h1,hout,Ahf];rfl
def Ow (q:A2)(ps:List Aw)(idx:List Int)(now most:Int):List Int:=(MD (Qk ps) ((Eu q ps idx now).filter (MB ps now))).take most.toNat
theorem Ri (hF:300<F)(h:QI q ps idx)(now most:Int) :
  HW F q ps now most=Ad (if Hh q now=0 then(Iz (now+q.ae.ah) ps (Ow q ps idx now most),DJ q ps idx now,Jg (now+q.ae.ah) (Ow q ps idx now most) ps) else([],q,ps))∧
  (Hh q now=0→QI (DJ q ps idx now) (Jg (now+q.ae.ah) (Ow q ps idx now most) ps) (Eu q ps idx now)):=by
 unfold HW;rw[K2 hF h,C3 rfl]
 by_cases ha:Hh q now=0
 ·have hn:=LA ha;have hq:=KX h ⟨hn.1,hn.2.1⟩;simp only[ha,decide_true,Ahl,if_true];rw[CV rfl,Rk hq,C3 rfl];have hpm:=GD (Qk ps) ((Eu q ps idx now).filter (MB ps now));have hsub:∀i∈MD (Qk ps) ((Eu q ps idx now).filter (MB ps now)),i∈Eu q ps idx now:=λi hi=>(List.mem_filter.1 (hpm.subset hi)).1;have hnd:(MD (Qk ps) ((Eu q ps idx now).filter (MB ps now))).Nodup:=hpm.symm.nodup ((hq.ord.imp fun {a b} hab e=>by subst e;omega:(Eu q ps idx now).Nodup).filter _);have hc:=hq.cnt;have hl:Ae (MD (Qk ps) ((Eu q ps idx now).filter (MB ps now)))≤256:=by
   rw[hpm.length_eq];exact Nat.le_trans (List.length_filter_le _ _) Ab
  obtain⟨h1,h2⟩:=Vs (q:=DJ q ps idx now) (idx:=Eu q ps idx now) (now:=now) (most:=most) (r2:=(0,DJ q ps idx now,ps)) rfl hnd hsub hl ⟨hn.1,hn.2.1⟩ (Ae (MD (Qk ps) ((Eu q ps idx now).filter (MB ps now)))) F 0 [] ps Ab Ab hq Aj (λi hi=>by
   rw[List.drop_zero] at hi;have h4:=List.mem_filter.1 (hpm.subset hi);have h5:=(List.mem_filter.1 h4.1).2;have h6:MB ps now i=Af:=h4.2;unfold Kj at h5;unfold MB at h6;rw[h6] at h5;simp only[Ahr,Ahh,AgW] at h5;show(Ax ps i).aa<q.ae.aa;omega)
  rw[List.drop_zero] at h1 h2;have h1':CQ (λσ=>Ef now most (0,DJ q ps idx now,ps) (MD (Qk ps) ((Eu q ps idx now).filter (MB ps now))) σ.1 σ.2.1 σ.2.2) F (([]:List B7),0,ps)=_:=h1;rw[h1',C3 rfl,G6];exact⟨rfl,λ_=>h2⟩
 ·simp only[ha,decide_false,Ahm,Ahx];rw[Dh rfl];exact⟨rfl,λe=>absurd e Aj⟩
theorem X6 {t:Int}:∀{L:List Int} {ps:List Aw},L.Nodup→(∀i∈L,CR i (Ae ps:Int)=Af)→∀{j:Int},CR j (Ae ps:Int)=Af→Ax (Jg t L ps) j=if j∈L then Jf (Ax ps j) t else Ax ps j
 | [],ps,_,_,j,hj=>by simp[Jg]
 | i::L,ps,hn,hi,j,hj=>by
  rw[List.nodup_cons] at hn;have h1:=hi i (List.mem_cons_self ..);have hl:Ae (ps.set i.toNat (Jf (Ax ps i) t))=Ae ps:=List.length_set ..;rw[Jg,X6 hn.2 (λk hk=>by rw[hl];exact hi k (List.mem_cons_of_mem _ hk)) (by rw[hl];exact hj),QA h1 hj]
  by_cases e:j=i
  ·subst e;rw[AgV hn.1,Ahe rfl,Ahe (List.mem_cons_self ..)]
  ·rw[AgV e]
   by_cases hm:j∈L
   ·rw[Ahe hm,Ahe (List.mem_cons_of_mem _ hm)]
   ·rw[AgV hm,AgV (λh=>by rcases List.mem_cons.1 h with h | h;exact e h;exact hm h)]
theorem NE (h:QI q ps idx)(now most:Int):(Ow q ps idx now most).Nodup∧∀i∈Ow q ps idx now most,i∈Eu q ps idx now∧MB ps now i=Af:=by
 have hpm:=GD (Qk ps) ((Eu q ps idx now).filter (MB ps now));have hnd:idx.Nodup:=h.ord.imp fun {a b} hab e=>by subst e;omega
 refine⟨(hpm.symm.nodup ((hnd.filter _).filter _)).sublist (List.take_sublist _ _),λi hi=>?_⟩;exact List.mem_filter.1 (hpm.subset (List.mem_of_mem_take hi))
theorem AaO (i:Nat):Mf i 35=Ah:=by
 cases i<;>rfl
theorem Ok {f:Nat→UInt8→Bool}(hf:∀i,f i 35=Ah):∀(p:A1) (k:Nat),C4 f k p=Af→(35:UInt8) ∉ p
 | [],_,_=>by simp
 | c::r,k,h=>by
  simp only[C4,AgO] at h;intro hm;rcases List.mem_cons.1 hm with e | hm
  ·rw[← e,hf] at h;cases h.1
  ·exact Ok hf r (k+1) h.2 hm
theorem AcO {p:A1}(h:Hk p=Af):(35:UInt8) ∉ p∧p≠[]:=by
 unfold Hk at h;simp only[AgO,AgQ] at h;exact⟨Ok AaO p 0 h.1.1,λe=>by rw[e] at h;simp at h⟩
theorem Pg:∀(p r:A1),(35:UInt8) ∉ p→Lib.indexByte (p++35::r) 35=(Ae p:Int)
 | [],r,_=>rfl
 | c::p,r,h=>by
  have hc:(c ==35)=Ah:=by
   rw[beq_eq_false_iff_ne];intro e;exact h (by rw[e];exact List.mem_cons_self ..)
  have ih:=Pg p r λhm=>h (List.mem_cons_of_mem _ hm);show(if (c ==35)=Af then(0:Int) else if (Lib.indexByte (p++35::r) 35 == -1)=Af then -1 else Lib.indexByte (p++35::r) 35+1)=_;rw[hc,ih,AgV Aj,AgV Aj];simp
theorem YA {x:Aw}(h:Hk x.ai.aQ=Af):Oc (IP x)=(x.ai.aQ,Lib.itoa x.aa,Af):=by
 obtain⟨h1,h2⟩:=AcO h;have e:IP x=x.ai.aQ++35::Lib.itoa x.aa:=by unfold IP;rw[Ahf];rfl
 have hix:Wp (IP x)=(Ae x.ai.aQ:Int):=by
  unfold Wp;have hne : ¬ ([35]:A1)=IP x:=λe2=>by
   rw[e] at e2
   cases hp:x.ai.aQ with
   | nil=>exact h2 hp
   | cons c r=>
    rw[hp] at e2 h1;simp only[List.cons_append,List.cons.injEq] at e2;exact h1 (by rw[← e2.1];exact List.mem_cons_self ..)
  rw[AgN hne,e,Pg _ _ h1];rfl
 unfold Oc;rw[hix,AgL Ab];show((IP x).take ((Ae x.ai.aQ:Int)).toNat,(IP x).drop ((Ae x.ai.aQ:Int)+1).toNat,Af)=_;rw[show((Ae x.ai.aQ:Int)).toNat=Ae x.ai.aQ from Ab,show((Ae x.ai.aQ:Int)+1).toNat=Ae x.ai.aQ+1 from Ab,e,List.take_left' rfl,List.drop_append];simp
theorem QI.idne (h:QI q ps idx){j:Int}(hi:i∈idx)(hj:j∈idx)(he:(Gn ps i).aQ=(Gn ps j).aQ):i=j:=by
 have hids:(idx.map λi=>(Gn ps i).aQ).Nodup:=(List.nodup_append.1 h.ids).1;exact(Lr (R:=λa b=>(Gn ps a).aQ≠(Gn ps b).aQ) (λx y h e=>h e.symm) (List.pairwise_map.1 hids) i j hi hj).resolve_right (λhne=>hne he)
theorem QI.mget {q:A2}{ps:List Aw}{idx:List Int}(h:QI q ps idx){i:Int}(hi:i∈idx):mget q.aj (Gn ps i).aQ=Ad i:=by
 have hm:((Gn ps i).aQ,i)∈q.aj:=h.pm.symm.subset (List.mem_map.2 ⟨i,hi,rfl⟩)
 cases hg:Go.Proofs.YtinflkgbhkcfnaaGreatDoor.mget q.aj (Gn ps i).aQ with
 | none=>exact absurd rfl (HK (by unfold CI;rw[hg];rfl) _ hm)
 | some j=>
  obtain⟨hj,he⟩:=h.get hg;rw[h.idne hj hi he]
theorem Ol (h0:0≤q.a6):Hh q now=0↔q.a6≤now∧now≤1073741824:=by
 unfold Hh;constructor
 ·intro h
  split at h
  ·split at h
   ·simp at h
   ·omega
  ·simp at h
 ·intro h;rw[Ahe Ab,AgV Ab]
theorem YX (h:QI q ps idx){most t j:Int}(hj:j∈idx):Ax (Jg t (Ow q ps idx now most) ps) j=if j∈Ow q ps idx now most then Jf (Ax ps j) t else Ax ps j:=by
 obtain⟨h1,h2⟩:=NE h now most;exact X6 h1 (λi hi=>h.inr i (List.mem_filter.1 (h2 i hi).1).1) (h.inr j hj)
theorem Yq:Hk ([100]:A1)=Af:=by decide +kernel
variable{t:Bl}
theorem Tl (h0:0≤now∧now≤1073741824)(h:t.a6≤now):jAt t now=Ad 0:=by
 unfold jAt;rw[CV Am,CV Am]
theorem NO (h:∀p∈t.ag,now<p.2.aB):Pe t now=Ad ⟨t.aI,t.aN,now,t.ag⟩:=by
 unfold Pe;refine Ta λo ho=>?_;have key:∀l:List (A1×AA),(∀p∈l,now<p.2.aB)→Mc (λpe (_:Unit)=>He now pe.1 pe.2) l ()=Ad (.go ()):=by
  intro l
  induction l with
  | nil=>intro _;rfl
  | cons p r ih=>
   intro hl;have hb:He now p.1 p.2=Ad (.next ()):=by
    unfold He;rw[C8 (by simp;exact hl p (List.mem_cons_self ..))]
   rw[Mc,hb];exact ih λq hq=>hl q (List.mem_cons_of_mem _ hq)
 rw[key o λp hp=>h p (ho.subset hp),C3 rfl,G6];rfl
def VH (rs:List (A1×AA))(now:Int):Nat:=Ae (rs.filter λp=>Ac (now<p.2.aB))
theorem Tj (hl:Ae t.ag≤100000):L0 t now=Ad (VH t.ag now:Int):=by
 unfold L0;refine Ta λo ho=>?_;have key:∀(l:List (A1×AA)) (n:Nat),n+Ae l≤100000→Mc (λpe τ=>Ej now pe.1 pe.2 τ) l (n:Int)=Ad (.go ((n+VH l now:Nat):Int)):=by
  intro l
  induction l with
  | nil=>intro n _;rfl
  | cons p r ih=>
   intro n hn;simp only[Ahc] at hn
   by_cases hp:now<p.2.aB
   ·have hb:Ej now p.1 p.2 (n:Int)=Ad (.next ((n+1:Nat):Int)):=by
     unfold Ej;rw[Dh (AgL hp),De Ab Ab];rfl
    rw[Mc,hb];have:=ih (n+1) Ab;simp only[this];unfold VH;rw[List.filter_cons_of_pos (by simpa using hp),Ahc]
    congr 3;omega
   ·have hb:Ej now p.1 p.2 (n:Int)=Ad (.next (n:Int)):=by
     unfold Ej;rw[CV (AgN hp)]
    rw[Mc,hb];have:=ih n Ab;simp only[this];unfold VH;rw[List.filter_cons_of_neg (by simpa using hp)]
 have h0:=key o 0 (by rw[ho.length_eq];omega);have h0':Mc (λpe τ=>Ej now pe.1 pe.2 τ) o 0=_:=h0;rw[h0',C3 rfl,G6];unfold ER VH;rw[(ho.filter _).length_eq,Aha]
theorem Aa3 (rs:List (A1×AA))(now:Int):VH rs now≤Ae rs:=List.length_filter_le _ _
structure TI (t:Bl) (done:List A1) (now:Int):Prop where
 room:t.aI=100
 ttl:t.aN=1000
 now:0≤t.a6∧t.a6≤now
 has:∀s,CI t.ag s=Af↔s∈done
 get:∀s r,mget t.ag s=Ad r→r.aU=[100]∧r.bk=s∧r.bp=Af∧1000<r.aB
 ends:∀p∈t.ag,1000<p.2.aB
 len:Ae t.ag=Ae done
variable{done:List A1}
theorem TI.later {a b:Int}(h:TI t done a)(hab:a≤b):TI t done b:={ h with now:=⟨h.now.1,by have:=h.now.2;omega⟩ }
theorem Ma {T:Type}{xs:List (A1×T)}{k:A1}{v:T}{p:A1×T}(h:p∈Cj xs k v):p∈xs∨p.2=v:=by
 unfold Cj at h
 cases hk:CI xs k with
 | true=>
  rw[hk] at h;obtain⟨q,hq,e⟩:=List.mem_map.1 (show p∈Ji xs k v from h)
  cases hd:Ac (q.1=k) with
  | true=>rw[hd] at e;exact .inr (by rw[← e];rfl)
  | false=>rw[hd] at e;exact .inl (by rw[← e];exact hq)
 | false=>
  rw[hk] at h;rcases List.mem_cons.1 ((HY k v xs).subset (show p∈MG k v xs from h)) with e | h
  ·exact .inr (by rw[e])
  ·exact .inl h
def MF (e:Int):AA:=⟨[100],[],Ah,e⟩
def VR (s:A1)(e:Int):AA:=⟨[100],s,Af,e⟩
def O4 (t:Bl)(s:A1)(now:Int):Bl:=⟨t.aI,t.aN,now,Cj t.ag s (MF (now+1000))⟩
def Tv (t:Bl)(s:A1)(now:Int):Bl:=⟨t.aI,t.aN,now,Cj (Cj t.ag s (MF (now+1000))) s (VR s (now+1000))⟩
theorem Qn (h:TI t done now)(hn:1≤now∧now≤1000)(hd:Ae done≤20)(hi:Hk s=Af)(hs:s ∉ done):I6 t s [100] now=Ad (1,[],0,O4 t s now):=by
 have hm:CI t.ag s=Ah:=by
  cases hm:CI t.ag s with
  | false=>rfl
  | true=>exact absurd ((h.has s).1 hm) hs
 have hl:=h.len;have hlv:=Aa3 t.ag now;have hr:=h.room;unfold I6;rw[hi,Yq,C8 An,Tl ⟨Ab,Ab⟩ h.now.2,C3 rfl,C8 An,hm,C8 An,Dh An,Tj Ab,C3 rfl];unfold GW;rw[C8 Am,NO (λp hp=>by have:=h.ends p hp;omega),C3 rfl,hm,Dh An];simp only[h.ttl];rw[De Ab Ab];unfold O4 MF;rw[h.ttl]
theorem RI (h:TI t done now)(hn:1≤now∧now≤1000)(hi:Hk s=Af)(hs:s∈done):I6 t s [100] now=Ad (3,s,0,⟨t.aI,t.aN,now,t.ag⟩):=by
 have hm:CI t.ag s=Af:=(h.has s).2 hs;obtain⟨r,hg⟩:=Option.isSome_iff_exists.1 hm;obtain⟨h1,h2,h3,h4⟩:=h.get s r hg;have hv:∀z,Cy t.ag s z=r:=λz=>by unfold Cy;rw[hg];rfl
 unfold I6;rw[hi,Yq,C8 An,Tl ⟨Ab,Ab⟩ h.now.2,C3 rfl,C8 An,hm];simp only[hv,Ahr,h1];rw[AgL (show now<r.aB by omega),C8 Al,CV An];unfold GW;rw[C8 An,NO (λp hp=>by have:=h.ends p hp;omega),C3 rfl,hm];simp only[hv,Ahr];rw[AgL (show now<r.aB by omega),CV An,C8 h3,h2]
theorem TI.pass (h:TI t done now)(hn:0≤now):TI ⟨t.aI,t.aN,now,t.ag⟩ done now:={ h with now:=⟨hn,Ahs _⟩ }
theorem Tk (h:TI t done now)(hn:1≤now∧now≤1000)(hi:Hk s=Af)(hl:Ae s≤4000):JS (O4 t s now) s [100] s now=Ad (0,Tv t s now):=by
 have hg:mget (O4 t s now).ag s=Ad (MF (now+1000)):=by
  show mget (Cj t.ag s (MF (now+1000))) s=_;rw[JO,AgL rfl];rfl
 have hm:CI (O4 t s now).ag s=Af:=by unfold CI;rw[hg];rfl
 have hv:∀z,Cy (O4 t s now).ag s z=MF (now+1000):=λz=>by unfold Cy;rw[hg];rfl
 unfold JS;rw[hi,Yq,C8 An,C8 Am];unfold Ut;rw[Tl (t:=O4 t s now) (now:=now) ⟨Ab,Ab⟩ (Ahs now),C3 rfl,C8 An,hm];simp only[hv];rw[C8 (by show(!(!Af||decide (now+1000≤now)))=Af;rw[AgN Ab];rfl),C8 An,C8 An,C3 rfl,C8 An,NO (λp hp=>?_),C3 rfl]
 ·simp only[show(O4 t s now).aN=1000 from h.ttl];rw[De Ab Ab];unfold Tv O4 MF VR;rw[h.ttl]
 ·rcases Ma (show p∈Cj t.ag s (MF (now+1000)) from hp) with hp | hp
  ·have:=h.ends p hp;omega
  ·rw[hp];show now<now+1000;omega
theorem TI.fin (h:TI t done now)(hn:1≤now∧now≤1000)(hs:s ∉ done):TI (Tv t s now) (done++[s]) now:=by
 have hm:CI t.ag s=Ah:=by
  cases hm:CI t.ag s with
  | false=>rfl
  | true=>exact absurd ((h.has s).1 hm) hs
 have hget:∀k,mget (Tv t s now).ag k=bif Ac (k=s) then Ad (VR s (now+1000)) else mget t.ag k:=λk=>by
  show mget (Cj (Cj t.ag s (MF (now+1000))) s (VR s (now+1000))) k=_;rw[JO,JO]
  cases Ac (k=s)<;>rfl
 refine⟨h.room,h.ttl,⟨by show 0≤now;omega,Ahs _⟩,λk=>?_,λk r hr=>?_,λp hp=>?_,?_⟩
 ·unfold CI;rw[hget]
  by_cases e:k=s
  ·rw[AgL e];subst e;simp
  ·rw[AgN e];have:=h.has k;unfold CI at this;simp[this,e]
 ·rw[hget] at hr
  by_cases e:k=s
  ·rw[AgL e] at hr;subst e;simp only[Ahq,Option.some.injEq] at hr;rw[← hr];exact⟨rfl,rfl,rfl,by show 1000<now+1000;omega⟩
  ·rw[AgN e] at hr;exact h.get k r hr
 ·rcases Ma (show p∈Cj (Cj t.ag s (MF (now+1000))) s (VR s (now+1000)) from hp) with hp | hp
  ·rcases Ma hp with hp | hp
   ·exact h.ends p hp
   ·rw[hp];show 1000<now+1000;omega
  ·rw[hp];show 1000<now+1000;omega
 ·show(Cj (Cj t.ag s (MF (now+1000))) s (VR s (now+1000))).length=_;have h2:CI (Cj t.ag s (MF (now+1000))) s=Af:=by unfold CI;rw[JO,AgL rfl];rfl
  rw[M6,h2,M6,hm,Ahu,← h.len];rfl
set_option maxRecDepth 100000 in
theorem NA:JG 6000=Ad Af:=by decide +kernel
abbrev F0:Nat:=6000
def IK (i:Nat):A1:=[101,Ar (65+i % 26),Ar (48+i/26 % 10)]
theorem Y3 {p:Nat→Prop}(h:∀i:Fin 20,p i){i:Nat}(hi:i<20):p i:=h ⟨i,hi⟩
theorem Vh:∀i:Fin 20,Hx ((i:Nat):Int)=Ad (IK i):=by decide +kernel
theorem Rq {i:Nat}(hi:i<20):Hx (i:Int)=Ad (IK i):=Y3 (p:=λi=>Hx (i:Int)=Ad (IK i)) Vh hi
theorem Acy:∀i:Fin 20,Hk (IK i)=Af:=by decide +kernel
theorem Ab4 {i:Nat}(hi:i<20):Hk (IK i)=Af:=Y3 (p:=λi=>Hk (IK i)=Af) Acy hi
theorem Aaq:∀i j:Fin 20,IK i=IK j→(i:Nat)=j:=by decide +kernel
theorem Ac0 {i j:Nat}(hi:i<20)(hj:j<20)(h:IK i=IK j):i=j:=Aaq ⟨i,hi⟩ ⟨j,hj⟩ h
theorem Acz (i:Nat):Ae (IK i)=3:=rfl
def UC (s:A1):AQ:=⟨s,[116],[115],[],0,[],[⟨1,0,[],0⟩]⟩
theorem AaQ:∀i:Fin 20,KK F0 (UC (IK i))=Ad 0:=by decide +kernel
theorem AcU {i:Nat}(hi:i<20):KK F0 (UC (IK i))=Ad 0:=Y3 (p:=λi=>KK F0 (UC (IK i))=Ad 0) AaQ hi
theorem VT (i:Nat):MP (UC (IK i))=Af:=rfl
theorem AcT (s:A1):OkE (UC s):=λc hc=>by
 obtain rfl:c=⟨1,0,[],0⟩:=by simpa[UC] using hc
 exact⟨Al,Al⟩
def I8 (q:A2)(ps:List Aw)(idx:List Int):List A1:=idx.map (λi=>(Ax ps i).ai.aQ)++q.a7.map (·.aQ)
theorem QD (q:A2)(ps:List Aw)(idx:List Int)(now:Int):(I8 (DJ q ps idx now) ps (Eu q ps idx now)).Perm (I8 q ps idx):=by
 have hpm:=Mo q ps idx now;unfold I8;show((Eu q ps idx now).map (λi=>(Ax ps i).ai.aQ)++(q.a7++(MJ q ps idx now).map (Gn ps)).map (·.aQ)).Perm _;rw[Ahk,Ahv];have h4:(idx.map λi=>(Gn ps i).aQ).Perm ((MJ q ps idx now).map (λi=>(Gn ps i).aQ)++(Eu q ps idx now).map λi=>(Gn ps i).aQ):=by
  rw[← Ahk];exact((List.filter_append_perm (Kj q ps now) idx).symm.trans (hpm.symm.append_right _)).map _
 refine List.Perm.symm ?_;refine(h4.append_right _).trans ?_;rw[Ahf];refine(List.perm_append_comm).trans ?_;rw[Ahf];exact AgM _
def S1 (i:Nat)(q:A2)(ps:List Aw):Prop:=∃idx,QI q ps idx∧QB i q ps∧q.a6=0∧(I8 q ps idx).Perm ((As i).map IK)
theorem tm0:tmQ 0=Af:=Al
theorem Acl {i:Nat}(hi:i<20)(h:S1 i q ps):∃q' ps',N6 F0 q ps (UC (IK i)) 0 0=Ad (0,q',ps')∧S1 (i+1) q' ps':=by
 obtain⟨idx,h1,h2,h3,h4⟩:=h;have hA:Hh q 0=0:=(Ol h1.now.1).2 ⟨Ab,Ab⟩;have hq:=KX h1 (now:=0) ⟨Ab,Ab⟩;have hp:=(QD q ps idx 0).trans h4;have hnot:IK i ∉ I8 (DJ q ps idx 0) ps (Eu q ps idx 0):=λhm=>by
  obtain⟨j,hj,e⟩:=List.mem_map.1 (hp.subset hm);have hj':=List.mem_range.1 hj;have:=Ac0 Ab hi e;omega
 have hlen:Ae (Eu q ps idx 0)+Ae (DJ q ps idx 0).a7=i:=by
  have:=hp.length_eq;unfold I8 at this;simpa using this
 have hh:O0 (DJ q ps idx 0) (UC (IK i)).aQ=Ah:=by
  cases hb:O0 (DJ q ps idx 0) (UC (IK i)).aQ with
  | false=>rfl
  | true=>exact absurd ((U2 hq _).1 hb) hnot
 have hf:Pi (DJ q ps idx 0)=Ah:=by
  unfold Pi;rw[hq.wlen];exact AgN Ab
 refine⟨Abl (DJ q ps idx 0) ps (DJ q ps idx 0).a7 (UC (IK i)),ps++[O5 (UC (IK i)) 0 q.ao],?_,?_⟩
 ·rw[Xe Al h1 h2 Ab (VT i) (AcT _) 0 0 (AcU hi)];unfold Acm;rw[Ahe tm0,Ahe hA,Ahe rfl,hh,AgV Aj,hf,AgV Aj];rfl
 ·have hq':=Adf hq (D:=(DJ q ps idx 0).a7) (e:=UC (IK i)) (t:=0) ⟨by show(IK i).length≤300;rw[Acz];omega,by show 1≤300;omega,Ab4 hi⟩ ⟨Ab,Ab⟩ (List.nodup_cons.2 ⟨hnot,hq.ids⟩) hq.smd Ab;refine⟨_,hq',⟨?_,?_,?_⟩,rfl,?_⟩
  ·show 0≤q.ao+1;have:=h2.1;omega
  ·show q.ao+1≤((i+1:Nat):Int);have:=h2.2.1;omega
  ·have:=h2.2.2;simp;omega
  ·rw[List.range_succ,Ahk];have hold:(Eu q ps idx 0).map (λk=>(Ax (ps++[O5 (UC (IK i)) 0 q.ao]) k).ai.aQ)=(Eu q ps idx 0).map λk=>(Ax ps k).ai.aQ:=List.map_congr_left λk hk=>by rw[YY (hq.inr k hk)]
   show(((Eu q ps idx 0)++[(Ae ps:Int)]).map (λk=>(Ax (ps++[O5 (UC (IK i)) 0 q.ao]) k).ai.aQ)++(DJ q ps idx 0).a7.map (·.aQ)).Perm _;rw[Ahk,hold,List.map_singleton,UH];refine List.Perm.trans ?_ (hp.append_right _);show((Eu q ps idx 0).map (λk=>(Ax ps k).ai.aQ)++[IK i]++(DJ q ps idx 0).a7.map (·.aQ)).Perm ((Eu q ps idx 0).map (λk=>(Ax ps k).ai.aQ)++(DJ q ps idx 0).a7.map (·.aQ)++[IK i]);rw[Ahf,Ahf];exact(List.perm_append_comm).append_left _
variable{c:Nat}
theorem Xt {n:Int}(hc:Int.tmod n 20+1=(c:Int))(ha:c≤20):∀(d m i:Nat) (q:A2) (ps:List Aw),i+d=c→d<m→S1 i q ps→
  ∃q' ps',CQ (λσ=>Gl F0 n σ.1 σ.2.1 σ.2.2.1 σ.2.2.2.1 σ.2.2.2.2.1 σ.2.2.2.2.2.1 σ.2.2.2.2.2.2.1 σ.2.2.2.2.2.2.2) m ((i:Int),q.ae.ah,q.ae.aa,q.a7,q.a6,q.ao,q.aj,ps)=Ad (.go (q'.ae.ah,q'.ae.aa,q'.a7,q'.a6,q'.ao,q'.aj,ps'))∧S1 c q' ps':=by
 intro d
 induction d with
 | zero=>
  intro m i q ps h hm hs;obtain⟨m,rfl⟩:∃k,m=k+1:=⟨m-1,Ab⟩
  obtain rfl:i=c:=Ab
  have hb:Gl F0 n (i:Int) q.ae.ah q.ae.aa q.a7 q.a6 q.ao q.aj ps=Ad (.out (.go (q.ae.ah,q.ae.aa,q.a7,q.a6,q.ao,q.aj,ps))):=by
   unfold Gl;rw[CV (AgN Ab)]
  exact⟨q,ps,by rw[CQ];simp only[hb],hs⟩
 | succ d ih=>
  intro m i q ps h hm hs;obtain⟨m,rfl⟩:∃k,m=k+1:=⟨m-1,Ab⟩
  obtain⟨q',ps',h1,h2⟩:=Acl Ab hs;have h1':N6 F0 ⟨⟨q.ae.ah,q.ae.aa⟩,q.aj,q.a7,q.a6,q.ao⟩ ps ⟨IK i,([116]:A1),([115]:A1),([]:A1),0,([]:A1),[⟨1,0,([]:A1),0⟩]⟩ 0 0=Ad (0,q',ps'):=h1;have hb:Gl F0 n (i:Int) q.ae.ah q.ae.aa q.a7 q.a6 q.ao q.aj ps=Ad (.next (((i+1:Nat):Int),q'.ae.ah,q'.ae.aa,q'.a7,q'.a6,q'.ao,q'.aj,ps')):=by
   unfold Gl;rw[Dh (AgL Ab),Rq Ab,C3 rfl,h1',C3 rfl,C8 An,De Ab Ab];rfl
  obtain⟨q2,ps2,h3,h4⟩:=ih m (i+1) q' ps' Ab Ab h2;exact⟨q2,ps2,by rw[CQ];simp only[hb];exact h3,h4⟩
theorem LZ {α:Type}[DecidableEq α]:∀{l m:List α},l.Nodup→(∀x∈l,x∈m)→Ae l≤Ae m
 | [],m,_,_=>Aht _
 | a::l,m,hn,h=>by
  rw[List.nodup_cons] at hn;have ha:=h a (List.mem_cons_self ..);have h1:=LZ (l:=l) (m:=m.erase a) hn.2 λx hx=>(List.mem_erase_of_ne (λe=>hn.1 (by rw[← e];exact hx))).2 (h x (List.mem_cons_of_mem _ hx));rw[List.length_erase_of_mem ha] at h1;have:0<Ae m:=List.length_pos_of_mem ha;simp only[Ahc];omega
structure Dn (c:Nat) (now:Int) (done:List A1) (t:Bl) (q:A2) (P:List Aw) (idx:List Int):Prop where
 tab:TI t done now
 nd:done.Nodup
 sub:∀s,s∈I8 q P idx∨s∈done→∃i,i<c∧s=IK i
 cov:∀i,i<c→IK i∈I8 q P idx∨IK i∈done
variable{P:List Aw}
theorem Dn.len (h:Dn c now done t q P idx):Ae done≤c:=by
 have:=LZ (m:=(As c).map IK) h.nd λs hs=>by
  obtain⟨i,hi,e⟩:=h.sub s (.inr hs);exact List.mem_map.2 ⟨i,List.mem_range.2 hi,e.symm⟩
 simpa using this
theorem Dn.pass {c:Nat}{now:Int}{done:List A1}{t:Bl}{q:A2}{P:List Aw}{idx:List Int}(h:Dn c now done t q P idx)(hn:0≤now):Dn c now done ⟨t.aI,t.aN,now,t.ag⟩ q P idx:={ h with tab:=h.tab.pass hn }
theorem Dn.fin {c:Nat}{now:Int}{done:List A1}{t:Bl}{q:A2}{P:List Aw}{idx:List Int}(h:Dn c now done t q P idx)(hn:1≤now∧now≤1000){s:A1}(hs:s∈I8 q P idx)(hd:s ∉ done):Dn c now (done++[s]) (Tv t s now) q P idx:=by
 refine⟨h.tab.fin hn hd,?_,λk hk=>?_,λi hi=>?_⟩
 ·rw[List.nodup_append];exact⟨h.nd,Aj,λa ha b hb e=>hd ((e.trans (List.mem_singleton.1 hb))▸ha)⟩
 ·rcases hk with hk | hk
  ·exact h.sub k (.inl hk)
  ·rcases List.mem_append.1 hk with hk | hk
   ·exact h.sub k (.inr hk)
   ·exact h.sub k (.inl (by rw[show k=s from by simpa using hk];exact hs))
 ·rcases h.cov i hi with hi | hi
  ·exact .inl hi
  ·exact .inr (List.mem_append_left _ hi)
theorem SU (h:s∈I8 (rmQ q P x) P (rmI idx x)):s∈I8 q P idx:=by
 unfold I8 at h ⊢;rcases List.mem_append.1 h with h | h
 ·obtain⟨i,hi,e⟩:=List.mem_map.1 h;exact List.mem_append_left _ (List.mem_map.2 ⟨i,(List.mem_filter.1 hi).1,e⟩)
 ·exact List.mem_append_right _ h
theorem Vr (h:s∈I8 q P idx):s∈I8 (rmQ q P x) P (rmI idx x)∨s=(Gn P x).aQ:=by
 unfold I8 at h ⊢;rcases List.mem_append.1 h with h | h
 ·obtain⟨i,hi,e⟩:=List.mem_map.1 h
  by_cases hx:i=x
  ·exact .inr (by rw[← e,hx];rfl)
  ·exact .inl (List.mem_append_left _ (List.mem_map.2 ⟨i,List.mem_filter.2 ⟨hi,by simp[hx]⟩,e⟩))
 ·exact .inl (List.mem_append_right _ h)
theorem Dn.del (h:Dn c now done t q P idx)(hx:(Gn P x).aQ∈done):Dn c now done t (rmQ (DJ q P idx now) P x) P (rmI (Eu q P idx now) x):=by
 have hp:=QD q P idx now;refine⟨h.tab,h.nd,λs hs=>?_,λi hi=>?_⟩
 ·rcases hs with hs | hs
  ·exact h.sub s (.inl (hp.subset (SU hs)))
  ·exact h.sub s (.inr hs)
 ·rcases h.cov i hi with hi | hi
  ·rcases Vr (x:=x) (hp.symm.subset hi) with h1 | h1
   ·exact .inl h1
   ·exact .inr (by rw[h1];exact hx)
  ·exact .inr hi
def Hld (now:Int)(y:Aw):Prop:=y.bc=Af∧now<y.aC∧1≤y.aa
theorem U1 (hx:x∈idx)(hh:Hld now (Ax P x)):x∈Eu q P idx now:=by
 refine List.mem_filter.2 ⟨hx,?_⟩;unfold Kj;rw[AgN (by have:=hh.2.1;omega)];rfl
theorem AcZ (h:QI q P idx)(hq:q.a6≤now)(hn:now≤1073741824)(hx:x∈idx)(hh:Hld now (Ax P x)) :
  GR F0 q P (IP (Ax P x)) now=Ad (0,rmQ (DJ q P idx now) P x,P)∧QI (rmQ (DJ q P idx now) P x) P (rmI (Eu q P idx now) x):=by
 have h0:=h.now.1;have hA:Hh q now=0:=(Ol h0).2 ⟨hq,hn⟩;have hqa:=KX h (now:=now) ⟨Ab,hn⟩;have hxa:=U1 (q:=q) hx hh;have hsm:=h.sm x hx;have hid:Hk (Ax P x).ai.aQ=Af:=hsm.2.2;have hrc:=h.rcv x hx;have hpol:=h.rcs;obtain⟨hp1,hp2⟩:=VM (m:=(Ax P x).aa) Ab Ab;have hu:MC q P idx (IP (Ax P x)) now 0=(x,0):=by
  unfold MC;rw[tm0,Ahq,Ahe hA,YA hid];unfold Tt;have hg:mget (DJ q P idx now).aj (Ax P x).ai.aQ=Ad x:=hqa.mget hxa;simp only[hg];rw[hp2,AgV (by rw[hp1];have:=hh.2.2;omega),AgV (by rw[hh.1];have:=hh.2.1;simp;omega)]
 have hl:Ae (IP (Ax P x))≤1000000:=by
  unfold IP;have:=RK (Ax P x).aa Ab Ab;have h3:Ae (Ax P x).ai.aQ≤300:=hsm.1;simp only[Ahu,List.length_singleton];omega
 refine⟨?_,Ad9 hqa hxa⟩;rw[SL Al h hl,hu,Ahe rfl];unfold SE;rw[Ahe ⟨tm0,hA⟩]
theorem AcS (hx:x∈idx):(Gn P x).aQ∈I8 q P idx:=List.mem_append_left _ (List.mem_map.2 ⟨x,hx,rfl⟩)
variable{r:List B7×A2×List Aw}{picks:List Int}
theorem ZV (hc:c≤20){k:Nat}(hk:k<Ae picks)(ha:k<80){L:List Int}(hr:r.1=L.map λx=>NZ (Ax P x))(hL:L.Nodup)(hl:Ae L≤1000)(hh:∀x∈L,Hld ((k:Int)+1) (Ax P x))
  {i:Nat} (hi:i<Ae L) {done:List A1} {t:Bl} {q:A2} {idx:List Int} (h:QI q P idx) (hq:q.a6≤(k:Int)+1) (hd:Dn c ((k:Int)+1) done t q P idx) (hrest:∀x∈L.drop i,x∈idx) :
  ∃done' t' q' idx',Gj F0 picks (k:Int) r done (i:Int) q.ae.ah q.ae.aa q.a7 q.a6 q.ao q.aj P t.aI t.aN t.a6 t.ag =
    Ad (.next (done',((i+1:Nat):Int),q'.ae.ah,q'.ae.aa,q'.a7,q'.a6,q'.ao,q'.aj,P,t'.aI,t'.aN,t'.a6,t'.ag))∧
   QI q' P idx'∧q'.a6≤(k:Int)+1∧Dn c ((k:Int)+1) done' t' q' P idx'∧∀x∈L.drop (i+1),x∈idx':=by
 have hdr:=List.drop_eq_getElem_cons hi;have hxL:L[i]∈L:=List.getElem_mem hi;have hx:L[i]∈idx:=hrest _ (by rw[hdr];exact List.mem_cons_self ..);have hle:Ae r.1=Ae L:=by rw[hr,AgP]
 have hE:Ax r.1 (i:Int)=NZ (Ax P L[i]):=by rw[Mm Ab];simp[hr]
 have hrest':∀y∈L.drop (i+1),y∈idx:=λy hy=>hrest y (by rw[hdr];exact List.mem_cons_of_mem _ hy);have hne:∀y∈L.drop (i+1),y≠L[i]:=λy hy e=>by
  have hn:=hL.sublist (List.drop_sublist i L);rw[hdr,List.nodup_cons] at hn;exact hn.1 (e▸hy)
 generalize hxe:L[i]=x at *;have hid:=AcS (q:=q) (P:=P) hx;obtain⟨j,hj,hje⟩:=hd.sub _ (.inl hid);have hnm:Hk (Gn P x).aQ=Af:=by rw[hje];exact Ab4 Ab
 have hlen:Ae (Gn P x).aQ=3:=by rw[hje];rfl
 have hdl:=hd.len;obtain⟨hdel,hqd⟩:=AcZ h hq Ab hx (hh x hxL);have hrm:∀y∈L.drop (i+1),y∈rmI (Eu q P idx ((k:Int)+1)) x:=λy hy=>List.mem_filter.2 ⟨U1 (hrest' y hy) (hh y (List.mem_of_mem_drop hy)),by simp[hne y hy]⟩;have hqn:(rmQ (DJ q P idx ((k:Int)+1)) P x).a6≤(k:Int)+1:=Ahs _;have hdel':GR F0 ⟨⟨q.ae.ah,q.ae.aa⟩,q.aj,q.a7,q.a6,q.ao⟩ P (IP (Ax P x)) ((k:Int)+1)=_:=hdel;unfold Gj;rw[Dh (AgL Ab),HB Ab Ab,HB Ab Ab,hE]
 by_cases hp:3<Int.tmod (Ax picks (k:Int)) 6
 ·rw[Dh (AgL hp)];unfold EL;rw[De Ab Ab];exact⟨done,t,q,idx,rfl,h,hq,hd,hrest'⟩
 ·rw[CV (AgN hp)]
  by_cases hdn:(Gn P x).aQ∈done
  ·have hb:=RI hd.tab ⟨Ab,Ab⟩ hnm hdn;have hb':I6 ⟨t.aI,t.aN,t.a6,t.ag⟩ (NZ (Ax P x)).ai.aQ ([100]:A1) ((k:Int)+1)=_:=hb;rw[hb',C3 rfl,C8 (by show(!((!Ac ((0:Int)=0))||((Ac ((3:Int)=2))||((Ac ((3:Int)=3))&&(!Ac ((Gn P x).aQ=(Gn P x).aQ))))))=Af;simp),CV An]
   by_cases hp2:Int.tmod (Ax picks (k:Int)) 6<3
   ·rw[Dh (AgL hp2)];show ∃done' t' q' idx',BN (GR F0 ⟨⟨q.ae.ah,q.ae.aa⟩,q.aj,q.a7,q.a6,q.ao⟩ P (IP (Ax P x)) ((k:Int)+1)) _=_∧_;rw[hdel',C3 rfl];unfold Ic EL;rw[C8 An,De Ab Ab];exact⟨done,⟨t.aI,t.aN,(k:Int)+1,t.ag⟩,_,_,rfl,hqd,hqn,(hd.pass Ab).del hdn,hrm⟩
   ·rw[CV (AgN hp2)];unfold Ic EL;rw[C8 An,De Ab Ab];exact⟨done,⟨t.aI,t.aN,(k:Int)+1,t.ag⟩,q,idx,rfl,h,hq,hd.pass Ab,hrest'⟩
  ·have hb:=Qn hd.tab ⟨Ab,Ab⟩ Ab hnm hdn;have hb':I6 ⟨t.aI,t.aN,t.a6,t.ag⟩ (NZ (Ax P x)).ai.aQ ([100]:A1) ((k:Int)+1)=_:=hb;have hf:=Tk hd.tab (now:=(k:Int)+1) ⟨Ab,Ab⟩ hnm Ab;rw[hb',C3 rfl,C8 An,Dh An,C8 (show H7 16 (Ae done+Ae ([(NZ (Ax P x)).ai.aQ]:List A1))=Af from AgL Am)];show ∃done' t' q' idx',BN (JS (O4 t (Gn P x).aQ ((k:Int)+1)) (Gn P x).aQ ([100]:A1) (Gn P x).aQ ((k:Int)+1)) _=_∧_;rw[hf,C3 rfl,C8 An];have hdf:=hd.fin ⟨Ab,Ab⟩ hid hdn
   by_cases hp2:Int.tmod (Ax picks (k:Int)) 6<3
   ·rw[Dh (AgL hp2)];show ∃done' t' q' idx',BN (GR F0 ⟨⟨q.ae.ah,q.ae.aa⟩,q.aj,q.a7,q.a6,q.ao⟩ P (IP (Ax P x)) ((k:Int)+1)) _=_∧_;rw[hdel',C3 rfl];unfold Id EL;rw[C8 An,De Ab Ab,hE];exact⟨done++[(Gn P x).aQ],Tv t (Gn P x).aQ ((k:Int)+1),_,_,rfl,hqd,hqn,hdf.del (List.mem_append_right _ (List.mem_singleton.2 rfl)),hrm⟩
   ·rw[CV (AgN hp2)];unfold Id EL;rw[C8 An,De Ab Ab,hE];exact⟨done++[(Gn P x).aQ],Tv t (Gn P x).aQ ((k:Int)+1),q,idx,rfl,h,hq,hdf,hrest'⟩
theorem Aa1 (hc:c≤20){k:Nat}(hk:k<Ae picks)(ha:k<80){L:List Int}(hr:r.1=L.map λx=>NZ (Ax P x))(hL:L.Nodup)(hl:Ae L≤1000)(hh:∀x∈L,Hld ((k:Int)+1) (Ax P x)) :
  ∀(d m i:Nat) (done:List A1) (t:Bl) (q:A2) (idx:List Int),i+d=Ae L→d<m→QI q P idx→q.a6≤(k:Int)+1→Dn c ((k:Int)+1) done t q P idx→(∀x∈L.drop i,x∈idx)→
  ∃done' t' q' idx' a1 a2 a3,CQ (λσ=>Gj F0 picks (k:Int) r σ.1 σ.2.1 σ.2.2.1 σ.2.2.2.1 σ.2.2.2.2.1 σ.2.2.2.2.2.1 σ.2.2.2.2.2.2.1 σ.2.2.2.2.2.2.2.1 σ.2.2.2.2.2.2.2.2.1 σ.2.2.2.2.2.2.2.2.2.1 σ.2.2.2.2.2.2.2.2.2.2.1 σ.2.2.2.2.2.2.2.2.2.2.2.1 σ.2.2.2.2.2.2.2.2.2.2.2.2) m
    (done,(i:Int),q.ae.ah,q.ae.aa,q.a7,q.a6,q.ao,q.aj,P,t.aI,t.aN,t.a6,t.ag) =
    Ad (.go (done',a1,a2,a3,q'.ae.ah,q'.ae.aa,q'.a7,q'.a6,q'.ao,q'.aj,P,t'.aI,t'.aN,t'.a6,t'.ag))∧
   QI q' P idx'∧q'.a6≤(k:Int)+1∧Dn c ((k:Int)+1) done' t' q' P idx':=by
 have hle:Ae r.1=Ae L:=by rw[hr,AgP]
 intro d
 induction d with
 | zero=>
  intro m i done t q idx h hm hq hqn hd hrest;obtain⟨m,rfl⟩:∃k,m=k+1:=⟨m-1,Ab⟩
  have hb:Gj F0 picks (k:Int) r done (i:Int) q.ae.ah q.ae.aa q.a7 q.a6 q.ao q.aj P t.aI t.aN t.a6 t.ag=Ad (.out (.go (done,(i:Int),(i:Int),Ac ((i:Int)<(Ae r.1:Int)),q.ae.ah,q.ae.aa,q.a7,q.a6,q.ao,q.aj,P,t.aI,t.aN,t.a6,t.ag))):=by
   unfold Gj;rw[CV (AgN Ab)]
  exact⟨done,t,q,idx,_,_,_,by rw[CQ];simp only[hb];rfl,hq,hqn,hd⟩
 | succ d ih=>
  intro m i done t q idx h hm hq hqn hd hrest;obtain⟨m,rfl⟩:∃k,m=k+1:=⟨m-1,Ab⟩
  obtain⟨done',t',q',idx',h1,h2,h3,h4,h5⟩:=ZV hc hk ha hr hL hl hh (i:=i) Ab hq hqn hd hrest;obtain⟨done2,t2,q2,idx2,a1,a2,a3,h6,h7⟩:=ih m (i+1) done' t' q' idx' Ab Ab h2 h3 h4 h5;exact⟨done2,t2,q2,idx2,a1,a2,a3,by rw[CQ];simp only[h1];exact h6,h7⟩
def S2 (c k:Nat)(done:List A1)(t:Bl)(q:A2)(ps:List Aw):Prop:=∃idx,QI q ps idx∧q.a6≤(k:Int)∧Dn c (k:Int) done t q ps idx
theorem ZX (hc:c≤20){k:Nat}(hk:k<Ae picks)(ha:k<80)(h:S2 c k done t q ps) :
  ∃done' t' q' ps',Gk F0 picks done (k:Int) t.aI t.aN t.a6 t.ag q.ae.ah q.ae.aa q.a7 q.a6 q.ao q.aj ps =
    Ad (.next (done',((k+1:Nat):Int),t'.aI,t'.aN,t'.a6,t'.ag,q'.ae.ah,q'.ae.aa,q'.a7,q'.a6,q'.ao,q'.aj,ps'))∧S2 c (k+1) done' t' q' ps':=by
 obtain⟨idx,h1,h2,h3⟩:=h;have hA:Hh q ((k:Int)+1)=0:=(Ol h1.now.1).2 ⟨Ab,Ab⟩;obtain⟨e1,e2⟩:=Ri (F:=F0) Al h1 ((k:Int)+1) 2;rw[Ahe hA] at e1;have hQ:=e2 hA;have hv:=h1.vis;obtain⟨n1,n2⟩:=NE h1 ((k:Int)+1) 2;have hsub:∀x∈Ow q ps idx ((k:Int)+1) 2,x∈idx:=λx hx=>(List.mem_filter.1 (n2 x hx).1).1;generalize hLe:Ow q ps idx ((k:Int)+1) 2=L at *;have hat:∀x∈idx,Ax (Jg ((k:Int)+1+q.ae.ah) L ps) x=if x∈L then Jf (Ax ps x) ((k:Int)+1+q.ae.ah) else Ax ps x:=λx hx=>by
  have:=YX h1 (now:=(k:Int)+1) (most:=2) (t:=(k:Int)+1+q.ae.ah) hx
  rwa [hLe] at this
 have hl:Ae L≤1000:=by
  rw[← hLe];unfold Ow;exact Nat.le_trans (List.length_take_le _ _) Al
 generalize hPe:Jg ((k:Int)+1+q.ae.ah) L ps=P at *;have hout:Iz ((k:Int)+1+q.ae.ah) ps L=L.map λx=>NZ (Ax P x):=List.map_congr_left λx hx=>by rw[hat x (hsub x hx),Ahe hx]
 have hhld:∀x∈L,Hld ((k:Int)+1) (Ax P x):=λx hx=>by
  rw[hat x (hsub x hx),Ahe hx];have hrc:=h1.rcv x (hsub x hx);exact⟨rfl,by show(k:Int)+1<(k:Int)+1+q.ae.ah;omega,by show 1≤(Ax ps x).aa+1;omega⟩
 have hids:I8 (DJ q ps idx ((k:Int)+1)) P (Eu q ps idx ((k:Int)+1))=I8 (DJ q ps idx ((k:Int)+1)) ps (Eu q ps idx ((k:Int)+1)):=by
  have hmp:(Eu q ps idx ((k:Int)+1)).map (λi=>(Ax P i).ai.aQ)=(Eu q ps idx ((k:Int)+1)).map λi=>(Ax ps i).ai.aQ:=List.map_congr_left λx hx=>by
   rw[hat x (List.mem_filter.1 hx).1]
   by_cases hxL:x∈L
   ·rw[Ahe hxL];rfl
   ·rw[AgV hxL]
  unfold I8;rw[hmp]
 have hpm:=QD q ps idx ((k:Int)+1);have hD:Dn c ((k:Int)+1) done t (DJ q ps idx ((k:Int)+1)) P (Eu q ps idx ((k:Int)+1)):=by
  refine⟨h3.tab.later Ab,h3.nd,λs hs=>?_,λi hi=>?_⟩
  ·rw[hids] at hs;exact h3.sub s (hs.imp_left λhs=>hpm.subset hs)
  ·rw[hids];exact(h3.cov i hi).imp_left λhs=>hpm.symm.subset hs
 obtain⟨done',t',q',idx',a1,a2,a3,g1,g2,g3,g4⟩:=Aa1 hc hk ha (r:=(Iz ((k:Int)+1+q.ae.ah) ps L,DJ q ps idx ((k:Int)+1),P)) hout n1 hl hhld (Ae L) F0 0 done t _ _ Ab (by show (Ae L)<6000;omega) hQ (Ahs _) hD (λx hx=>(n2 x hx).1);have e1':HW F0 ⟨⟨q.ae.ah,q.ae.aa⟩,q.aj,q.a7,q.a6,q.ao⟩ ps ((k:Int)+1) 2=_:=e1;refine⟨done',t',q',P,?_,idx',g2,by rw[show((k+1:Nat):Int)=(k:Int)+1 from Ab];exact g3,by rw[show((k+1:Nat):Int)=(k:Int)+1 from Ab];exact g4⟩;unfold Gk;rw[Dh (AgL Ab),De Ab Ab,e1',C3 rfl];have g1':CQ (λσ=>Gj F0 picks (k:Int) (Iz ((k:Int)+1+q.ae.ah) ps L,DJ q ps idx ((k:Int)+1),P) σ.1 σ.2.1 σ.2.2.1 σ.2.2.2.1 σ.2.2.2.2.1 σ.2.2.2.2.2.1 σ.2.2.2.2.2.2.1 σ.2.2.2.2.2.2.2.1 σ.2.2.2.2.2.2.2.2.1 σ.2.2.2.2.2.2.2.2.2.1 σ.2.2.2.2.2.2.2.2.2.2.1 σ.2.2.2.2.2.2.2.2.2.2.2.1 σ.2.2.2.2.2.2.2.2.2.2.2.2) F0
   (done,0,(DJ q ps idx ((k:Int)+1)).ae.ah,(DJ q ps idx ((k:Int)+1)).ae.aa,(DJ q ps idx ((k:Int)+1)).a7,(DJ q ps idx ((k:Int)+1)).a6,(DJ q ps idx ((k:Int)+1)).ao,(DJ q ps idx ((k:Int)+1)).aj,P,t.aI,t.aN,t.a6,t.ag)=_:=g1
 rw[g1',C3 rfl,G6];rfl
theorem Aa2 (hc:c≤20)(ha:Ae picks≤80):∀(d m k:Nat) (done:List A1) (t:Bl) (q:A2) (ps:List Aw),k+d=Ae picks→d<m→S2 c k done t q ps→
  ∃k' done' t' q' ps',CQ (λσ=>Gk F0 picks σ.1 σ.2.1 σ.2.2.1 σ.2.2.2.1 σ.2.2.2.2.1 σ.2.2.2.2.2.1 σ.2.2.2.2.2.2.1 σ.2.2.2.2.2.2.2.1 σ.2.2.2.2.2.2.2.2.1 σ.2.2.2.2.2.2.2.2.2.1 σ.2.2.2.2.2.2.2.2.2.2.1 σ.2.2.2.2.2.2.2.2.2.2.2.1 σ.2.2.2.2.2.2.2.2.2.2.2.2) m
    (done,(k:Int),t.aI,t.aN,t.a6,t.ag,q.ae.ah,q.ae.aa,q.a7,q.a6,q.ao,q.aj,ps) =
    Ad (.go (done',q'.ae.ah,q'.ae.aa,q'.a7,q'.a6,q'.ao,q'.aj,ps'))∧S2 c k' done' t' q' ps':=by
 intro d
 induction d with
 | zero=>
  intro m k done t q ps h hm hs;obtain⟨m,rfl⟩:∃k,m=k+1:=⟨m-1,Ab⟩
  have hb:Gk F0 picks done (k:Int) t.aI t.aN t.a6 t.ag q.ae.ah q.ae.aa q.a7 q.a6 q.ao q.aj ps=Ad (.out (.go (done,q.ae.ah,q.ae.aa,q.a7,q.a6,q.ao,q.aj,ps))):=by
   unfold Gk;rw[CV (AgN Ab)]
  exact⟨k,done,t,q,ps,by rw[CQ];simp only[hb],hs⟩
 | succ d ih=>
  intro m k done t q ps h hm hs;obtain⟨m,rfl⟩:∃k,m=k+1:=⟨m-1,Ab⟩
  obtain⟨done',t',q',ps',h1,h2⟩:=ZX hc (picks:=picks) (k:=k) Ab Ab hs;obtain⟨k2,done2,t2,q2,ps2,h3,h4⟩:=ih m (k+1) done' t' q' ps' Ab Ab h2;exact⟨k2,done2,t2,q2,ps2,by rw[CQ];simp only[h1];exact h3,h4⟩
def Tz (done:List A1)(s:A1):Nat:=Ae (done.filter λx=>Ac (x=s))
theorem Adb (h:done.Nodup)(s:A1):Tz done s≤1:=
 LZ (m:=[s]) (h.filter _) λx hx=>List.mem_singleton.2 (Ahi (List.mem_filter.1 hx).2)
theorem Ada (h:Tz done s=0):s ∉ done:=λhm=>by
 have:=Ahg h;exact absurd (List.mem_filter.2 ⟨hm,AgL rfl⟩) (by rw[this];simp)
theorem Aaz (hl:Ae done≤100)(hs:Hx i=Ad s):∀(d m j n:Nat),j+d=Ae done→d<m→n≤j→
  ∃a1 a2 a3,CQ (λσ=>Gh done i σ.1 σ.2) m ((n:Int),(j:Int))=Ad (.go (((n+Tz (done.drop j) s:Nat):Int),a1,a2,a3)):=by
 intro d
 induction d with
 | zero=>
  intro m j n h hm hn;obtain⟨m,rfl⟩:∃k,m=k+1:=⟨m-1,Ab⟩
  have hb:Gh done i (n:Int) (j:Int)=Ad (.out (.go ((n:Int),(j:Int),(j:Int),Ac ((j:Int)<(Ae done:Int))))):=by
   unfold Gh;rw[CV (AgN Ab)]
  exact⟨_,_,_,by rw[CQ];simp only[hb];rw[List.drop_of_length_le Ab];rfl⟩
 | succ d ih=>
  intro m j n h hm hn;obtain⟨m,rfl⟩:∃k,m=k+1:=⟨m-1,Ab⟩
  have hj:j<Ae done:=Ab
  have hd:=List.drop_eq_getElem_cons hj;have hb:Gh done i (n:Int) (j:Int)=Ad (.next ((bif Ac (done[j]=s) then((n:Int)+1) else(n:Int)),((j+1:Nat):Int))):=by
   unfold Gh;rw[Dh (AgL Ab),HB Ab Ab,hs,C8 An,Mm hj,Aak,C8 (by cases Ac (done[j]=s)<;>simp[imp,RM (show -9223372036854775808≤(n:Int)+1 by omega) Ab]),De Ab Ab];rfl
  unfold Tz;rw[hd]
  by_cases he:done[j]=s
  ·rw[AgL he] at hb;obtain⟨a1,a2,a3,h1⟩:=ih m (j+1) (n+1) Ab Ab Ab;refine⟨a1,a2,a3,?_⟩;rw[CQ];simp only[hb];rw[List.filter_cons_of_pos (by simpa using he),Ahc];have e:((n+1:Nat):Int)=(n:Int)+1:=Ab
   rw[e] at h1;rw[show n+((done.drop (j+1)).filter (λx=>Ac (x=s))).length.succ=n+1+Tz (done.drop (j+1)) s from by unfold Tz;omega];exact h1
  ·rw[AgN he] at hb;obtain⟨a1,a2,a3,h1⟩:=ih m (j+1) n Ab Ab Ab;refine⟨a1,a2,a3,?_⟩;rw[CQ];simp only[hb];rw[List.filter_cons_of_neg (by simpa using he)];exact h1
theorem Aa0 {n:Int}{k:Nat}(hc:Int.tmod n 20+1=(c:Int))(ha:c≤20)(h:S2 c k done t q ps):∀(d m i:Nat),i+d=c→d<m→
  CQ (λσ=>Gi F0 n done q.ae.ah q.ae.aa q.a7 q.a6 q.ao q.aj ps σ) m (i:Int)=Ad (.go ()):=by
 obtain⟨idx,h1,h2,h3⟩:=h;have hdl:=h3.len;intro d
 induction d with
 | zero=>
  intro m i h hm;obtain⟨m,rfl⟩:∃k,m=k+1:=⟨m-1,Ab⟩
  have hb:Gi F0 n done q.ae.ah q.ae.aa q.a7 q.a6 q.ao q.aj ps (i:Int)=Ad (.out (.go ())):=by
   unfold Gi;rw[CV (AgN Ab)]
  rw[CQ];simp only[hb]
 | succ d ih=>
  intro m i h hm;obtain⟨m,rfl⟩:∃k,m=k+1:=⟨m-1,Ab⟩
  have htn:=Rq (i:=i) Ab;obtain⟨a1,a2,a3,h4⟩:=Aaz (done:=done) Ab htn (Ae done) F0 0 0 Ab (by show (Ae done)<6000;omega) (AgU _);have h4':CQ (λσ=>Gh done (i:Int) σ.1 σ.2) F0 (0,0)=_:=h4;rw[Aha,List.drop_zero] at h4';have hle:=Adb h3.nd (IK i);have hb:Gi F0 n done q.ae.ah q.ae.aa q.a7 q.a6 q.ao q.aj ps (i:Int)=Ad (.next ((i+1:Nat):Int)):=by
   unfold Gi;rw[Dh (AgL Ab),h4',C3 rfl,G6];unfold Jn;simp only;rw[CV (AgN Ab)]
   by_cases h0:Tz done (IK i)=0
   ·have hhas:O0 q (IK i)=Af:=(U2 h1 _).2 ((h3.cov i Ab).resolve_right (Ada h0));have hu:SK F0 ⟨⟨q.ae.ah,q.ae.aa⟩,q.aj,q.a7,q.a6,q.ao⟩ ps (IK i)=Ad (O0 q (IK i)):=TT Al h1 _;rw[Dh (AgL Ab),htn,C3 rfl,hu,C3 rfl,hhas];unfold Hd;rw[C8 An,De Ab Ab];rfl
   ·rw[CV (AgN Ab)];unfold Hd;rw[C8 An,De Ab Ab];rfl
  rw[CQ];simp only[hb];exact ih m (i+1) Ab Ab
theorem Ad0:Rm (Ch.mk 3 10)=Ad ((⟨⟨3,10⟩,[],[],0,0⟩,[]),()):=rfl
theorem AdO:RH 100 1000=Ad (⟨100,1000,0,[]⟩,()):=rfl
theorem QI0:QI ⟨⟨3,10⟩,[],[],0,0⟩ [] []:=⟨Al,Al,AgM _,Aj,List.Pairwise.nil,Aj,Aj,Al,Aj,Aj,Al,Aj,Aj⟩
theorem VI {n:Int}(hn:Dc .u8 n=Af)(picks:List Int):Uo F0 n picks=Ad Af:=by
 have h0:0≤n∧n≤255:=by simpa[Dc,IntKind.min,IntKind.max,IntKind.signed,IntKind.bits] using hn
 unfold Uo
 by_cases hb:80<(Ae picks:Int)
 ·rw[Dh (AgL hb),show JG F0=Ad Af from NA,C3 rfl]
 ·have hm:Int.tmod n 20=n % 20:=Int.tmod_eq_emod_of_nonneg h0.1;obtain⟨c,hc⟩:∃c:Nat,Int.tmod n 20+1=(c:Int):=⟨(n % 20+1).toNat,by rw[hm];omega⟩
  have ha:c≤20:=by rw[hm] at hc;omega
  rw[CV (AgN hb),Ad0,C8 An,C3 rfl,AdO,C8 An,C3 rfl,De Ab Ab,De Ab Ab];obtain⟨q1,ps1,h1,idx,i1,i2,i3,i4⟩:=Xt hc ha c F0 0 ⟨⟨3,10⟩,[],[],0,0⟩ [] Ab (by show c<6000;omega) ⟨[],QI0,⟨Al,Al,Al⟩,rfl,AgM _⟩;have h1':CQ (λσ=>Gl F0 n σ.1 σ.2.1 σ.2.2.1 σ.2.2.2.1 σ.2.2.2.2.1 σ.2.2.2.2.2.1 σ.2.2.2.2.2.2.1 σ.2.2.2.2.2.2.2) F0 (0,3,10,[],0,0,[],[])=_:=h1;simp only;rw[h1',C3 rfl,G6];unfold Ly;have hS:S2 c 0 [] ⟨100,1000,0,[]⟩ q1 ps1:=by
   refine⟨idx,i1,by rw[i3];exact Ahs _,⟨⟨rfl,rfl,⟨Ahs _,Ahs _⟩,(λs=>by simp[CI,mget]),(λs r hr=>by cases hr),Aj,rfl⟩,List.nodup_nil,λs hs=>?_,λi hi=>.inl (i4.symm.subset (List.mem_map.2 ⟨i,List.mem_range.2 hi,rfl⟩))⟩⟩;rcases hs with hs | hs
   ·obtain⟨i,hi,e⟩:=List.mem_map.1 (i4.subset hs);exact⟨i,List.mem_range.1 hi,e.symm⟩
   ·cases hs
  obtain⟨k2,done2,t2,q2,ps2,h2,h3⟩:=Aa2 ha (picks:=picks) Ab (Ae picks) F0 0 [] ⟨100,1000,0,[]⟩ q1 ps1 Ab (by show (Ae picks)<6000;omega) hS;have h2':CQ (λσ=>Gk F0 picks σ.1 σ.2.1 σ.2.2.1 σ.2.2.2.1 σ.2.2.2.2.1 σ.2.2.2.2.2.1 σ.2.2.2.2.2.2.1 σ.2.2.2.2.2.2.2.1 σ.2.2.2.2.2.2.2.2.1 σ.2.2.2.2.2.2.2.2.2.1 σ.2.2.2.2.2.2.2.2.2.2.1 σ.2.2.2.2.2.2.2.2.2.2.2.1 σ.2.2.2.2.2.2.2.2.2.2.2.2) F0 (([]:List A1),0,100,1000,0,[],q1.ae.ah,q1.ae.aa,q1.a7,q1.a6,q1.ao,q1.aj,ps1)=_:=h2;simp only;rw[h2',C3 rfl,G6];unfold Lx;simp only;have h7:=Aa0 hc ha h3 c F0 0 Ab (by show c<6000;omega);have h7':CQ (λσ=>Gi F0 n done2 q2.ae.ah q2.ae.aa q2.a7 q2.a6 q2.ao q2.aj ps2 σ) F0 0=_:=h7;rw[h7',C3 rfl,G6];unfold Lv;rw[show JG F0=Ad Af from NA,C3 rfl]
end Go.Proofs.YtinflkgbhkcfnaaGreatDoor
namespace Go.Proofs.YtinflkgbhkcfnaaGreatDoor.lawTopIdempotent
open Go
theorem law:Law:=λ_ y1 o0 _=>⟨6000,VI o0 y1⟩
end Go.Proofs.YtinflkgbhkcfnaaGreatDoor.lawTopIdempotent
