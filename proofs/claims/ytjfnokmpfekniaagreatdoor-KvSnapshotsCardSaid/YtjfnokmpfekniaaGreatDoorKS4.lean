/-
  Texts of the proof, put together: QJ, QX, WFr, PKd, WKd, PKe, WKe, PKf, WKf, OkKvSnapshots, LhA, LhB, LvA, LvB, LvC, LvD, LvE, LvF, LvG, LvH, LvI, LvJ, LvK, LvL, LvM.
-/
import Derived.Test.YtjfnokmpfekniaaGreatDoorKS3
import Derived.ScopeJumps
import Derived.Laws.CopyRow
import Derived.Laws.IdiomCopy
import Derived.Laws.OwnMore
import GoSem.ClaimData
namespace Go.Proofs.YtjfnokmpfekniaaGreatDoor.Q
open Go Go.RowKit
set_option linter.unusedVariables false
set_option linter.unusedSimpArgs false
section
variable {P : Program} {n : Nat} {c : Cx} {Q : Exit → Act → World → Prop} {l : Fr} {H : List Ent} {x rest' : Code} {K : Act → World → Prop}
theorem JY {lb:Nat}(h:WK n c (Q (.goto lb)) l H):WC P n c (.goto lb) Q l H:=λa w Z ha hw=>wp_goto (h a w Z ha hw)
theorem BR {lb:Nat}(h:WK n c (Q (.goto lb)) l H):WK n c (Exit.then K Q (.goto lb)) l H:=h
theorem Gw {id lb:Nat}(h:WK n c (Q (.goto lb)) l H):WK n c (Exit.inBlock id Q (.goto lb)) l H:=h
theorem J5 {id lb:Nat}(h:WK n c (Q (.goto lb)) l H):WK n c (YB id K Q (.goto lb)) l H:=h
theorem Zj {lb:Nat}(h:WK n c (Q .ret) l H):WK n c (Exit.jump lb K Q .ret) l H:=h
theorem JW {lb:Nat}(h:WK n c K l H):WK n c (Exit.jump lb K Q (.goto lb)) l H:=λa w Z ha hw=>⟨rfl,h a w Z ha hw⟩
theorem Pf {S:Type}(lb:Nat)(inv:S→Prop)(fr:S→Fr)(hp:S→List Ent)(hf:findLabel x lb=some rest')
  (h1:WC P n c x (Exit.jump lb (HY n c inv fr hp) Q) l H) (h2:∀s,inv s→WC P n c rest' (Exit.noGoto Q) (fr s) (hp s)):WC P n c (.scope x) Q l H:=λa w Z ha hw=>
 wp_scope_jumps lb (HY n c inv fr hp) (λ_ _=>0) hf (h1 a w Z ha hw) (by
  rintro a w ⟨s,Z,hi,ha,hw⟩;refine wp_mono (h2 s hi a w Z ha hw) λe a w q=>?_
  cases e with
  | goto _=>exact q.elim
  | _=>exact q)
end
section
variable {P : Program} {n : Nat} {c : Cx} {ops : Array Oper} {Q : Exit → Act → World → Prop} {rest : List Oper} {l : Fr} {H H' : List Ent} {d : Nat} {d' : Option Nat} {x y z3 z4 : Operand} {ty t t' e : TypeId} {pos : String} {af : Array Edge} {g : Option (Nat × Bool)} {v u : Value} {r : Rp} {sz : Nat}
theorem MZ {α:Type}{ys:List α}{enc:α→List Rp}{k' k'':IntKind}{j:Int}(ht:P.underlying t=some (.slice e))(hz:∀w,(sizeOf e).run P w = .ok sz w)(h:ev l x=some (AQ sz (ys.map enc)))(hj:ev l z3=some (rI k' j))(hm:ev l z4=some (rI k'' j))(hg2:HU j (ys.length:Int)=true) :
  Bn P n c l H { dst:=d',op:=.slice t x none (some z3) (some z4),type:=ty,pos:=pos,after:=af,guard:=g } (AQ sz ((ys.take j.toNat).map enc)):=λa w Z ha hw=>by
 obtain⟨A,cap,e1,hc1,hc2,hA,hc⟩:=ha.ev h;have h0:=(Dx hg2).1;have h2:=(Dx hg2).2;simp only[AcR] at e1 hc1;have h3:j≤(cap:Int):=by omega
 refine⟨.slice A j.toNat j.toNat,⟨A,j.toNat,?_,?_,by omega,?_,λq cl hq=>?_⟩,?_⟩
 ·congr 1
  simp;omega
 ·simp;omega
 ·intro hn;have:=hA hn;omega
 ·rw[Adr,Adw] at hq
  split at hq
  ·exact hc q cl (by rw[Adr];exact hq)
  ·cases hq
 ·have hA':A.map (λb=>b.add 0)=A:=by
   cases A with
   | none=>rfl
   | some ad=>obtain⟨b,o,sp⟩:=ad;cases sp<;>rfl
  simp[execOp,e1,ha.eval hj,ha.eval hm,Instr.sliceAt,Instr.slice,run_underlying ht,Instr.sliceBounds,B8 (m:=cap) _ _ h0 h3,B8 (m:=j.toNat) _ _ h0 (by omega),hz]
  try (intro _;cases A<;>rfl)
theorem Zm {α:Type}{enc:α→List Rp}{inf:TypeInfo}{z:Value}{kl kc:IntKind}{m:Int}{bytes:Nat}(ht:P.underlying t=some (.slice e))(hinf:P.info? e=some inf)(hz:inf.zero=some z)(hsize:inf.size=sz)(hby:inf.bytes=bytes)(hbp:Nat.blt 0 bytes=true)
  (hx:ev l x=some (rI kl 0)) (hy:ev l y=some (rI kc m)) (hg:Dw bytes m.toNat=true) (hg0:decide (0≤m)=true) (hn:Nat.blt d n=true)
  (h:∀v',WL P n c ops Q rest ((d,rv v')::l) (.row v' e sz (([]:List α).map enc)::H)) :
  WL P n c ops Q ({ dst:=some d,op:=.makeSlice t x y,type:=ty,pos:=pos,after:=af,guard:=none }::rest) l H:=
 J4 (λa w Z ha hw=>by
  have hm0:0≤m:=by simpa using hg0
  have hb:m.toNat*bytes≤140737488355328:=by simpa[Dw] using hg
  have hbp':0<bytes:=by simpa using hbp
  have hle:m.toNat≤m.toNat*bytes:=Nat.le_mul_of_pos_right _ hbp';obtain⟨w',e1,e2,e3⟩:=run_make_own (P:=P) w 0 t e inf z sz ht hinf hz hsize kl kc m.toNat (by rw[hby,Nat.mul_comm];omega) (by simp only[maxLen];omega) (Adt _);have em:(m.toNat:Int)=m:=Int.toNat_of_nonneg hm0;rw[em] at e1;refine⟨_,w',_,_,Z,by simp[execOp,ha.eval hx,ha.eval hy,e1],Fz.le.refl _,rfl,hw.add e3.os e3.tape e3.output e3.size (λk hk=>e3.block k hk (by simp)) (e':=.row _ e sz (([]:List α).map enc)) ⟨by simp,[],e2,trivial⟩ (by simp[Ent.foot,Value.ownBlock]),h _⟩) hn
end
structure Sx where
 deps:List Nat
 r:Value→Rp
 dyn:Bool:=false
 old:List Nat:=[]
def IP (sp:List Sx)(i:Nat):Sx:=sp.getD i { deps:=[],r:=λ_=>rv undef }
def YX (sp:List Sx)(u:Value):List Sp:=sp.map λs=>⟨s.deps,s.r u,0⟩
def saU (sp:List Sx)(u:Value):List Sa:=sp.map λs=>{ deps:=s.deps,r:=s.r u }
def Pb:List Sx→Prop
 | []=>True
 | s::r=>(s.dyn=false→∀u u',s.r u=s.r u')∧Pb r
theorem Pb.at:∀{sp:List Sx},Pb sp→∀{i:Nat} {s:Sx},sp[i]? =some s→s.dyn=false→∀u u',s.r u=s.r u'
 | [],_,i,s,h=>by simp at h
 | x::sp,⟨h1,h2⟩,0,s,h=>by simp at h;subst h;exact h1
 | x::sp,⟨h1,h2⟩,i+1,s,h=>Pb.at h2 (by simpa using h)
theorem Aco {ds os:List Nat}{r:Rp}{sp:List Sx}(h:Pb sp):Pb ({ deps:=ds,r:=λ_=>r,old:=os }::sp):=⟨λ_ _ _=>rfl,h⟩
theorem Acn {ds os:List Nat}{r:Value→Rp}{sp:List Sx}(h:Pb sp):Pb ({ deps:=ds,r:=r,dyn:=true,old:=os }::sp):=⟨λh'=>(by cases h'),h⟩
def Jo (lw:Fr):List Nat→Fr→Fr
 | [],l=>l
 | d::r,l=>match look lw d with
  | some q=>(d,q)::Jo lw r l
  | none=>Jo lw r l
theorem Uy {n:Nat}{lw l:Fr}{a:Act}{Z:Fz}(h0:Dl n l a Z):∀{ds:List Nat},(∀d∈ds,∀q,look lw d=some q→∃v,a.tmps[d]? =some v∧q.p Z v)→Dl n (Jo lw ds l) a Z
 | [],_=>h0
 | d::ds,h=>by
  have ih:=Uy h0 (ds:=ds) (λd' hd'=>h d' (by simp[hd']));unfold Jo
  cases hd:look lw d with
  | none=>exact ih
  | some q=>
   refine⟨ih.size,ih.defers,λi r hi=>?_⟩;rw[Cy] at hi
   split at hi
   ·rename_i e;subst e;simp at hi;subst hi;exact h d (by simp) q hd
   ·exact ih.tm i r hi
theorem Acm:Pb []:=trivial
def okX (n:Nat)(ops:List Oper)(N i0:Nat)(keys:List Nat)(deps:List (List Nat))(dyns:List Bool)(olds:List (List Nat)):Bool:=
 QI ops N&&decide (N≤ops.length)&&decide (i0<N)&&
 (List.range N).all (λi=>match CI ops i with
  | some d=>decide (d<n)&&!keys.contains d&&(List.range N).all (λj=>j ==i||CI ops j !=some d)
  | none=>true)&&
 (List.range N).all (λi=>(deps.getD i []).all (λj=>decide (j<N)&&(Gb (ops.getD i default)).contains j))&&
 (List.range N).all (λi=>!dyns.getD i false||i ==i0||(Gb (ops.getD i default)).any (λe=>decide (e<N)&&(e ==i0||dyns.getD e false)))&&
 (List.range N).all (λi=>(olds.getD i []).all (λd=>(List.range N).all (λw=>CI ops w !=some d||(Gb (ops.getD w default)).contains i)))
section
variable (P : Program) (n : Nat) (c : Cx) (opsA : Array Oper) (Q : Exit → Act → World → Prop)
def OpX (l:Fr)(H:List Ent)(o:Oper)(H1:Value→List Ent):Prop:=
 ∀a w Z (K:Act→World→Prop),Dl n l a Z→St c H Z w→(∀v w' Z',Fz.le Z Z'→St c (H1 v) Z' w'→K (a.put o.dst v) w')→
  Region.wanted o (yielded opsA a.tmps)=true∧o.wp P a w K Q
def MK (ops:List Oper)(sp:List Sx)(l0 lw:Fr)(i0:Nat)(H:List Ent)(H1:Value→List Ent):Nat→List Oper→Prop
 | i,o::rest=>(if i=i0 then(∀u,OpX P n c opsA Q (Jo lw (IP sp i).old (Cl ops (YX sp u) (IP sp i).deps l0)) H o H1) else ∀u H,GA P n c opsA Q (Jo lw (IP sp i).old (Cl ops (YX sp u) (IP sp i).deps l0)) H o ((IP sp i).r u) H)∧MK ops sp l0 lw i0 H H1 (i+1) rest
 | _,[]=>True
end
section
variable {P : Program} {n : Nat} {c : Cx} {opsA : Array Oper} {Q : Exit → Act → World → Prop} {l l0 lw : Fr} {H : List Ent} {H1 : Value → List Ent} {sp : List Sx} {i0 : Nat}
theorem MK.at {ops:List Oper}:∀{k:Nat} {rest:List Oper},MK P n c opsA Q ops sp l0 lw i0 H H1 k rest→∀(t:Nat) o,rest[t]? =some o→
  (if k+t=i0 then(∀u,OpX P n c opsA Q (Jo lw (IP sp (k+t)).old (Cl ops (YX sp u) (IP sp (k+t)).deps l0)) H o H1) else ∀u H,GA P n c opsA Q (Jo lw (IP sp (k+t)).old (Cl ops (YX sp u) (IP sp (k+t)).deps l0)) H o ((IP sp (k+t)).r u) H)
 | k,o::rest,⟨h1,h2⟩,t,o',ht=>by
  cases t with
  | zero=>simp at ht;subst ht;exact h1
  | succ t=>
   have:=MK.at h2 t o' (by simpa using ht);rw[show k+(t+1)=k+1+t from by omega];exact this
 | _,[],_,t,o,h=>by simp at h
theorem Zk {id:Nat}{ops:List Oper}(N i0:Nat)(sp:List Sx)(hm:P.follows .mixedOrders=true)(hB:okX n ops N i0 (Gk l0) (sp.map (·.deps)) (sp.map (·.dyn)) (sp.map (·.old))=true)(hl0:Wd l0 l)(hlw:Wd lw l)(hsp:sp.length=N)(hst:Pb sp)(hri:∀u,(IP sp i0).r u=rv u)
  (hob:MK P n c ops.toArray Q ops sp l0 lw i0 H H1 0 (ops.take N)) (h:∀u,WL P n c ops.toArray Q (ops.drop N) (Nn (λ_=>0) (ops.take N) (saU sp u) 0 l0) (H1 u)):WC P n c (.region id ops.toArray true) Q l H:=by
 intro a w Z ha hw;simp only[okX,AcG,Adn,List.mem_range,Ac9] at hB;obtain⟨⟨⟨⟨⟨⟨b1,bN⟩,b0⟩,b2⟩,b3⟩,b4⟩,b5⟩:=hB;have hget:∀i,i<N→(ops.take N)[i]? =ops[i]?:=λi hi=>by rw[Adw,Ad2 hi]
 have hsa:∀i,i<N→sp[i]? =some (IP sp i):=λi hi=>by
  simp[IP,AcN,AcL (show i<sp.length by omega)]
 have hspq:∀u i,i<N→(Ep (YX sp u) i)=⟨(IP sp i).deps,(IP sp i).r u,0⟩:=λu i hi=>by
  simp[Ep,YX,AcN,Adr,hsa i hi]
 have hdyn:∀j,j<N→(sp.map (·.dyn)).getD j false=(IP sp j).dyn:=λj hj=>by simp[AcN,Adr,hsa j hj]
 have hdep:∀j,j<N→(sp.map (·.deps)).getD j []=(IP sp j).deps:=λj hj=>by simp[AcN,Adr,hsa j hj]
 have hops:∀j,j<N→∃o,ops[j]? =some o:=λj hj=>⟨ops[j]'(by omega),AcL (by omega)⟩
 have hdst:∀i o d,i<N→ops[i]? =some o→o.dst=some d→(d<n∧d ∉ Gk l0)∧∀j,j<N→j≠i→CI ops j≠some d:=λi o d hi ho hd=>by
  have h3:=b2 i hi;have:CI ops i=some d:=by simp[CI,ho,hd]
  rw[this] at h3;simp only[AcG,AcV,Adn,List.mem_range,Ac9] at h3;refine⟨⟨h3.1.1,λhmem=>by rw[← List.contains_iff_mem] at hmem;rw[hmem] at h3;cases h3.1.2⟩,λj hj hne he=>?_⟩;have:=h3.2 j hj;simp[hne,he] at this
 refine Ws (N:=N) hm b1 bN (λS a w=>∃ (u:Value) (Z:Fz),St c (if S i0=true then H1 u else H) Z w∧Dl n l0 a Z∧(∀j o d,j<N→S j=true→ops[j]? =some o→o.dst=some d→∃v,a.tmps[d]? =some v∧((IP sp j).r u).p Z v)∧
   (∀j,j<N→(IP sp j).dyn=true→S j=true→S i0=true)∧
   (∀d q,look lw d=some q→(∀wr,wr<N→CI ops wr=some d→S wr=false)→∃v,a.tmps[d]? =some v∧q.p Z v)∧
   ∀wr i d,wr<N→i<N→CI ops wr=some d→d∈(IP sp i).old→S wr=true→S i=true)
  (λS S' a w hS hI=>?_) ⟨undef,Z,?_,ha.subL hl0,λj o d _ hS=>(by cases hS),λj _ _ hS=>(by cases hS),λd q hd _=>(ha.subL hlw).tm d q hd,λwr i d _ _ _ _ hS=>(by cases hS)⟩ (λS i o a w hi hun ho hb hI K hK=>?_) (λa w hI=>?_)
 ·obtain⟨u,Z,h1,h2,h3,h4,h5,h6⟩:=hI;refine⟨u,Z,?_,h2,λj o d hj hS'=>h3 j o d hj (by rw[hS j hj];exact hS'),λj hj hd hSj=>?_,λd q hd hw'=>h5 d q hd (λwr hwr hdw=>by rw[hS wr hwr];exact hw' wr hwr hdw),λwr i d hwr hi hdw hold hSw=>by rw[← hS i hi];exact h6 wr i d hwr hi hdw hold (by rw[hS wr hwr];exact hSw)⟩
  ·rw[← hS i0 b0];exact h1
  ·rw[← hS i0 b0];exact h4 j hj hd (by rw[hS j hj];exact hSj)
 ·exact hw.drawn _
 ·obtain⟨u,Z,h1,h2,h3,hx,ho5,ho6⟩:=hI;have hput:∀k u v,a.tmps[k]? =some u→o.dst≠some k→(a.put o.dst v).tmps[k]? =some u:=λk u v hk hne=>by
   cases hd:o.dst with
   | none=>simpa[Act.put] using hk
   | some d=>
    simp only[Act.put,Array.getElem?_setIfInBounds];rw[Adp (λe=>hne (by rw[hd,e]))];exact hk
  have hagr:∀v Z',Fz.le Z Z'→Dl n l0 (a.put o.dst v) Z':=λv Z' hz=>by
   refine⟨?_,?_,λk r hk=>?_⟩
   ·cases o.dst<;>simp[Act.put,h2.size]
   ·cases o.dst<;>simp[Act.put,h2.defers]
   ·obtain⟨u,hu,hpu⟩:=h2.tm k r hk;exact⟨u,hput k u v hu (λe=>((hdst i o k hi ho e).1).2 (LL hk)),r.mono hz hpu⟩
  have hvals:∀(v:Value) (Z':Fz) (u':Value),Fz.le Z Z'→(∀j,j<N→j≠i→S j=true→(IP sp j).r u'=(IP sp j).r u)→(o.dst≠none→((IP sp i).r u').p Z' v)→∀j o' d,j<N→(j ==i||S j)=true→ops[j]? =some o'→o'.dst=some d→∃q,(a.put o.dst v).tmps[d]? =some q∧((IP sp j).r u').p Z' q:=by
   intro v Z' u' hz hβ hp j o' d hj hS' ho' hd
   by_cases hji:j=i
   ·subst hji;rw[ho] at ho';simp at ho';subst ho';refine⟨v,?_,hp (by simp[hd])⟩;have hdn:d<a.tmps.size:=by rw[h2.size];exact(hdst j o d hi ho hd).1.1
    simp[Act.put,hd,hdn]
   ·have hSj:S j=true:=by simpa[hji] using hS'
    obtain⟨q,hu,hpu⟩:=h3 j o' d hj hSj ho' hd;refine⟨q,hput d q v hu (λe=>(hdst i o d hi ho e).2 j hj hji (by simp[CI,ho',hd])),?_⟩;rw[hβ j hj hji hSj];exact((IP sp j).r u).mono hz hpu
  have hat:=hob.at i o (by rw[hget i hi];exact ho);rw[Adv] at hat;have hold':∀Z',Fz.le Z Z'→∀v d q,look lw d=some q→(∀wr,wr<N→CI ops wr=some d→(wr ==i||S wr)=false)→∃v',(a.put o.dst v).tmps[d]? =some v'∧q.p Z' v':=λZ' hz v d q hd hw'=>by
   obtain⟨v',e1,e2⟩:=ho5 d q hd (λwr hwr hdw=>by have:=hw' wr hwr hdw;simp only[Adf] at this;exact this.2);refine⟨v',hput d v' v e1 (λe=>?_),q.mono hz e2⟩;have:=hw' i hi (by simp[CI,ho,e]);simp at this
  have hord:∀wr k d,wr<N→k<N→CI ops wr=some d→d∈(IP sp k).old→(wr ==i||S wr)=true→(k ==i||S k)=true:=λwr k d hwr hk hdw hmem hSw=>by
   by_cases hwi:wr=i
   ·subst hwi;have h7:=b5 k hk d (by simpa[AcN,Adr,hsa k hk] using hmem) wr hwr;simp only[Adu,bne_iff_ne,ne_eq,hdw,not_true_eq_false,false_or] at h7;rw[AcN,ho,Adj,List.contains_iff_mem] at h7;simp[(hb k h7).2]
   ·have:S k=true:=ho6 wr k d hwr hk hdw hmem (by simpa[hwi] using hSw);simp[this]
  have hag':Dl n (Jo lw (IP sp i).old (Cl ops (YX sp u) (IP sp i).deps l0)) a Z:=Uy (Me h2 (λj hj d hd=>by
    obtain⟨h5,h6⟩:=b3 i hi j (by rw[hdep i hi];exact hj);rw[AcN,ho,Adj,List.contains_iff_mem] at h6;obtain⟨o2,ho2⟩:=hops j h5;obtain⟨v,hv1,hv2⟩:=h3 j o2 d h5 (hb j h6).2 ho2 (by simpa[CI,ho2] using hd);refine⟨v,hv1,?_⟩;rw[hspq u j h5];exact hv2)) (λd hd q hq=>ho5 d q hq (λwr hwr hdw=>by
     cases hS:S wr with
     | false=>rfl
     | true=>have:=ho6 wr i d hwr hi hdw hd hS;rw[this] at hun;cases hun))
  by_cases hi0:i=i0
  ·subst hi0;rw[Ad2 rfl] at hat;rw[hun] at h1;have h1':St c H Z w:=by simpa using h1
   have key:=λK' hK'=>hat u a w Z K' hag' h1' hK';have h5:∀v w' Z',Fz.le Z Z'→St c (H1 v) Z' w'→K (a.put o.dst v) w':=λv w' Z' hz hs'=>by
    refine hK _ _ ⟨v,Z',by simpa using hs',hagr v Z' hz,hvals v Z' v hz (λj hj hji hSj=>?_) (λ_=>by rw[hri v];rfl),λj _ _ _=>by simp,hold' Z' hz v,hord⟩;refine hst.at (hsa j hj) ?_ v u
    cases hd:(IP sp j).dyn with
    | false=>rfl
    | true=>have:=hx j hj hd hSj;rw[this] at hun;cases hun
   refine⟨λ_=>(key K h5).2,λhw'=>?_⟩;rw[(key K h5).1] at hw';cases hw'
  ·rw[Adp hi0] at hat;refine hat u _ a w Z K hag' h1 (λv w' Z' hz hp hst'=>hK _ _ ⟨u,Z',?_,hagr v Z' hz,hvals v Z' u hz (λ_ _ _ _=>rfl) (λ_=>hp),λj hj hd hSj=>?_,hold' Z' hz v,hord⟩)
   ·have hiS:(i0 ==i||S i0)=S i0:=by
     have:(i0 ==i)=false:=by simpa using λe=>hi0 e.symm
     rw[this];rfl
    show St c (if (i0 ==i||S i0)=true then H1 u else H) Z' w';rw[hiS];exact hst'
   ·have hii:(i0 ==i)=false:=by simpa using λe=>hi0 e.symm
    show(i0 ==i||S i0)=true;rw[hii,AcW]
    by_cases hji:j=i
    ·subst hji;have h7:=b4 j hj;rw[hdyn j hj,hd] at h7;simp only[AcP,AcW,Adu,beq_iff_eq,hi0,false_or,List.any_eq_true,AcG,Ac9] at h7;obtain⟨e,he,heN,h8⟩:=h7;rw[AcN,ho,Adj] at he;have hSe:=(hb e he).2;rcases h8 with h8 | h8
     ·subst h8;exact hSe
     ·rw[hdyn e heN] at h8;exact hx e heN h8 hSe
    ·exact hx j hj hd (by simpa[hji] using hSj)
 ·obtain⟨u,Z,h1,h2,h3,_,_,_⟩:=hI;have hsl:(saU sp u).length=N:=by simp[saU,hsp]
  refine h u a w Z (QM h2 _ _ 0 (λt o s d ht hs hd=>?_)) (by simpa using h1);have htN:t<N:=by have:=(List.getElem?_eq_some_iff.1 hs).1;omega
  have hs':s = { deps:=(IP sp t).deps,r:=(IP sp t).r u }:=by
   simp only[saU,Adr,hsa t htN,Option.map_some,Option.some.injEq] at hs;exact hs.symm
  subst hs';rw[Adv];exact h3 t o d htN rfl (by rw[← hget t htN];exact ht) hd
theorem AaF {id:Nat}{ops:List Oper}(N i0:Nat)(ks0 ksw:List Nat)(sp:List Sx)(H1:Value→List Ent)(hob:MK P n c ops.toArray Q ops sp l0 lw i0 H H1 0 (ops.take N))(h:∀u,WL P n c ops.toArray Q (ops.drop N) (Nn (λ_=>0) (ops.take N) (saU sp u) 0 l0) (H1 u))
  (h0:Kp ks0 l l0:=by repeat (first | exact Pp | (apply M5;rfl) | (apply Nq;rfl))) (hw:Kp ksw l lw:=by repeat (first | exact Pp | (apply M5;rfl) | (apply Nq;rfl))) (hm:P.follows .mixedOrders=true:=by kernel_rfl) (hB:okX n ops N i0 (Gk l0) (sp.map (·.deps)) (sp.map (·.dyn)) (sp.map (·.old))=true:=by kernel_rfl)
  (hsp:sp.length=N:=by rfl) (hst:Pb sp:=by repeat (first | exact Acm | apply Aco | apply Acn)) (hri:∀u,(IP sp i0).r u=rv u:=by exact λ_=>rfl):WC P n c (.region id ops.toArray true) Q l H:=Zk N i0 sp hm hB h0.one hw.one hsp hst hri hob h
theorem oxq {all rest:List Oper}{d:Nat}{op:Op}{ty:TypeId}{pos:String}{af:Array Edge}{i:Nat}(hr:∀{u H},Bn P n c (Jo lw (IP sp i).old (Cl all (YX sp u) (IP sp i).deps l0)) H { dst:=some d,op:=op,type:=ty,pos:=pos,after:=af,guard:=none } ((IP sp i).r u))(h:MK P n c opsA Q all sp l0 lw i0 H H1 (i+1) rest)(hne:Nat.beq i i0=false:=by rfl) :
  MK P n c opsA Q all sp l0 lw i0 H H1 i ({ dst:=some d,op:=op,type:=ty,pos:=pos,after:=af,guard:=none }::rest):=by
 refine⟨?_,h⟩;rw[Adp (λe=>by subst e;simp at hne)];exact λu H=>Xl hr
theorem oxc {all rest:List Oper}{o:Oper}{i:Nat}(hr:∀{u H},GA P n c opsA Q (Jo lw (IP sp i).old (Cl all (YX sp u) (IP sp i).deps l0)) H o ((IP sp i).r u) H)(h:MK P n c opsA Q all sp l0 lw i0 H H1 (i+1) rest)(hne:Nat.beq i i0=false:=by rfl):MK P n c opsA Q all sp l0 lw i0 H H1 i (o::rest):=by
 refine⟨?_,h⟩;rw[Adp (λe=>by subst e;simp at hne)];exact λu H=>hr
theorem oxx {all rest:List Oper}{o:Oper}(hr:∀{u},OpX P n c opsA Q (Jo lw (IP sp i0).old (Cl all (YX sp u) (IP sp i0).deps l0)) H o H1)(h:MK P n c opsA Q all sp l0 lw i0 H H1 (i0+1) rest):MK P n c opsA Q all sp l0 lw i0 H H1 i0 (o::rest):=by
 refine⟨?_,h⟩;rw[Ad2 rfl];exact λu=>hr
theorem oxe {all:List Oper}{i:Nat}:MK P n c opsA Q all sp l0 lw i0 H H1 i []:=trivial
end
section
variable {P : Program} {n : Nat} {c : Cx} {opsA : Array Oper} {Q : Exit → Act → World → Prop} {l : Fr} {H : List Ent} {d : Nat} {x y : Operand} {ty t e : TypeId} {pos : String} {af : Array Edge} {v : Value} {sz : Nat}
theorem Wr {α:Type}{xs ys:List α}{enc:α→List Rp}{i:Nat}{inf:TypeInfo}{z:Value}{bytes:Nat}(ht:P.underlying t=some (.slice e))(hinf:P.info? e=some inf)(hz:inf.zero=some z)(hsize:inf.size=sz)(hby:inf.bytes=bytes)(hzs:z.cells.size=sz)(hsz:Nat.blt 0 sz=true)(hbp:Nat.blt 0 bytes=true)
  (hx:ev l x=some (rv v)) (hi:H[i]? =some (.row v e sz (xs.map enc))) (hy:KA P n c l H y sz ys.length (ys.map enc).flatten) (henc:∀z,(enc z).length=sz) (hone:∀z,(enc z).all (·.one)=true) (hg:Dw bytes (xs.length+ys.length)=true) :
  OpX P n c opsA Q l H { dst:=some d,op:=.call { callee:=.builtin .append,args:=#[x,y],argTypes:=#[t,t] },type:=ty,pos:=pos,after:=af,guard:=none } (λv'=>.row v' e sz ((xs++ys).map enc)::H.eraseIdx i):=λa w Z K ha hw hK=>by
  obtain⟨h0,us,h1,h2⟩:=hw.ent hi;obtain⟨ws,h3,h4⟩:=hy a w Z ha hw;have hsz':0<sz:=by simpa using hsz
  have hbp':0<bytes:=by simpa using hbp
  have hb:(xs.length+ys.length)*bytes≤140737488355328:=by simpa[Dw] using hg
  have hle:xs.length+ys.length≤(xs.length+ys.length)*bytes:=Nat.le_mul_of_pos_right _ hbp';have hws:∀y∈ws,y.oneCell'=true:=Bp.one (rs:=(ys.map enc).flatten) (by
   rw[Adn];intro r hr;obtain⟨cl,hcl,hrc⟩:=List.mem_flatten.1 hr;obtain⟨z',_,rfl⟩:=List.mem_map.1 hcl;exact List.all_eq_true.1 (hone z') r hrc) h3
  have hxl:(xs.map enc).length=xs.length:=AcR ..;rw[hxl] at h1;obtain⟨v',w',e1,e2,e3,e4⟩:=Ib (P:=P) ty ht hinf hz hsize hby hzs hsz' h1 h4 hws hb (by simp only[maxLen];omega);have hent:(Ent.row v' e sz ((xs++ys).map enc)).holds Z w':=⟨λcl hcl=>by obtain⟨z',_,rfl⟩:=List.mem_map.1 hcl;exact henc z',us++ws,by simpa using e2,by rw[AdA,List.flatten_append];exact h2.append h3⟩
  have hst:=hw.callF hi (St.one (e':=.row v' e sz ((xs++ys).map enc)) (M:=(Ent.row v e sz (xs.map enc)).foot) hw.frz hw.env hw.emono e3.os e3.tape e3.output e3.size (λk hk hne=>e3.block k hk (λe1=>hne (by simp[Ent.foot,← e1])))
   (hw.zdis _ (AcO hi)) hent (λk hk=>by
    simp only[Ent.foot,Option.mem_toList] at hk ⊢;rcases e4 with e4 | e4
    ·exact .inl (e4▸hk)
    ·exact .inr (e4 k hk)))
  refine⟨by simp[Region.wanted],?_⟩;unfold Oper.wp;rw[show(execOp a.eval { dst:=some d,op:=.call { callee:=.builtin .append,args:=#[x,y],argTypes:=#[t,t] },type:=ty,pos:=pos,after:=af,guard:=none }).run P w = .ok (.value v') w' from by simp[execOp,resolve,invoke,builtin,ha.eval hx,e1]];exact hK v' w' Z (Fz.le.refl _) hst
end
set_option maxRecDepth 100000
set_option maxHeartbeats 4000000
theorem OG:∃inf,Tryz.prog.info? 9=some inf∧inf.zero=some (.string ⟨#[]⟩)∧inf.size=1∧inf.bytes=16:=by
  have key:(Tryz.prog.info? 9).map (λi=>(i.zero,i.size,i.bytes))=some (some (.string ⟨#[]⟩),1,16):=by kernel_rfl
  obtain⟨inf,h1,h2⟩:=Option.map_eq_some_iff.1 key;simp only[Prod.mk.injEq] at h2;exact⟨inf,h1,h2.1,h2.2.1,h2.2.2⟩
theorem Yf (F:Nat)  (r:(List Int))(h:OH F=some r):Fn Tryz.prog GE 126 [] [] (λR H=>R=BK (A8 (rI .u32) r)∧H=[]):=by
 refine enter (n:=26) Tryz.func126 rfl Tryz.ntmps126 rfl (λw Z=>?_);unfold OH at h;refine Ag (BM (cs:=A8 (rI .u32) (List.replicate 256 (0:Int))) Tryz.zeroValue151 (by kernel_rfl) rfl (λb1=>?_));refine Bv (BM (cs:=A8 (rI .u32) (List.replicate 256 (0:Int))) Tryz.zeroValue151 (by kernel_rfl) rfl (λb2=>?_));refine Am (Ai (Ag (wv (r:=Ap 0) (Al rfl) (Am (A9 (ob h λhs ht hu=>Bg (S:=Nat×(Int×(List Int))×(Unit)) (V:=((List Int))×(Unit)) 0 (λσ=>B7 (λσ=>G7 F σ.1 σ.2) σ.1 σ.2.1=some hs) (λσ=>[(0,rP b1 0),(1,rP b2 0),(5,Ap σ.2.1.1)]) (λσ=>[.blk b2 (A8 (rI .u32) σ.2.1.2) 151,.blk b1 (A8 (rI .u32) (List.replicate 256 (0:Int))) 151]) (λσ=>σ.1) (F,(0,List.replicate 256 (0:Int)),()) ht (A6.c rfl (A6.c rfl (A6.c rfl A6.nil))) (sC (sC sN)) (λσ=>II σ.1=some r) (λσ=>[(0,rP b1 0),(1,rP b2 0)]) (λσ=>[.blk b2 (A8 (rI .u32) σ.1) 151,.blk b1 (A8 (rI .u32) (List.replicate 256 (0:Int))) 151]) ?_ ?_))))))
 ·rintro⟨hR,⟨ha,hb⟩,⟨⟩⟩ hw;refine BG (l':=[(0,rP b1 0),(1,rP b2 0),(5,Ap ha)]) (H':=[.blk b2 (A8 (rI .u32) hb) 151,.blk b1 (A8 (rI .u32) (List.replicate 256 (0:Int))) 151]) rfl rfl ?_;obtain⟨hx,rfl,hl,hh,ho⟩:=BZ hw;replace hh:G7 F ha hb=some hl:=hh;unfold G7 at hh;refine Ag (wv (Cj rfl rfl) (Am (Ai (cz hh rfl (λhy hz=>?_) (λhy h0=>?_)))))
  ·refine Ar (AJ (Ai (A9 (Ag (wm rfl (wa rfl (Bv (wm rfl (wv (r:=rI .u32 (IntKind.wrap .u32 ha)) (B0 ⟨_,SD⟩ Gr rfl) (wa rfl (Am (Ai (Ag (wv (r:=Ap 0) (Al rfl) (Am (A9 (ob hz λh1 h2 h3=>Bg (S:=Nat×(Int×Int)×(Unit)) (V:=(Int×Int×Bool)×(Unit)) 2 (λσ=>B7 (λσ=>G6 σ.1 σ.2) σ.1 σ.2.1=some h1) (λσ=>[(0,rP b1 0),(1,rP b2 0),(2,Ap ha),(3,rI .u32 σ.2.1.1),(5,Ap ha),(10,Ap σ.2.1.2)]) (λσ=>[.blk b2 (A8 (rI .u32) hb) 151,.blk b1 (A8 (rI .u32) (List.replicate 256 (0:Int))) 151]) (λσ=>σ.1) (F,(IntKind.wrap .u32 ha,0),()) h2 (A6.c rfl (A6.c5 rfl rfl rfl rfl rfl A6.nil)) (sC (sC sN)) (λσ=>IH ha hb σ.1.1 σ.1.2.1 σ.1.2.2=some hl) (λσ=>[(0,rP b1 0),(1,rP b2 0),(2,Ap ha),(3,rI .u32 σ.1.1),(5,Ap ha),(10,Ap σ.1.2.1),(11,rB σ.1.2.2)]) (λσ=>[.blk b2 (A8 (rI .u32) hb) 151,.blk b1 (A8 (rI .u32) (List.replicate 256 (0:Int))) 151]) ?_ ?_)))))))))))))))))
   ·rintro⟨hS,⟨hd,hf⟩,⟨⟩⟩ h4;refine BG (l':=[(0,rP b1 0),(1,rP b2 0),(2,Ap ha),(3,rI .u32 hd),(5,Ap ha),(10,Ap hf)]) (H':=[.blk b2 (A8 (rI .u32) hb) 151,.blk b1 (A8 (rI .u32) (List.replicate 256 (0:Int))) 151]) rfl rfl ?_;obtain⟨h5,rfl,h6,hi,hp⟩:=BZ h4;replace hi:G6 hd hf=some h6:=hi;unfold G6 at hi;refine Ag (wv (Cj rfl rfl) (Am (Ai (cz hi rfl (λh7 h8=>?_) (λh7 h9=>?_)))))
    ·refine Ar (AJ (AK [(0,rP b1 0),(1,rP b2 0),(2,Ap ha),(3,rI .u32 (bif decide ((Lf .u32 hd 1)=1) then E5 .u32 (BH .u32 hd 1) 3988292384 else BH .u32 hd 1)),(5,Ap ha),(10,Ap hf)] [.blk b2 (A8 (rI .u32) hb) 151,.blk b1 (A8 (rI .u32) (List.replicate 256 (0:Int))) 151] ?_ ?_))
     ·refine A9 (Ag (wm rfl (wv (r:=rI .u32 (Lf .u32 hd 1)) (Aa2 rfl rfl) (wa rfl (Bv (wm rfl (wv (r:=rI .u32 (BH .u32 hd 1)) (JF rfl rfl (by decide)) (wa rfl (Bv (wm rfl (wv (B6 rfl rfl) (Am (DZ (b:=decide ((Lf .u32 hd 1)=1)) rfl (λhm=>?_) (λhm=>?_))))))))))))))
      ·refine Ah (wm rfl (wv (r:=rI .u32 (E5 .u32 (BH .u32 hd 1) 3988292384)) (RF rfl rfl) (wa rfl (Ak (AA ?_)))));exact Cm hm
      ·refine Ar (AA ?_);exact Cm hm
     refine Ah (ck h8 λhA hB=>wv (Bk rfl rfl hA) (wm rfl (Ak ?_)));have hC:=Ba hB hp;exact Az (A3 (h5,((bif decide ((Lf .u32 hd 1)=1) then E5 .u32 (BH .u32 hd 1) 3988292384 else BH .u32 hd 1),hf+1),()) ⟨hC,AcM _⟩ (A6.c rfl (A6.c5 rfl rfl rfl rfl rfl A6.nil)) (sC (sC sN)))
    ·refine Bl (As ?_);have hD:=BB h9 hp h3;exact As (AV (A3 ((hd,hf,decide (hf<8)),()) hD (A6.c rfl (A6.c rfl (A6.c5 rfl rfl rfl rfl rfl A6.nil))) (sC (sC sN))))
   ·rintro⟨⟨hg,hq,hr⟩,⟨⟩⟩ hj;refine Cb (l':=[(0,rP b1 0),(1,rP b2 0),(2,Ap ha),(3,rI .u32 hg),(5,Ap ha),(10,Ap hq),(11,rB hr)]) (H':=[.blk b2 (A8 (rI .u32) hb) 151,.blk b1 (A8 (rI .u32) (List.replicate 256 (0:Int))) 151]) rfl rfl ?_;replace hj:IH ha hb hg hq hr=some hl:=hj;unfold IH at hj;refine AW (AJ (Ah (wm rfl (wm rfl (ck hj λhE hG=>wv (r:=rv (.pointer (some ⟨b2,B3 ha,none⟩))) (X1 Tryz.underlying151 Tryz.sizeOf116 rfl rfl hE) (ck hG λhH hI=>UK (enc:=(rI .u32)) (ys:=hb) (v:=hg) (i:=0) Tryz.sizeOf116 rfl rfl (C0 rfl) rfl hH (H':=[.blk b2 (A8 (rI .u32) (List.set hb (B3 ha) hg)) 151,.blk b1 (A8 (rI .u32) (List.replicate 256 (0:Int))) 151]) rfl (Ak (AA (AJ (Ah (ck hI λhJ hK=>wv (Bk rfl rfl hJ) (wm rfl (Ak ?_)))))))))))));have hL:=Ba hK ho;exact Az (A3 (hx,(ha+1,List.set hb (B3 ha) hg),()) ⟨hL,AcM _⟩ (A6.c rfl (A6.c rfl (A6.c rfl A6.nil))) (sC (sC sN)))
  ·refine Bl (As ?_);have hN:=BB h0 ho hu;exact As (AV (A3 (hb,()) hN (A6.c rfl (A6.c rfl A6.nil)) (sC (sC sN))))
 ·rintro⟨he,⟨⟩⟩ hk;refine Cb (l':=[(0,rP b1 0),(1,rP b2 0)]) (H':=[.blk b2 (A8 (rI .u32) he) 151,.blk b1 (A8 (rI .u32) (List.replicate 256 (0:Int))) 151]) rfl rfl ?_;replace hk:II he=some r:=hk;unfold II at hk;refine AW (AJ (Ag (ck hk λhn hO=>wv (r:=BK (A8 (rI .u32) he)) (Tf (enc:=(rI .u32)) (ys:=he) (i:=0) Tryz.isAgg151 T4 rfl rfl hn) (ck hO λhP hQ=>MS (enc:=(rI .u32)) (ys:=List.replicate 256 (0:Int)) (zs:=he) (i:=1) T4 rfl rfl (λ_=>rfl) rfl hP hn (H':=[.blk b2 (A8 (rI .u32) he) 151,.blk b1 (A8 (rI .u32) he) 151]) rfl (Am (Av ?_))))));obtain rfl:=Aw hQ;exact Au (BQ Tryz.results126 (GR (i:=1) Tryz.isAgg151 T4 rfl rfl (ZI hn))) (sS (sS sN)) ⟨rfl,rfl⟩
theorem Yg (F:Nat)(s:Af)(r:Int)(h:VK F s=some r):Fn Tryz.prog GE 91 [rS s] [] (λR H=>R=rI .u32 r∧H=[]):=by
 refine enter (n:=26) Tryz.func91 rfl Tryz.ntmps91 rfl (λw Z=>?_);unfold VK at h;refine Ag (wa rfl (Bv (ob h λr1 e3 h2=>CG Tryz.call126 (Yf F r1 e3) rfl (BM (cs:=A8 (rI .u32) (List.replicate 256 (0:Int))) Tryz.zeroValue151 (by kernel_rfl) rfl (λb4=>?_)))));refine ck h2 λg5 h6=>ck h6 λg7 h8=>MS (enc:=(rI .u32)) (ys:=List.replicate 256 (0:Int)) (zs:=r1) (i:=0) T4 rfl rfl (λ_=>rfl) rfl g5 g7 (H':=[.blk b4 (A8 (rI .u32) r1) 151]) rfl (Bv (wa rfl (Am (Ai (Ag (wm rfl (wv (Bj Ce rfl) (wv (r:=Ap 0) (Al rfl) (Am (A9 (ob h8 λhh hi hj=>Bg (S:=Nat×(Int×Int)×(Unit)) (V:=(Int)×(Unit)) 0 (λσ=>B7 (λσ=>GZ s r1 σ.1 σ.2) σ.1 σ.2.1=some hh) (λσ=>[(0,rS s),(2,rI .u32 0),(3,rP b4 0),(4,rI .u32 σ.2.1.1),(8,Ap (s.length:Int)),(9,Ap σ.2.1.2)]) (λσ=>[.blk b4 (A8 (rI .u32) r1) 151]) (λσ=>σ.1) (F,(4294967295,0),()) hi (A6.c rfl (A6.c5 rfl rfl rfl rfl rfl A6.nil)) (sC sN) (λσ=>ND σ.1=some r) (λσ=>[(2,rI .u32 0),(4,rI .u32 σ.1)]) (λσ=>[]) ?_ ?_)))))))))))
 ·rintro⟨h1,⟨ha,hb⟩,⟨⟩⟩ hk;refine BG (l':=[(0,rS s),(2,rI .u32 0),(3,rP b4 0),(4,rI .u32 ha),(8,Ap (s.length:Int)),(9,Ap hb)]) (H':=[.blk b4 (A8 (rI .u32) r1) 151]) rfl rfl ?_;obtain⟨hl,rfl,hm,hd,hg⟩:=BZ hk;replace hd:GZ s r1 ha hb=some hm:=hd;unfold GZ at hd;refine Ag (wv (Cj rfl rfl) (Am (Ai (cz hd rfl (λhn ho=>?_) (λhn hp=>?_)))))
  ·refine Ar (AJ (Ai (A9 (Ag (wm rfl (wa rfl (Am (Ah (wm rfl (wv (r:=rI .u8 (IntKind.wrap .u8 ha)) (B0 ⟨_,Gr⟩ KB rfl) (wm rfl (wm rfl (ck ho λhq hr=>wv (Bq Ce rfl rfl hq) (wv (r:=rI .u8 (E5 .u8 (IntKind.wrap .u8 ha) (Bm s hb))) (RF rfl rfl) (ck hr λhs ht=>wv (r:=rv (.pointer (some ⟨b4,B3 (E5 .u8 (IntKind.wrap .u8 ha) (Bm s hb)),none⟩))) (X1 Tryz.underlying151 Tryz.sizeOf116 rfl rfl hs) (ck ht λhu hw=>wv (r:=rI .u32 (Ao r1 (E5 .u8 (IntKind.wrap .u8 ha) (Bm s hb)))) (X0 (enc:=(rI .u32)) (ys:=r1) (i:=0) Tryz.isAgg116 rfl rfl hu) (wm rfl (wv (r:=rI .u32 (BH .u32 ha 8)) (JF rfl rfl (by decide)) (wv (r:=rI .u32 (E5 .u32 (Ao r1 (E5 .u8 (IntKind.wrap .u8 ha) (Bm s hb))) (BH .u32 ha 8))) (RF rfl rfl) (wa rfl ?_))))))))))))))))))));refine Ak (AA (AJ (Ah (ck hw λhx hy=>wv (Bk rfl rfl hx) (wm rfl (Ak ?_))))));have hz:=Ba hy hg;exact Az (A3 (hl,(E5 .u32 (Ao r1 (E5 .u8 (IntKind.wrap .u8 ha) (Bm s hb))) (BH .u32 ha 8),hb+1),()) ⟨hz,AcM _⟩ (A6.c rfl (A6.c5 rfl rfl rfl rfl rfl A6.nil)) (sC sN))
  ·refine Bl (As ?_);have h0:=BB hp hg hj;exact As (AV (A3 (ha,()) h0 (A6.c rfl (A6.c rfl A6.nil)) (sS sN)))
 ·rintro⟨hf,⟨⟩⟩ he;refine Cb (l':=[(2,rI .u32 0),(4,rI .u32 hf)]) (H':=[]) rfl rfl ?_;replace he:ND hf=some r:=he;unfold ND at he;refine AW (AJ (Ag (wm rfl (wv (r:=rI .u32 (Q9 .u32 hf)) (TW rfl) (wa rfl (Am (Av ?_)))))));obtain rfl:=Aw he;exact Au (BQ Tryz.results91 (AG rfl)) sN ⟨rfl,rfl⟩
theorem PV (n:Int)(r:Af)(h:K1 n=some r):Fn Tryz.prog GE 90 [rI .u32 n] [] (λR H=>R=rS r∧H=[]):=by
 refine enter (n:=16) Tryz.func90 rfl Tryz.ntmps90 rfl (λw Z=>?_);unfold K1 at h;refine Ag (wv (r:=rS ([]:Af)) (Ax rfl) (Bv (wm rfl (wv (r:=rI .u32 (BH .u32 n 24)) (JF rfl rfl (by decide)) (wv (r:=rI .u8 (IntKind.wrap .u8 (BH .u32 n 24))) (B0 ⟨_,Gr⟩ KB rfl) (wm rfl (wv (r:=rI .u32 (BH .u32 n 16)) (JF rfl rfl (by decide)) (wv (r:=rI .u8 (IntKind.wrap .u8 (BH .u32 n 16))) (B0 ⟨_,Gr⟩ KB rfl) (wm rfl (wv (r:=rI .u32 (BH .u32 n 8)) (JF rfl rfl (by decide)) (wv (r:=rI .u8 (IntKind.wrap .u8 (BH .u32 n 8))) (B0 ⟨_,Gr⟩ KB rfl) (wm rfl (wv (r:=rI .u8 (IntKind.wrap .u8 n)) (B0 ⟨_,Gr⟩ KB rfl) (AZ (ys:=([IntKind.wrap .u8 (BH .u32 n 24),IntKind.wrap .u8 (BH .u32 n 16),IntKind.wrap .u8 (BH .u32 n 8),IntKind.wrap .u8 n]:List Int)) (enc:=Bc) (css:=[[rI .u8 (IntKind.wrap .u8 (BH .u32 n 24))],[rI .u8 (IntKind.wrap .u8 (BH .u32 n 16))],[rI .u8 (IntKind.wrap .u8 (BH .u32 n 8))],[rI .u8 (IntKind.wrap .u8 n)]]) (xs:=[.tmp 5,.tmp 8,.tmp 11,.tmp 13]) E3 Zb Za rfl rfl rfl ⟨EI.one rfl (Up.refl _),EI.one rfl (Up.refl _),EI.one rfl (Up.refl _),EI.one rfl (Up.refl _),trivial⟩ rfl CN rfl rfl rfl (λb1=>?_)))))))))))))));refine wv (r:=rS (Id ([IntKind.wrap .u8 (BH .u32 n 24),IntKind.wrap .u8 (BH .u32 n 16),IntKind.wrap .u8 (BH .u32 n 8),IntKind.wrap .u8 n]:List Int))) (P9 (xs:=([IntKind.wrap .u8 (BH .u32 n 24),IntKind.wrap .u8 (BH .u32 n 16),IntKind.wrap .u8 (BH .u32 n 8),IntKind.wrap .u8 n]:List Int)) (i:=0) E3 Ce KB rfl rfl) (wa rfl (Am (Av ?_)));obtain rfl:=Aw h;exact Au (BQ Tryz.results90 (AG rfl)) (sS sN) ⟨rfl,rfl⟩
theorem PU (s:Af)(r:Int)(h:Kw s=some r):Fn Tryz.prog GE 96 [rS s] [] (λR H=>R=rI .u32 r∧H=[]):=by
 refine enter (n:=21) Tryz.func96 rfl Tryz.ntmps96 rfl (λw Z=>?_);unfold Kw at h;refine Ag (wa rfl (Am (Ai (ck h λg1 h2=>ck h2 λg3 h4=>ck h4 λg5 h6=>ck h6 λg7 h8=>C1 [0] [⟨[],rS s,0⟩,⟨[0],rI .u8 (Bm s 0),0⟩,⟨[1],rI .u32 (IntKind.wrap .u32 (Bm s 0)),0⟩,⟨[2],rI .u32 (CS .u32 (IntKind.wrap .u32 (Bm s 0)) 24),0⟩,⟨[],rS s,0⟩,⟨[4],rI .u8 (Bm s 1),0⟩,⟨[5],rI .u32 (IntKind.wrap .u32 (Bm s 1)),0⟩,⟨[6],rI .u32 (CS .u32 (IntKind.wrap .u32 (Bm s 1)) 16),0⟩,⟨[3,7],rI .u32 (IR .u32 (CS .u32 (IntKind.wrap .u32 (Bm s 0)) 24) (CS .u32 (IntKind.wrap .u32 (Bm s 1)) 16)),0⟩,⟨[],rS s,0⟩,⟨[9],rI .u8 (Bm s 2),0⟩,⟨[10],rI .u32 (IntKind.wrap .u32 (Bm s 2)),0⟩,⟨[11],rI .u32 (CS .u32 (IntKind.wrap .u32 (Bm s 2)) 8),0⟩,⟨[8,12],rI .u32 (IR .u32 (IR .u32 (CS .u32 (IntKind.wrap .u32 (Bm s 0)) 24) (CS .u32 (IntKind.wrap .u32 (Bm s 1)) 16)) (CS .u32 (IntKind.wrap .u32 (Bm s 2)) 8)),0⟩,⟨[],rS s,0⟩,⟨[14],rI .u8 (Bm s 3),0⟩,⟨[15],rI .u32 (IntKind.wrap .u32 (Bm s 3)),0⟩,⟨[13,16],rI .u32 (IR .u32 (IR .u32 (IR .u32 (CS .u32 (IntKind.wrap .u32 (Bm s 0)) 24) (CS .u32 (IntKind.wrap .u32 (Bm s 1)) 16)) (CS .u32 (IntKind.wrap .u32 (Bm s 2)) 8)) (IntKind.wrap .u32 (Bm s 3))),0⟩,⟨[17],rI .u32 (IR .u32 (IR .u32 (IR .u32 (CS .u32 (IntKind.wrap .u32 (Bm s 0)) 24) (CS .u32 (IntKind.wrap .u32 (Bm s 1)) 16)) (CS .u32 (IntKind.wrap .u32 (Bm s 2)) 8)) (IntKind.wrap .u32 (Bm s 3))),0⟩] [2] ?_ ?_))))
 ·refine oq (Al rfl) (oq (Bq Ce rfl rfl g1) (oq (B0 ⟨_,KB⟩ Gr rfl) (oq (TT rfl rfl (by decide)) (oq (Al rfl) (oq (Bq Ce rfl rfl g3) (oq (B0 ⟨_,KB⟩ Gr rfl) (oq (TT rfl rfl (by decide)) (oq (Z5 rfl rfl) (oq (Al rfl) (oq (Bq Ce rfl rfl g5) (oq (B0 ⟨_,KB⟩ Gr rfl) (oq (TT rfl rfl (by decide)) (oq (Z5 rfl rfl) (oq (Al rfl) (oq (Bq Ce rfl rfl g7) (oq (B0 ⟨_,KB⟩ Gr rfl) (oq (Z5 rfl rfl) (oq (Ax rfl) ?_))))))))))))))))));exact Cd
 refine AJ (Av ?_);obtain rfl:=Aw h8;exact Au (BQ Tryz.results96 (AG rfl)) sN ⟨rfl,rfl⟩
theorem Uo (F:Nat)(fields:(List Af))(r:Af×Int)(h:PT F fields=some r):Fn Tryz.prog GE 66 [AQ 1 (A8 eS fields)] [] (λR H=>R=C2 [rS r.1,Ap r.2]∧H=[]):=by
 refine enter (n:=39) Tryz.func66 rfl Tryz.ntmps66 rfl (λw Z=>?_);unfold PT at h;refine Ag (wv (r:=rS ([]:Af)) (Ax rfl) (wa rfl (Am (Ai (Ag (wm rfl (wv (Be (ys:=fields) (enc:=eS) Ch rfl) (wv (C3 rfl rfl) (Am (cz h rfl (λc1 h2=>?_) (λc1 h3=>?_)))))))))))
 ·refine Ag (wv (r:=rS ([]:Af)) (Ax rfl) (wa rfl (Am (Av (Ac ?_)))));obtain rfl:=Aw h2;exact Au (DC Tryz.results66 (AG rfl) (AG rfl)) sN ⟨rfl,rfl⟩
 ·refine Ar (AJ (Ag (wm rfl (wv (Be (ys:=fields) (enc:=eS) Ch rfl) (wv (r:=rI .u8 (IntKind.wrap .u8 (fields.length:Int))) (B0 ⟨_,SD⟩ KB rfl) (AZ (ys:=([IntKind.wrap .u8 (fields.length:Int)]:List Int)) (enc:=Bc) (css:=[[rI .u8 (IntKind.wrap .u8 (fields.length:Int))]]) (xs:=[.tmp 12]) E3 Zb Za rfl rfl rfl ⟨EI.one rfl (Up.refl _),trivial⟩ rfl CN rfl rfl rfl (λb4=>?_)))))));refine wa rfl (Am (Ai (Ag (wm rfl (wv (Be (ys:=fields) (enc:=eS) Ch rfl) (wv (r:=Ap 0) (Al rfl) (Am (A9 (ob h3 λhk hl hi=>Bg (S:=Nat×((List Int)×Int)×(Value)) (V:=((List Int))×(Value)) 0 (λσ=>B7 (λσ=>GJ fields σ.1 σ.2) σ.1 σ.2.1=some hk) (λσ=>[(2,rS ([]:Af)),(3,Ap 0),(4,rv σ.2.2),(14,AQ 1 (A8 eS fields)),(15,Ap (fields.length:Int)),(16,Ap σ.2.1.2)]) (λσ=>[.row σ.2.2 5 1 (A8 Bc σ.2.1.1)]) (λσ=>σ.1) (F,(([IntKind.wrap .u8 (fields.length:Int)]:List Int),0),(.slice (some ⟨b4,0,none⟩) 1 1)) hl (A6.c rfl (A6.c5 rfl rfl rfl rfl rfl A6.nil)) (sC sN) (λσ=>LY σ.1=some r) (λσ=>[(2,rS ([]:Af)),(3,Ap 0),(4,rv σ.2)]) (λσ=>[.row σ.2 5 1 (A8 Bc σ.1)]) ?_ ?_)))))))))
  ·rintro⟨h9,⟨hb,ha⟩,hg⟩ hm;refine BG (l':=[(2,rS ([]:Af)),(3,Ap 0),(4,rv hg),(14,AQ 1 (A8 eS fields)),(15,Ap (fields.length:Int)),(16,Ap ha)]) (H':=[.row hg 5 1 (A8 Bc hb)]) rfl rfl ?_;obtain⟨hn,rfl,ho,hd,hh⟩:=BZ hm;replace hd:GJ fields hb ha=some ho:=hd;unfold GJ at hd;refine Ag (wv (Cj rfl rfl) (Am (Ai (cz hd rfl (λhp hq=>?_) (λhp hr=>?_)))))
   ·refine Ar (AJ (Ai (A9 (Ag (ck hq λhs ht=>wv (Bb (enc:=eS) (ys:=fields) Ch Cs rfl rfl hs) (wv (AU CU rfl rfl) (wa rfl (Am (Ai (Ag (wm rfl (wv (Bj Ce rfl) (wv (C3 rfl rfl) (Am (cz ht rfl (λc75 hu=>?_) (λc75 hw=>?_))))))))))))))))
    ·refine Ag (wv (r:=rS ([]:Af)) (Ax rfl) (wa rfl (Am (Av (Ac (Ay (Ac (Ac (AR ?_)))))))));have hx:=Bo hu hh hi;refine Ay (Ac ?_);obtain rfl:=Aw hx;exact Au (DC Tryz.results66 (AG rfl) (AG rfl)) (sS sN) ⟨rfl,rfl⟩
    ·refine Ar (AJ (Ag (wm rfl (wm rfl (wv (Bj Ce rfl) (wv (r:=Ap (BH .i64 ((Ao fields ha).length:Int) 8)) (JF rfl rfl (by decide)) (wv (r:=rI .u8 (IntKind.wrap .u8 (BH .i64 ((Ao fields ha).length:Int) 8))) (B0 ⟨_,SD⟩ KB rfl) (wm rfl (wv (Bj Ce rfl) (wv (r:=rI .u8 (IntKind.wrap .u8 ((Ao fields ha).length:Int))) (B0 ⟨_,SD⟩ KB rfl) (AZ (ys:=([IntKind.wrap .u8 (BH .i64 ((Ao fields ha).length:Int) 8),IntKind.wrap .u8 ((Ao fields ha).length:Int)]:List Int)) (enc:=Bc) (css:=[[rI .u8 (IntKind.wrap .u8 (BH .i64 ((Ao fields ha).length:Int) 8))],[rI .u8 (IntKind.wrap .u8 ((Ao fields ha).length:Int))]]) (xs:=[.tmp 27,.tmp 30]) E3 Zb Za rfl rfl rfl ⟨EI.one rfl (Up.refl _),EI.one rfl (Up.refl _),trivial⟩ rfl CN rfl rfl rfl (λhA=>?_))))))))))));refine ck hw λhy hz=>Exists.elim Js λinf hinf=>BY (xs:=hb) (ys:=([IntKind.wrap .u8 (BH .i64 ((Ao fields ha).length:Int) 8),IntKind.wrap .u8 ((Ao fields ha).length:Int)]:List Int)) (enc:=Bc) (i:=1) E3 hinf.1 hinf.2.1 hinf.2.2.1 hinf.2.2.2 rfl rfl rfl rfl rfl (KA.w (i:=0) rfl rfl) CN IL hy rfl (λv80=>?_);refine wa rfl (Am (Ah (wm rfl (wm rfl (ck hz λh0 h1=>Exists.elim Js λinf hinf=>Eo (xs:=hb++([IntKind.wrap .u8 (BH .i64 ((Ao fields ha).length:Int) 8),IntKind.wrap .u8 ((Ao fields ha).length:Int)]:List Int)) (i:=0) E3 Ce hinf.1 hinf.2.1 hinf.2.2.1 hinf.2.2.2 rfl rfl rfl h0 rfl (λh4=>?_))))));refine wa rfl (Ak (AA (AJ (Ah (ck h1 λh5 h6=>wv (Bk rfl rfl h5) (wm rfl (Ak ?_)))))));have h7:=Ba h6 hh;exact Az (A3 (hn,((hb++([IntKind.wrap .u8 (BH .i64 ((Ao fields ha).length:Int) 8),IntKind.wrap .u8 ((Ao fields ha).length:Int)]:List Int))++C8 (Ao fields ha),ha+1),h4) ⟨h7,AcM _⟩ (A6.c rfl (A6.c5 rfl rfl rfl rfl rfl A6.nil)) (sC (sS sN)))
   ·refine Bl (As ?_);have h8:=BB hr hh hi;exact As (AV (A3 (hb,hg) h8 (A6.c rfl (A6.c rfl (A6.c rfl A6.nil))) (sC sN)))
  ·rintro⟨he,hj⟩ hf;refine Cb (l':=[(2,rS ([]:Af)),(3,Ap 0),(4,rv hj)]) (H':=[.row hj 5 1 (A8 Bc he)]) rfl rfl ?_;replace hf:LY he=some r:=hf;unfold LY at hf;refine AW (AJ (Ag (wm rfl (wv (r:=rS (Id he)) (P9 (xs:=he) (i:=0) E3 Ce KB rfl rfl) (wa rfl (wa rfl (Am (Av ?_))))))));obtain rfl:=Aw hf;exact Au (DC Tryz.results66 (AG rfl) (AG rfl)) (sS sN) ⟨rfl,rfl⟩
theorem VP (F:Nat)(s:Af)(r:(List Af)×Int)(h:LX F s=some r):Fn Tryz.prog GE 72 [rS s] [] (λR H=>R=C2 [AQ 1 (A8 eS r.1),Ap r.2]∧H=[]):=by
 refine enter (n:=58) Tryz.func72 rfl Tryz.ntmps72 rfl (λw Z=>?_);unfold LX at h;refine Ag (wa rfl (wa rfl (Am (Pf (S:=(Int)×(Unit)) 0 (λσ=>DJ σ.1=some r) (λσ=>[(2,rv (.slice none 0 0)),(3,Ap 0),(7,Ap σ.1)]) (λσ=>[]) rfl ?_ ?_))))
 ·refine Ag (wa rfl (Bv (wa rfl (wa rfl (Bv (wa rfl (Am (Ai (Ag (wm rfl (wv (EC rfl rfl) (Am (cz h rfl (λhq hr=>?_) (λhq hs=>?_))))))))))))))
  ·exact JY (BR (JW (A3 (14,()) hr (A6.c rfl (A6.c rfl (A6.c rfl A6.nil))) sN)))
  ·refine Ar (AJ (Ai (ck hs λht hu=>ck hu λhw hx=>ck hx λhy hz=>Gc 6 [0,2,3,4,6,7] [⟨[],rS s,none,none,none⟩,⟨[0],rI .u8 (Bm s 0),none,none,none⟩,⟨[1],Ap (Bm s 0),none,none,none⟩,⟨[],rS s,none,none,none⟩,⟨[3],rS (List.drop (B3 1) s),none,none,none⟩,⟨[2],Ap (Bm s 0),none,none,none⟩] ?_ (λβ=>?_))))
   ·refine Dq (Al rfl) (Dq (Bq Ce rfl rfl ht) (Dq (Ja ⟨_,KB⟩ SD rfl hw) (Dq (Al rfl) (Dq (DG Ce rfl rfl hy) (Dq (Ax rfl) ?_)))));exact Xt
   refine GL (H1:=[]) [10,11,12,13,14,5,0,2,3,4,6,7] ?_;refine wa rfl (Am (Ai (Ag (wm rfl (wv (C3 rfl rfl) (Am (cz hz rfl (λc167 h0=>?_) (λc167 h1=>?_))))))))
   ·exact Ag (wa rfl (Am (JY (BR (JW (A3 (13,()) h0 (A6.c rfl (A6.c rfl (A6.c rfl A6.nil))) sN))))))
   ·refine Ar (AJ (Ai (Ag (wm rfl (wv (r:=Ap 0) (Al rfl) (Am (A9 (WC.nilrow (e:=9) (sz:=1) (ob h1 λh2 h3 hg=>Bg (S:=Nat×(Af×(List Af)×Int×Int)×(Value)) (V:=(Af×(List Af))×(Value)) 0 (λσ=>B7 (λσ=>C6 s σ.1 σ.2.1 σ.2.2.1 σ.2.2.2) σ.1 σ.2.1=some h2) (λσ=>[(0,rS σ.2.1.1),(2,rv (.slice none 0 0)),(3,Ap 0),(4,rv σ.2.2),(6,Ap σ.2.1.2.2.1),(7,Ap 14),(17,Ap (Bm s 0)),(18,Ap σ.2.1.2.2.2)]) (λσ=>[.row σ.2.2 9 1 (A8 eS σ.2.1.2.1)]) (λσ=>σ.1) (F,(List.drop (B3 1) s,([]:List Af),0,0),(.slice none 0 0         )) h3 (A6.c rfl (A6.c rfl (A6.c rfl (A6.c5 rfl rfl rfl rfl rfl A6.nil)))) (sC sN) (λσ=>EQ σ.1.1 σ.1.2=some r) (λσ=>[(0,rS σ.1.1),(2,rv (.slice none 0 0)),(3,Ap 0),(4,rv σ.2),(7,Ap 14)]) (λσ=>[.row σ.2 9 1 (A8 eS σ.1.2)]) ?_ ?_)))))))))
    ·rintro⟨gr,⟨ha,hd,hl,hk⟩,v233⟩ h4;refine BG (l':=[(0,rS ha),(2,rv (.slice none 0 0)),(3,Ap 0),(4,rv v233),(6,Ap hl),(7,Ap 14),(17,Ap (Bm s 0)),(18,Ap hk)]) (H':=[.row v233 9 1 (A8 eS hd)]) rfl rfl ?_;obtain⟨h5,rfl,h6,hh,hf⟩:=BZ h4;replace hh:C6 s ha hd hl hk=some h6:=hh;unfold C6 at hh;refine Ag (wv (Cj rfl rfl) (Am (Ai (cz hh rfl (λh7 h8=>?_) (λh7 h9=>?_)))))
     ·refine Ar (AJ (Ai (A9 (Ai (Ag (wm rfl (wv (Bj Ce rfl) (wv (Cj rfl rfl) (Am (cz h8 rfl (λhA hB=>?_) (λhA hC=>?_)))))))))))
      ·refine JY (BR (Gw (BR (BR (J5 (Gw (BR (JW (ob hB λgs hD hE=>?_)))))))));have hG:=Bo hE hf hg;obtain rfl:=Aw hG;exact A3 (14,()) hD (A6.c rfl (A6.c rfl (A6.c rfl A6.nil))) (sS sN)
      ·refine Ar (AJ (Ai (ck hC λhH hI=>ck hI λhJ hK=>ck hK λhL hN=>ck hN λhO hP=>ck hP λhQ hR=>Gc 11 [0,2,3,4,7,17,18,19,20,21,22] [⟨[],rS ha,none,none,none⟩,⟨[0],rI .u8 (Bm ha 0),none,none,none⟩,⟨[1],Ap (Bm ha 0),none,none,none⟩,⟨[2],Ap (CS .i64 (Bm ha 0) 8),none,none,none⟩,⟨[],rS ha,none,none,none⟩,⟨[4],rI .u8 (Bm ha 1),none,none,none⟩,⟨[5],Ap (Bm ha 1),none,none,none⟩,⟨[3,6],Ap (IR .i64 (CS .i64 (Bm ha 0) 8) (Bm ha 1)),none,none,none⟩,⟨[],rS ha,none,none,none⟩,⟨[8],rS (List.drop (B3 2) ha),none,none,none⟩,⟨[7],Ap (IR .i64 (CS .i64 (Bm ha 0) 8) (Bm ha 1)),none,none,none⟩] ?_ (λβ=>?_))))
       ·refine Dq (Al rfl) (Dq (Bq Ce rfl rfl hH) (Dq (Ja ⟨_,KB⟩ SD rfl hJ) (Dq (TT rfl rfl (by decide)) (Dq (Al rfl) (Dq (Bq Ce rfl rfl hL) (Dq (Ja ⟨_,KB⟩ SD rfl hO) (Dq (Z5 rfl rfl) (Dq (Al rfl) (Dq (DG Ce rfl rfl hQ) (Dq (Ax rfl) ?_))))))))));exact Xt
       refine GL (H1:=[.row v233 9 1 (A8 eS hd)]) [23,24,25,26,27,28,29,30,31,32,6,0,2,3,4,7,17,18,19,20,21,22] ?_;refine wa rfl (Am (Ai (Ag (wm rfl (wv (C3 rfl rfl) (Am (cz hR rfl (λhS hT=>?_) (λhS hU=>?_))))))))
       ·refine Ag (wa rfl (Am (JY (BR (Gw (BR (BR (J5 (Gw (BR (JW (ob hT λgt hV hW=>?_))))))))))));have hX:=Bo hW hf hg;obtain rfl:=Aw hX;exact A3 (13,()) hV (A6.c rfl (A6.c rfl (A6.c rfl A6.nil))) (sS sN)
       ·refine Ar (AJ (Ai (Ag (wm rfl (wv (Bj Ce rfl) (wm rfl (wv (Cj rfl rfl) (Am (cz hU rfl (λhY hZ=>?_) (λhY ga=>?_))))))))))
        ·refine JY (BR (Gw (BR (BR (J5 (Gw (BR (JW (ob hZ λgu gb gc=>?_)))))))));have gd:=Bo gc hf hg;obtain rfl:=Aw gd;exact A3 (14,()) gb (A6.c rfl (A6.c rfl (A6.c rfl A6.nil))) (sS sN)
        ·refine Ar (AJ (ck ga λhm ge=>ck ge λgf gg=>Exists.elim OG λinf hinf=>AaF 10 5 [0,2,3,6,7,17,18,20,21,22,23,24,25,26,27,28,29,30,31,32,33,34,35,36,37,38] [4] [{ deps:=[],r:=λ_=>rv v233,old:=[4] },{ deps:=[],r:=λ_=>rS (List.drop (B3 2) ha) },{ deps:=[],r:=λ_=>Ap (IR .i64 (CS .i64 (Bm ha 0) 8) (Bm ha 1)) },{ deps:=[1,2],r:=λ_=>rS (List.take (B3 (IR .i64 (CS .i64 (Bm ha 0) 8) (Bm ha 1))) (List.drop (B3 2) ha)) },{ deps:=[3],r:=λ_=>AQ 1 (A8 eS ([List.take (B3 (IR .i64 (CS .i64 (Bm ha 0) 8) (Bm ha 1))) (List.drop (B3 2) ha)]:List Af)) },{ deps:=[0,4],r:=λhb=>rv hb,dyn:=true },{ deps:=[],r:=λ_=>rS (List.drop (B3 2) ha) },{ deps:=[],r:=λ_=>Ap (IR .i64 (CS .i64 (Bm ha 0) 8) (Bm ha 1)) },{ deps:=[6,7],r:=λ_=>rS (List.drop (B3 (IR .i64 (CS .i64 (Bm ha 0) 8) (Bm ha 1))) (List.drop (B3 2) ha)) },{ deps:=[5],r:=λhb=>rv hb,dyn:=true }] (λhb=>[.row hb 9 1 (A8 eS (hd++([List.take (B3 (IR .i64 (CS .i64 (Bm ha 0) 8) (Bm ha 1))) (List.drop (B3 2) ha)]:List Af)))]) ?_ (λhb=>?_)))
         ·refine oxq (Al rfl) (oxq (Al rfl) (oxq (Al rfl) (oxq (La Ce rfl rfl hm) (oxc (CD (ys:=([List.take (B3 (IR .i64 (CS .i64 (Bm ha 0) 8) (Bm ha 1))) (List.drop (B3 2) ha)]:List Af)) (enc:=eS) (css:=[[rS (List.take (B3 (IR .i64 (CS .i64 (Bm ha 0) 8) (Bm ha 1))) (List.drop (B3 2) ha))]]) (xs:=[.tmp 42]) Ch Cs Wj rfl rfl rfl ⟨EI.one rfl (Up.refl _),trivial⟩ rfl DY rfl rfl) (oxx (Wr (xs:=hd) (ys:=([List.take (B3 (IR .i64 (CS .i64 (Bm ha 0) 8) (Bm ha 1))) (List.drop (B3 2) ha)]:List Af)) (enc:=eS) (i:=0) Ch hinf.1 hinf.2.1 hinf.2.2.1 hinf.2.2.2 rfl rfl rfl rfl rfl (KA.z rfl rfl) DY Lh gf) (oxq (Al rfl) (oxq (Al rfl) (oxq (DG Ce rfl rfl hm) (oxq (fun {hb _}=>(Ax rfl)) ?_)))))))));exact oxe
         refine GL (H1:=[.row hb 9 1 (A8 eS (hd++([List.take (B3 (IR .i64 (CS .i64 (Bm ha 0) 8) (Bm ha 1))) (List.drop (B3 2) ha)]:List Af)))]) [39,40,41,42,43,44,45,46,47,4,0,2,3,6,7,17,18,20,21,22,23,24,25,26,27,28,29,30,31,32,33,34,35,36,37,38] ?_;refine wa rfl (Ak (AA (AJ (Ah (ck gg λgh gi=>wv (Bk rfl rfl gh) (wm rfl (Ak ?_)))))));have gj:=Ba gi hf;exact Az (A3 (h5,(List.drop (B3 (IR .i64 (CS .i64 (Bm ha 0) 8) (Bm ha 1))) (List.drop (B3 2) ha),hd++([List.take (B3 (IR .i64 (CS .i64 (Bm ha 0) 8) (Bm ha 1))) (List.drop (B3 2) ha)]:List Af),IR .i64 (CS .i64 (Bm ha 0) 8) (Bm ha 1),hk+1),hb) ⟨gj,AcM _⟩ (A6.c rfl (A6.c rfl (A6.c rfl (A6.c5 rfl rfl rfl rfl rfl A6.nil)))) (sC sN))
     ·refine Bl (As ?_);have gk:=BB h9 hf hg;exact As (AV (A3 ((ha,hd),v233) gk (A6.c5 rfl rfl rfl rfl rfl A6.nil) (sC sN)))
    ·rintro⟨⟨hn,he⟩,ho⟩ hi;refine Cb (l':=[(0,rS hn),(2,rv (.slice none 0 0)),(3,Ap 0),(4,rv ho),(7,Ap 14)]) (H':=[.row ho 9 1 (A8 eS he)]) rfl rfl ?_;replace hi:EQ hn he=some r:=hi;unfold EQ at hi;refine AW (AJ (Ai (Ag (wm rfl (wv (JE rfl rfl) (Am (cz hi rfl (λgl gm=>?_) (λgl gn=>?_))))))))
     ·exact Ag (wa rfl (Am (JY (BR (JW (A3 (13,()) gm (A6.c rfl (A6.c rfl (A6.c rfl A6.nil))) (sS sN)))))))
     ·refine Ar (AJ (Ai (Ag (wm rfl (wm rfl (wv (Dg (ys:=he) (enc:=eS) (i:=0) Ch rfl rfl) (wm rfl (wv (Dg (ys:=he) (enc:=eS) (i:=0) Ch rfl rfl) (WL.freeze (i:=0) rfl (WL.up (d:=51) (r:=AQ 1 (A8 eS he)) rfl (Up.fact (i:=0) rfl) (ck gn λgp gq=>wv (r:=AQ 1 (A8 eS (List.take (B3 (he.length:Int)) he))) (MZ Ch Cs rfl rfl rfl gp) (wa rfl (wa rfl (Am (Av (Ac (Zj ?_)))))))))))))))));obtain rfl:=Aw gq;exact Au (DC Tryz.results72 (AG rfl) (AG rfl)) (sS sN) ⟨rfl,rfl⟩
 ·rintro⟨hp,⟨⟩⟩ hj;refine BG (l':=[(2,rv (.slice none 0 0)),(3,Ap 0),(7,Ap hp)]) (H':=[]) rfl rfl ?_;replace hj:DJ hp=some r:=hj;unfold DJ at hj;refine Ai (Ar (AJ (Ag (wm rfl (wa rfl (wa rfl (Am (Av (JV (WK.up (d:=2) (r:=AQ 1 (A8 eS ([]:List Af))) rfl (Up.le (HK.nil _)) ?_))))))))));obtain rfl:=Aw hj;exact Au (DC Tryz.results72 (AG rfl) (AG rfl)) sN ⟨rfl,rfl⟩
theorem Aae (F:Nat)(body:Af)(r:Af×Int)(h:OK F body=some r):Fn Tryz.prog GE 68 [rS body] [] (λR H=>R=C2 [rS r.1,Ap r.2]∧H=[]):=by
 refine enter (n:=17) Tryz.func68 rfl Tryz.ntmps68 rfl (λw Z=>?_);unfold OK at h;refine Ag (wv (r:=rS ([]:Af)) (Ax rfl) (wa rfl (Am (Ai (Ag (wm rfl (wv (Bj Ce rfl) (wv (C3 rfl rfl) (Am (cz h rfl (λc1 h2=>?_) (λc1 h3=>?_)))))))))))
 ·refine Ag (wv (r:=rS ([]:Af)) (Ax rfl) (wa rfl (Am (Av (Ac ?_)))));obtain rfl:=Aw h2;exact Au (DC Tryz.results68 (AG rfl) (AG rfl)) sN ⟨rfl,rfl⟩
 ·refine Ar (AJ (Ag (wm rfl (wv (Bj Ce rfl) (wv (r:=rI .u32 (IntKind.wrap .u32 (body.length:Int))) (B0 ⟨_,SD⟩ Gr rfl) (ob h3 λr4 e6 h5=>CG Tryz.call90 (PV (IntKind.wrap .u32 (body.length:Int)) r4 e6) rfl (wm rfl (ob h5 λr7 e9 h8=>CG Tryz.call91 (Yg F body r7 e9) rfl (ob h8 λha hb hd=>CG Tryz.call90 (PV r7 ha hb) rfl (ck hd λhe hf=>wv (Da rfl rfl he) (wm rfl (ck hf λg15 hg=>wv (Da rfl rfl g15) (wa rfl (wa rfl (Am (Av ?_))))))))))))))));obtain rfl:=Aw hg;exact Au (DC Tryz.results68 (AG rfl) (AG rfl)) sN ⟨rfl,rfl⟩
theorem Aaf (F:Nat)(s:Af)(r:Af×Int×Int)(h:Sr F s=some r):Fn Tryz.prog GE 71 [rS s] [] (λR H=>R=C2 [rS r.1,Ap r.2.1,Ap r.2.2]∧H=[]):=by
 refine enter (n:=35) Tryz.func71 rfl Tryz.ntmps71 rfl (λw Z=>?_);unfold Sr at h;refine Ag (wv (r:=rS ([]:Af)) (Ax rfl) (wa rfl (wa rfl (Am (Ai (Ag (wm rfl (wv (Bj Ce rfl) (wv (Cj rfl rfl) (Am (cz h rfl (λc1 h2=>?_) (λc1 h3=>?_))))))))))))
 ·refine Ag (wv (r:=rS ([]:Af)) (Ax rfl) (wa rfl (wa rfl (Am (Av (Ac ?_))))));obtain rfl:=Aw h2;exact Au (WN Wk (AG rfl) (AG rfl) (AG rfl)) sN ⟨rfl,rfl⟩
 ·refine Ar (AJ (Ag (wm rfl (ob h3 λr4 e6 h5=>CG Tryz.call96 (PU s r4 e6) rfl (wv (r:=Ap (IntKind.wrap .i64 r4)) (B0 ⟨_,Gr⟩ SD rfl) (wa rfl (Am (Ai (A9 (Ag (wm rfl (wv (C3 rfl rfl) (wa rfl (Am (cz h5 rfl (λc7 h8=>?_) (λc7 h9=>?_))))))))))))))))
  ·refine Ag (wv (r:=rS ([]:Af)) (Ax rfl) (wa rfl (wa rfl (Am (Av (Ay (Ac ?_)))))));obtain rfl:=Aw h8;exact Au (WN Wk (AG rfl) (AG rfl) (AG rfl)) sN ⟨rfl,rfl⟩
  ·refine Ag (wm rfl (wm rfl (wv (Bj Ce rfl) (ck h9 λhb hd=>wv (MY rfl rfl hb) (wv (C3 rfl rfl) (wa rfl (Am (cz hd rfl (λhe hf=>?_) (λhe hg=>?_)))))))))
   ·refine Ag (wv (r:=rS ([]:Af)) (Ax rfl) (wa rfl (wa rfl (Am (Av (Ay (Ac ?_)))))));obtain rfl:=Aw hf;exact Au (WN Wk (AG rfl) (AG rfl) (AG rfl)) sN ⟨rfl,rfl⟩
   ·refine Ar (AA (AJ (Ag (wm rfl (wm rfl (ck hg λg15 hh=>wv (Bk rfl rfl g15) (ck hh λg17 hi=>ck hi λg19 hj=>wv (G3 Ce rfl rfl rfl g17 g19) (wa rfl (Am (Ai (Ai (ob hj λha hk hl=>ck hl λhm hn=>Gc 4 [0,5,6] [⟨[],rS (List.take (B3 (8+(IntKind.wrap .i64 r4))-B3 8) (List.drop (B3 8) s)),none,none,none⟩,⟨[0],rI .u32 ha,none,none,none⟩,⟨[],rS s,none,none,none⟩,⟨[2],rS (List.drop (B3 4) s),none,none,none⟩] ?_ (λβ=>?_)))))))))))))
    ·refine Dq (Al rfl) (oac (HP Tryz.call91 (Yg F (List.take (B3 (8+(IntKind.wrap .i64 r4))-B3 8) (List.drop (B3 8) s)) ha hk) rfl) (Dq (Al rfl) (Dq (DG Ce rfl rfl hm) ?_)));exact Xt
    refine GL (H1:=[]) [26,27,28,29,0,5,6] ?_;refine ob hn λho hp hq=>CG Tryz.call96 (PU (List.drop (B3 4) s) ho hp) rfl (wv (CQ rfl rfl) (Am (cz hq rfl (λhr hs=>?_) (λhr ht=>?_))))
    ·refine Ag (wv (r:=rS ([]:Af)) (Ax rfl) (wa rfl (wa rfl (Am (Av (Ac ?_))))));obtain rfl:=Aw hs;exact Au (WN Wk (AG rfl) (AG rfl) (AG rfl)) sN ⟨rfl,rfl⟩
    ·refine Ar (AJ (Ag (wm rfl (wm rfl (wv (Bk rfl rfl g15) (wa rfl (wa rfl (wa rfl (Am (Av ?_))))))))));obtain rfl:=Aw ht;exact Au (WN Wk (AG rfl) (AG rfl) (AG rfl)) sN ⟨rfl,rfl⟩
theorem Yr (F:Nat)(s:Af)(r:(List Af)×Int)(h:OJ F s=some r):Fn Tryz.prog GE 51 [rS s] [] (λR H=>R=C2 [AQ 1 (A8 eS r.1),Ap r.2]∧H=[]):=by
 refine enter (n:=37) Tryz.func51 rfl Tryz.ntmps51 rfl (λw Z=>?_);unfold OJ at h;refine Ag (wa rfl (wa rfl (Bv (wa rfl (Bv (wa rfl (Am (Ai (A9 (WC.nilrow (e:=9) (sz:=1) (ob h λhm hn hj=>Bg (S:=Nat×((List Af)×Int)×(Value)) (V:=((List Af)×Int)×(Value)) 0 (λσ=>B7 (λσ=>G8 F s σ.1 σ.2) σ.1 σ.2.1=some hm) (λσ=>[(0,rS s),(2,rv (.slice none 0 0)),(3,Ap 0),(4,rv σ.2.2),(5,Ap σ.2.1.2)]) (λσ=>[.row σ.2.2 9 1 (A8 eS σ.2.1.1)]) (λσ=>σ.1) (F,(([]:List Af),0),(.slice none 0 0         )) hn (A6.c5 rfl rfl rfl rfl rfl A6.nil) (sC sN) (λσ=>IK σ.1.1 σ.1.2=some r) (λσ=>[(2,rv (.slice none 0 0)),(3,Ap 0),(4,rv σ.2),(5,Ap σ.1.2)]) (λσ=>[.row σ.2 9 1 (A8 eS σ.1.1)]) ?_ ?_)))))))))))
 ·rintro⟨hB,⟨hb,hd⟩,hf⟩ ho;refine BG (l':=[(0,rS s),(2,rv (.slice none 0 0)),(3,Ap 0),(4,rv hf),(5,Ap hd)]) (H':=[.row hf 9 1 (A8 eS hb)]) rfl rfl ?_;obtain⟨hp,rfl,hq,hg,hi⟩:=BZ ho;replace hg:G8 F s hb hd=some hq:=hg;unfold G8 at hg;refine Ai (Ag (wm rfl (wm rfl (wv (Bj Ce rfl) (wv (Cj rfl rfl) (Am (cz hg rfl (λhr hs=>?_) (λhr ht=>?_))))))))
  ·refine Ar (AJ (A9 (Ag (wm rfl (wm rfl (ck hs λhu hw=>wv (DG Ce rfl rfl hu) (ob hw λhe hx hy=>CG Tryz.call71 (Aaf F (List.drop (B3 hd) s) he hx) rfl (wm rfl (wv (AE rfl rfl) (wv (AE rfl rfl) (wv (AE rfl rfl) (wa rfl (wa rfl (wa rfl (Am (Ai (Ag (wm rfl (wv (CQ rfl rfl) (Am (cz hy rfl (λc167 hz=>?_) (λc167 h0=>?_))))))))))))))))))))))
   ·refine Bl (As (NQ rfl ?_));have h1:=BB hz hi hj;exact As (AV (A3 ((hb,hd),hf) h1 (A6.c rfl (A6.c rfl (A6.c rfl (A6.c rfl A6.nil)))) (sC sN)))
   ·refine Ar (AJ (Ah (wm rfl (wm rfl (AZ (ys:=([he.1]:List Af)) (enc:=eS) (css:=[[rS he.1]]) (xs:=[.tmp 24]) Ch Cs Wj rfl rfl rfl ⟨EI.one rfl (Up.refl _),trivial⟩ rfl DY rfl rfl rfl (λhC=>?_))))));refine ck h0 λh2 h3=>Exists.elim OG λinf hinf=>BY (xs:=hb) (ys:=([he.1]:List Af)) (enc:=eS) (i:=1) Ch hinf.1 hinf.2.1 hinf.2.2.1 hinf.2.2.2 rfl rfl rfl rfl rfl (KA.w (i:=0) rfl rfl) DY Lh h2 rfl (λh4=>?_);refine wm rfl (wm rfl (ck h3 λh5 h6=>wv (Bk rfl rfl h5) (wa rfl (wa rfl (Ak (AA ?_))))));have h7:=Ba h6 hi;exact Az (A3 (hp,(hb++([he.1]:List Af),hd+he.2.1),h4) ⟨h7,AcM _⟩ (A6.c5 rfl rfl rfl rfl rfl A6.nil) (sC (sS sN)))
  ·refine Bl (As ?_);have h8:=BB ht hi hj;exact As (AV (A3 ((hb,hd),hf) h8 (A6.c rfl (A6.c rfl (A6.c rfl (A6.c rfl A6.nil)))) (sC sN)))
 ·rintro⟨⟨ha,hk⟩,hl⟩ hh;refine Cb (l':=[(2,rv (.slice none 0 0)),(3,Ap 0),(4,rv hl),(5,Ap hk)]) (H':=[.row hl 9 1 (A8 eS ha)]) rfl rfl ?_;replace hh:IK ha hk=some r:=hh;unfold IK at hh;refine AW (AJ (Ag (wm rfl (wm rfl (wv (Dg (ys:=ha) (enc:=eS) (i:=0) Ch rfl rfl) (wm rfl (wv (Dg (ys:=ha) (enc:=eS) (i:=0) Ch rfl rfl) (WL.freeze (i:=0) rfl (WL.up (d:=30) (r:=AQ 1 (A8 eS ha)) rfl (Up.fact (i:=0) rfl) (ck hh λh9 hA=>wv (r:=AQ 1 (A8 eS (List.take (B3 (ha.length:Int)) ha))) (MZ Ch Cs rfl rfl rfl h9) (wm rfl (wa rfl (wa rfl (Am (Av ?_)))))))))))))));obtain rfl:=Aw hA;exact Au (DC Tryz.results51 (AG rfl) (AG rfl)) (sS sN) ⟨rfl,rfl⟩
theorem Aag (F:Nat)(bodies:(List Af))(r:Af×Int)(h:Ss F bodies=some r):Fn Tryz.prog GE 46 [AQ 1 (A8 eS bodies)] [] (λR H=>R=C2 [rS r.1,Ap r.2]∧H=[]):=by
 refine enter (n:=36) Tryz.func46 rfl Tryz.ntmps46 rfl (λw Z=>?_);unfold Ss at h;refine Ag (wv (r:=rS ([]:Af)) (Ax rfl) (wa rfl (Bv (wa rfl (Am (Ai (Ag (wm rfl (wv (Be (ys:=bodies) (enc:=eS) Ch rfl) (wv (r:=Ap 0) (Al rfl) (Am (A9 (WC.nilrow (e:=5) (sz:=1) (ob h λhm hn hk=>Bg (S:=Nat×((List Int)×Int)×(Value)) (V:=((List Int))×(Value)) 0 (λσ=>B7 (λσ=>Gm F bodies σ.1 σ.2) σ.1 σ.2.1=some hm) (λσ=>[(4,rv σ.2.2),(9,AQ 1 (A8 eS bodies)),(10,Ap (bodies.length:Int)),(11,Ap σ.2.1.2)]) (λσ=>[.row σ.2.2 5 1 (A8 Bc σ.2.1.1)]) (λσ=>σ.1) (F,(([]:List Int),0),(.slice none 0 0     )) hn (A6.c rfl (A6.c rfl (A6.c rfl (A6.c rfl A6.nil)))) (sC sN) (λσ=>JN σ.1=some r) (λσ=>[(4,rv σ.2)]) (λσ=>[.row σ.2 5 1 (A8 Bc σ.1)]) ?_ ?_))))))))))))))
 ·rintro⟨hC,⟨hb,he⟩,hf⟩ ho;refine BG (l':=[(4,rv hf),(9,AQ 1 (A8 eS bodies)),(10,Ap (bodies.length:Int)),(11,Ap he)]) (H':=[.row hf 5 1 (A8 Bc hb)]) rfl rfl ?_;obtain⟨hp,rfl,hq,hg,hj⟩:=BZ ho;replace hg:Gm F bodies hb he=some hq:=hg;unfold Gm at hg;refine Ag (wv (Cj rfl rfl) (Am (Ai (cz hg rfl (λhr hs=>?_) (λhr ht=>?_)))))
  ·refine Ar (AJ (Ai (A9 (Ag (ck hs λhu hw=>wv (Bb (enc:=eS) (ys:=bodies) Ch Cs rfl rfl hu) (wv (AU CU rfl rfl) (wa rfl (Bv (wm rfl (ob hw λhd hx hy=>CG Tryz.call68 (Aae F (Ao bodies he) hd hx) rfl (wm rfl (wv (AE rfl rfl) (wv (AE rfl rfl) (wa rfl (wa rfl (Am (Ai (ck hy λhz h0=>AK [(4,rv hf),(7,rS hd.1),(9,AQ 1 (A8 eS bodies)),(10,Ap (bodies.length:Int)),(11,Ap he),(29,rB ((!decide (hd.2=0))||(decide (262144<((hb.length:Int)+(hd.1.length:Int))))))] [.row hf 5 1 (A8 Bc hb)] ?_ ?_))))))))))))))))))
   ·refine Ah (wm rfl (wv (CQ rfl rfl) (wm rfl (AS (!decide (hd.2=0)) (λha=>?_) (λha=>?_)))))
    ·refine wf ha (wf ha (wf ha (wf ha (wf ha (wf ha (wv (r:=rB true) (A1 rfl ha rfl) (Ak ?_)))))));exact Cm ha
    ·refine wo ha (wm rfl (wo ha (wv (Dg (ys:=hb) (enc:=Bc) (i:=0) E3 rfl rfl) (wo ha (wm rfl (wo ha (wv (Bj Ce rfl) (wo ha (wv (Bk rfl rfl (D6 hz ha)) (wo ha (wv (C3 rfl rfl) (GK rfl ha rfl (Ak ?_)))))))))))));exact Cm ha
   refine cz h0 rfl (λh1 h2=>?_) (λh1 h3=>?_)
   ·refine Ag (wv (r:=rS ([]:Af)) (Ax rfl) (wa rfl (Am (Av (Ac (Ay (Ac (Ac (AR ?_)))))))));have h4:=Bo h2 hj hk;refine Ay (Ac ?_);obtain rfl:=Aw h4;exact Au (DC Tryz.results46 (AG rfl) (AG rfl)) (sS sN) ⟨rfl,rfl⟩
   ·refine Ar (AJ (Ah (wm rfl (wm rfl (ck h3 λh5 h6=>Exists.elim Js λinf hinf=>Eo (xs:=hb) (i:=0) E3 Ce hinf.1 hinf.2.1 hinf.2.2.1 hinf.2.2.2 rfl rfl rfl h5 rfl (λh7=>?_))))));refine wa rfl (Ak (AA (AJ (Ah (ck h6 λh8 h9=>wv (Bk rfl rfl h8) (wm rfl (Ak ?_)))))));have hA:=Ba h9 hj;exact Az (A3 (hp,(hb++C8 hd.1,he+1),h7) ⟨hA,AcM _⟩ (A6.c rfl (A6.c rfl (A6.c rfl (A6.c rfl A6.nil)))) (sC sN))
  ·refine Bl (As ?_);have hB:=BB ht hj hk;exact As (AV (A3 (hb,hf) hB (A6.c rfl A6.nil) (sC sN)))
 ·rintro⟨hh,hl⟩ hi;refine Cb (l':=[(4,rv hl)]) (H':=[.row hl 5 1 (A8 Bc hh)]) rfl rfl ?_;replace hi:JN hh=some r:=hi;unfold JN at hi;refine AW (AJ (Ag (wm rfl (wv (r:=rS (Id hh)) (P9 (xs:=hh) (i:=0) E3 Ce KB rfl rfl) (wa rfl (wa rfl (Am (Av ?_))))))));obtain rfl:=Aw hi;exact Au (DC Tryz.results46 (AG rfl) (AG rfl)) (sS sN) ⟨rfl,rfl⟩
theorem Z1 (F:Nat)(s:Af)(r:Int)(h:R6 F s=some r):Fn Tryz.prog GE 95 [rS s] [] (λR H=>R=rI .u32 r∧H=[]):=by
 refine enter (n:=32) Tryz.func95 rfl Tryz.ntmps95 rfl (λw Z=>?_);unfold R6 at h;refine Ag (wa rfl (Bv (wa rfl (Am (Ai (Ag (wa rfl (Am (A9 (ob h λhs ht hu=>Bg (S:=Nat×(Int×Int)×(Unit)) (V:=(Int)×(Unit)) 0 (λσ=>B7 (λσ=>Gg F s σ.1 σ.2) σ.1 σ.2.1=some hs) (λσ=>[(0,rS s),(3,rI .u32 σ.2.1.1),(4,Ap σ.2.1.2)]) (λσ=>[]) (λσ=>σ.1) (F,(4294967295,0),()) ht (A6.c rfl (A6.c rfl (A6.c rfl A6.nil))) sN (λσ=>L9 σ.1=some r) (λσ=>[(3,rI .u32 σ.1)]) (λσ=>[]) ?_ ?_))))))))))
 ·rintro⟨hL,⟨he,hb⟩,⟨⟩⟩ hw;refine BG (l':=[(0,rS s),(3,rI .u32 he),(4,Ap hb)]) (H':=[]) rfl rfl ?_;obtain⟨hx,rfl,hj,hf,hn⟩:=BZ hw;replace hf:Gg F s he hb=some hj:=hf;unfold Gg at hf;refine Ai (Ag (wm rfl (wm rfl (wv (Bj Ce rfl) (wv (Cj rfl rfl) (Am (cz hf rfl (λhy hz=>?_) (λhy h0=>?_))))))))
  ·refine Ar (AJ (Ai (A9 (Ag (wm rfl (wm rfl (wm rfl (ck hz λh1 h2=>wv (Bq Ce rfl rfl h1) (wv (r:=rI .u32 (IntKind.wrap .u32 (Bm s hb))) (B0 ⟨_,KB⟩ Gr rfl) (wv (r:=rI .u32 (E5 .u32 he (IntKind.wrap .u32 (Bm s hb)))) (RF rfl rfl) (wa rfl (Bv (wa rfl (Am (A9 (ob h2 λh3 h4 h5=>Bg (S:=Nat×(Int×Int)×(Unit)) (V:=(Int×Int×Int×Bool)×(Unit)) 2 (λσ=>B7 (λσ=>H4 σ.1 σ.2) σ.1 σ.2.1=some h3) (λσ=>[(0,rS s),(3,rI .u32 σ.2.1.1),(4,Ap hb),(5,Ap σ.2.1.2)]) (λσ=>[]) (λσ=>σ.1) (F,(E5 .u32 he (IntKind.wrap .u32 (Bm s hb)),0),()) h4 (A6.c rfl (A6.c rfl (A6.c rfl (A6.c rfl A6.nil)))) sN (λσ=>JC hb σ.1.1 σ.1.2.1 σ.1.2.2.1 σ.1.2.2.2=some hj) (λσ=>[(0,rS s),(3,rI .u32 σ.1.1),(4,Ap hb),(5,Ap σ.1.2.1),(18,Ap σ.1.2.2.1),(19,rB σ.1.2.2.2)]) (λσ=>[]) ?_ ?_))))))))))))))))
   ·rintro⟨hN,⟨ha,hd⟩,⟨⟩⟩ h6;refine BG (l':=[(0,rS s),(3,rI .u32 ha),(4,Ap hb),(5,Ap hd)]) (H':=[]) rfl rfl ?_;obtain⟨h7,rfl,h8,hg,ho⟩:=BZ h6;replace hg:H4 ha hd=some h8:=hg;unfold H4 at hg;refine Ai (Ag (wm rfl (wv (Cj rfl rfl) (Am (cz hg rfl (λh9 hA=>?_) (λh9 hB=>?_))))))
    ·refine Ar (AJ (AK [(0,rS s),(3,rI .u32 (bif decide ((Lf .u32 ha 1)=1) then E5 .u32 (BH .u32 ha 1) 3988292384 else BH .u32 ha 1)),(4,Ap hb),(5,Ap hd)] [] ?_ ?_))
     ·refine A9 (Ag (wm rfl (wv (r:=rI .u32 (Lf .u32 ha 1)) (Aa2 rfl rfl) (wv (B6 rfl rfl) (Am (DZ (b:=decide ((Lf .u32 ha 1)=1)) rfl (λhk=>?_) (λhk=>?_)))))))
      ·refine Ah (wm rfl (wv (r:=rI .u32 (BH .u32 ha 1)) (JF rfl rfl (by decide)) (wv (r:=rI .u32 (E5 .u32 (BH .u32 ha 1) 3988292384)) (RF rfl rfl) (wa rfl (Ak (AA ?_))))));exact Cm hk
      ·refine Ah (wm rfl (wv (r:=rI .u32 (BH .u32 ha 1)) (JF rfl rfl (by decide)) (wa rfl (Ak (AA ?_)))));exact Cm hk
     refine Ah (wm rfl (ck hA λhC hD=>wv (Bk rfl rfl hC) (wa rfl (Ak ?_))));have hE:=Ba hD ho;exact Az (A3 (h7,((bif decide ((Lf .u32 ha 1)=1) then E5 .u32 (BH .u32 ha 1) 3988292384 else BH .u32 ha 1),hd+1),()) ⟨hE,AcM _⟩ (A6.c rfl (A6.c rfl (A6.c rfl (A6.c rfl A6.nil)))) sN)
    ·refine Bl (As ?_);have hG:=BB hB ho h5;exact As (AV (A3 ((ha,hd,hd,decide (hd<8)),()) hG (A6.c rfl (A6.c5 rfl rfl rfl rfl rfl A6.nil)) sN))
   ·rintro⟨⟨hl,hp,hq,hr⟩,⟨⟩⟩ hh;refine Cb (l':=[(0,rS s),(3,rI .u32 hl),(4,Ap hb),(5,Ap hp),(18,Ap hq),(19,rB hr)]) (H':=[]) rfl rfl ?_;replace hh:JC hb hl hp hq hr=some hj:=hh;unfold JC at hh;refine AW (AA (AJ (Ah (wm rfl (ck hh λhH hI=>wv (Bk rfl rfl hH) (wa rfl (Ak ?_)))))));have hJ:=Ba hI hn;exact Az (A3 (hx,(hl,hb+1),()) ⟨hJ,AcM _⟩ (A6.c rfl (A6.c rfl (A6.c rfl A6.nil))) sN)
  ·refine Bl (As ?_);have hK:=BB h0 hn hu;exact As (AV (A3 (he,()) hK (A6.c rfl A6.nil) sN))
 ·rintro⟨hm,⟨⟩⟩ hi;refine Cb (l':=[(3,rI .u32 hm)]) (H':=[]) rfl rfl ?_;replace hi:L9 hm=some r:=hi;unfold L9 at hi;refine AW (AJ (Ag (wm rfl (wv (r:=rI .u32 (Q9 .u32 hm)) (TW rfl) (wa rfl (Am (Av ?_)))))));obtain rfl:=Aw hi;exact Au (BQ Tryz.results95 (AG rfl)) sN ⟨rfl,rfl⟩
theorem R5 (n:Int)(r:(List Int))(h:Mw n=some r):Fn Tryz.prog GE 94 [rI .u32 n] [] (λR H=>R=AQ 1 (A8 Bc r)∧H=[]):=by
 refine enter (n:=15) Tryz.func94 rfl Tryz.ntmps94 rfl (λw Z=>?_);unfold Mw at h;refine Ag (wa rfl (Bv (wm rfl (wv (r:=rI .u32 (BH .u32 n 24)) (JF rfl rfl (by decide)) (wv (r:=rI .u8 (IntKind.wrap .u8 (BH .u32 n 24))) (B0 ⟨_,Gr⟩ KB rfl) (wm rfl (wv (r:=rI .u32 (BH .u32 n 16)) (JF rfl rfl (by decide)) (wv (r:=rI .u8 (IntKind.wrap .u8 (BH .u32 n 16))) (B0 ⟨_,Gr⟩ KB rfl) (wm rfl (wv (r:=rI .u32 (BH .u32 n 8)) (JF rfl rfl (by decide)) (wv (r:=rI .u8 (IntKind.wrap .u8 (BH .u32 n 8))) (B0 ⟨_,Gr⟩ KB rfl) (wm rfl (wv (r:=rI .u8 (IntKind.wrap .u8 n)) (B0 ⟨_,Gr⟩ KB rfl) (AZ (ys:=([IntKind.wrap .u8 (BH .u32 n 24),IntKind.wrap .u8 (BH .u32 n 16),IntKind.wrap .u8 (BH .u32 n 8),IntKind.wrap .u8 n]:List Int)) (enc:=Bc) (css:=[[rI .u8 (IntKind.wrap .u8 (BH .u32 n 24))],[rI .u8 (IntKind.wrap .u8 (BH .u32 n 16))],[rI .u8 (IntKind.wrap .u8 (BH .u32 n 8))],[rI .u8 (IntKind.wrap .u8 n)]]) (xs:=[.tmp 5,.tmp 8,.tmp 11,.tmp 13]) E3 Zb Za rfl rfl rfl ⟨EI.one rfl (Up.refl _),EI.one rfl (Up.refl _),EI.one rfl (Up.refl _),EI.one rfl (Up.refl _),trivial⟩ rfl CN rfl rfl rfl (λb1=>?_)))))))))))))));refine wa rfl (Am (Av (WK.freeze (i:=0) rfl (WK.up (d:=2) (r:=AQ 1 (A8 Bc ([IntKind.wrap .u8 (BH .u32 n 24),IntKind.wrap .u8 (BH .u32 n 16),IntKind.wrap .u8 (BH .u32 n 8),IntKind.wrap .u8 n]:List Int))) rfl (Up.fact (i:=0) rfl) ?_))));obtain rfl:=Aw h;exact Au (BQ Tryz.results94 (AG rfl)) (sS sN) ⟨rfl,rfl⟩
theorem R4 (F:Nat)(fields:(List Af))(r:Af×Int)(h:JB F fields=some r):Fn Tryz.prog GE 49 [AQ 1 (A8 eS fields)] [] (λR H=>R=C2 [rS r.1,Ap r.2]∧H=[]):=by
 refine enter (n:=50) Tryz.func49 rfl Tryz.ntmps49 rfl (λw Z=>?_);unfold JB at h;refine Ag (wv (r:=rS ([]:Af)) (Ax rfl) (wa rfl (Am (Ai (Ag (wm rfl (wv (Be (ys:=fields) (enc:=eS) Ch rfl) (wv (C3 rfl rfl) (Am (cz h rfl (λc1 h2=>?_) (λc1 h3=>?_)))))))))))
 ·refine Ag (wv (r:=rS ([]:Af)) (Ax rfl) (wa rfl (Am (Av (Ac ?_)))));obtain rfl:=Aw h2;exact Au (DC Tryz.results49 (AG rfl) (AG rfl)) sN ⟨rfl,rfl⟩
 ·refine Ar (AJ (Ag (wm rfl (wv (Be (ys:=fields) (enc:=eS) Ch rfl) (wv (r:=rI .u8 (IntKind.wrap .u8 (fields.length:Int))) (B0 ⟨_,SD⟩ KB rfl) (AZ (ys:=([IntKind.wrap .u8 (fields.length:Int)]:List Int)) (enc:=Bc) (css:=[[rI .u8 (IntKind.wrap .u8 (fields.length:Int))]]) (xs:=[.tmp 11]) E3 Zb Za rfl rfl rfl ⟨EI.one rfl (Up.refl _),trivial⟩ rfl CN rfl rfl rfl (λb4=>?_)))))));refine wa rfl (Am (Ai (Ag (wm rfl (wv (Be (ys:=fields) (enc:=eS) Ch rfl) (wv (r:=Ap 0) (Al rfl) (Am (A9 (ob h3 λhl hm hj=>Bg (S:=Nat×((List Int)×Int)×(Value)) (V:=((List Int))×(Value)) 0 (λσ=>B7 (λσ=>EV fields σ.1 σ.2) σ.1 σ.2.1=some hl) (λσ=>[(0,AQ 1 (A8 eS fields)),(4,rv σ.2.2),(14,Ap (fields.length:Int)),(15,Ap σ.2.1.2)]) (λσ=>[.row σ.2.2 5 1 (A8 Bc σ.2.1.1)]) (λσ=>σ.1) (F,(([IntKind.wrap .u8 (fields.length:Int)]:List Int),0),(.slice (some ⟨b4,0,none⟩) 1 1)) hm (A6.c rfl (A6.c rfl (A6.c rfl (A6.c rfl A6.nil)))) (sC sN) (λσ=>Kh σ.1=some r) (λσ=>[(4,rv σ.2)]) (λσ=>[.row σ.2 5 1 (A8 Bc σ.1)]) ?_ ?_)))))))))
  ·rintro⟨hC,⟨hb,ha⟩,hd⟩ hn;refine BG (l':=[(0,AQ 1 (A8 eS fields)),(4,rv hd),(14,Ap (fields.length:Int)),(15,Ap ha)]) (H':=[.row hd 5 1 (A8 Bc hb)]) rfl rfl ?_;obtain⟨ho,rfl,hp,he,hi⟩:=BZ hn;replace he:EV fields hb ha=some hp:=he;unfold EV at he;refine Ag (wv (Cj rfl rfl) (Am (Ai (cz he rfl (λhq hr=>?_) (λhq hs=>?_)))))
   ·refine Ar (AJ (Ai (A9 (Ag (wm rfl (wa rfl (Am (Ai (Ag (wm rfl (wm rfl (ck hr λhf ht=>wv (Bb (enc:=eS) (ys:=fields) Ch Cs rfl rfl hf) (wv (AU CU rfl rfl) (wv (Bj Ce rfl) (wv (C3 rfl rfl) (Am (cz ht rfl (λhu hw=>?_) (λhu hx=>?_))))))))))))))))))
    ·refine Ag (wv (r:=rS ([]:Af)) (Ax rfl) (wa rfl (Am (Av (Ac (Ay (Ac (Ac (AR ?_)))))))));have hy:=Bo hw hi hj;refine Ay (Ac ?_);obtain rfl:=Aw hy;exact Au (DC Tryz.results49 (AG rfl) (AG rfl)) (sS sN) ⟨rfl,rfl⟩
    ·refine Ar (AJ (Ai (ck hx λhz h0=>Gc 16 [0,4,5,14,15] [⟨[],rv hd,none,none,none⟩,⟨[],AQ 1 (A8 eS fields),none,none,none⟩,⟨[],Ap ha,none,none,none⟩,⟨[1,2],E6 [rS (Ao fields ha)],none,none,none⟩,⟨[3],rS (Ao fields ha),none,none,none⟩,⟨[4],Ap ((Ao fields ha).length:Int),none,none,none⟩,⟨[5],Ap (Int.tdiv ((Ao fields ha).length:Int) 256),none,none,none⟩,⟨[6],rI .u8 (IntKind.wrap .u8 (Int.tdiv ((Ao fields ha).length:Int) 256)),none,none,none⟩,⟨[],AQ 1 (A8 eS fields),none,none,none⟩,⟨[],Ap ha,none,none,none⟩,⟨[8,9],E6 [rS (Ao fields ha)],none,none,none⟩,⟨[10],rS (Ao fields ha),none,none,none⟩,⟨[11],Ap ((Ao fields ha).length:Int),none,none,none⟩,⟨[12],Ap (Int.tmod ((Ao fields ha).length:Int) 256),none,none,none⟩,⟨[13],rI .u8 (IntKind.wrap .u8 (Int.tmod ((Ao fields ha).length:Int) 256)),none,none,none⟩,⟨[7,14],AQ 1 (A8 Bc ([IntKind.wrap .u8 (Int.tdiv ((Ao fields ha).length:Int) 256),IntKind.wrap .u8 (Int.tmod ((Ao fields ha).length:Int) 256)]:List Int)),none,none,none⟩] ?_ (λβ=>?_))))
     ·refine Dq (Al rfl) (Dq (Al rfl) (Dq (Al rfl) (Dq (Bb (enc:=eS) (ys:=fields) Ch Cs rfl rfl hf) (Dq (AU CU rfl rfl) (Dq (Bj Ce rfl) (Dq (Xw rfl rfl (by decide) hz) (Dq (B0 ⟨_,SD⟩ KB rfl) (Dq (Al rfl) (Dq (Al rfl) (Dq (Bb (enc:=eS) (ys:=fields) Ch Cs rfl rfl hf) (Dq (AU CU rfl rfl) (Dq (Bj Ce rfl) (Dq (Xv rfl rfl (by decide)) (Dq (B0 ⟨_,SD⟩ KB rfl) (oac (CD (ys:=([IntKind.wrap .u8 (Int.tdiv ((Ao fields ha).length:Int) 256),IntKind.wrap .u8 (Int.tmod ((Ao fields ha).length:Int) 256)]:List Int)) (enc:=Bc) (css:=[[rI .u8 (IntKind.wrap .u8 (Int.tdiv ((Ao fields ha).length:Int) 256))],[rI .u8 (IntKind.wrap .u8 (Int.tmod ((Ao fields ha).length:Int) 256))]]) (xs:=[.tmp 31,.tmp 38]) E3 Zb Za rfl rfl rfl ⟨EI.one rfl (Up.refl _),EI.one rfl (Up.refl _),trivial⟩ rfl CN rfl rfl) ?_)))))))))))))));exact Xt
     refine GL (H1:=[.row hd 5 1 (A8 Bc hb)]) [24,25,26,27,28,29,30,31,32,33,34,35,36,37,38,39,0,4,5,14,15] ?_;refine ck h0 λh1 h4=>Exists.elim Js λinf hinf=>BY (xs:=hb) (ys:=([IntKind.wrap .u8 (Int.tdiv ((Ao fields ha).length:Int) 256),IntKind.wrap .u8 (Int.tmod ((Ao fields ha).length:Int) 256)]:List Int)) (enc:=Bc) (i:=0) E3 hinf.1 hinf.2.1 hinf.2.2.1 hinf.2.2.2 rfl rfl rfl rfl rfl (KA.z rfl rfl) CN IL h1 rfl (λhD=>?_);refine wa rfl (Am (Ah (wm rfl (wm rfl (wm rfl (wv (Bb (enc:=eS) (ys:=fields) Ch Cs rfl rfl hf) (wv (AU CU rfl rfl) (ck h4 λh5 h6=>Exists.elim Js λinf hinf=>Eo (xs:=hb++([IntKind.wrap .u8 (Int.tdiv ((Ao fields ha).length:Int) 256),IntKind.wrap .u8 (Int.tmod ((Ao fields ha).length:Int) 256)]:List Int)) (i:=0) E3 Ce hinf.1 hinf.2.1 hinf.2.2.1 hinf.2.2.2 rfl rfl rfl h5 rfl (λh7=>?_)))))))));refine wa rfl (Ak (AA (AJ (Ah (ck h6 λh8 h9=>wv (Bk rfl rfl h8) (wm rfl (Ak ?_)))))));have hA:=Ba h9 hi;exact Az (A3 (ho,((hb++([IntKind.wrap .u8 (Int.tdiv ((Ao fields ha).length:Int) 256),IntKind.wrap .u8 (Int.tmod ((Ao fields ha).length:Int) 256)]:List Int))++C8 (Ao fields ha),ha+1),h7) ⟨hA,AcM _⟩ (A6.c rfl (A6.c rfl (A6.c rfl (A6.c rfl A6.nil)))) (sC sN))
   ·refine Bl (As ?_);have hB:=BB hs hi hj;exact As (AV (A3 (hb,hd) hB (A6.c rfl A6.nil) (sC sN)))
  ·rintro⟨hg,hk⟩ hh;refine Cb (l':=[(4,rv hk)]) (H':=[.row hk 5 1 (A8 Bc hg)]) rfl rfl ?_;replace hh:Kh hg=some r:=hh;unfold Kh at hh;refine AW (AJ (Ag (wm rfl (wv (r:=rS (Id hg)) (P9 (xs:=hg) (i:=0) E3 Ce KB rfl rfl) (wa rfl (wa rfl (Am (Av ?_))))))));obtain rfl:=Aw hh;exact Au (DC Tryz.results49 (AG rfl) (AG rfl)) (sS sN) ⟨rfl,rfl⟩
theorem WZ (F:Nat)(body:Af)(r:Af×Int)(h:Mv F body=some r):Fn Tryz.prog GE 70 [rS body] [] (λR H=>R=C2 [rS r.1,Ap r.2]∧H=[]):=by
 refine enter (n:=19) Tryz.func70 rfl Tryz.ntmps70 rfl (λw Z=>?_);unfold Mv at h;refine Ag (wv (r:=rS ([]:Af)) (Ax rfl) (wa rfl (Am (Ai (Ag (wm rfl (wv (Bj Ce rfl) (wv (C3 rfl rfl) (Am (cz h rfl (λc1 h2=>?_) (λc1 h3=>?_)))))))))))
 ·refine Ag (wv (r:=rS ([]:Af)) (Ax rfl) (wa rfl (Am (Av (Ac ?_)))));obtain rfl:=Aw h2;exact Au (DC Tryz.results70 (AG rfl) (AG rfl)) sN ⟨rfl,rfl⟩
 ·refine Ar (AJ (Ai (ob h3 λr4 e6 h5=>ob h5 λr7 e9 h8=>ob h8 λha hb hd=>ck hd λhe hf=>ck hf λg15 hg=>C1 [0] [⟨[],rS body,0⟩,⟨[0],Ap (body.length:Int),0⟩,⟨[1],rI .u32 (IntKind.wrap .u32 (body.length:Int)),0⟩,⟨[2],AQ 1 (A8 Bc r4),0⟩,⟨[3],rS (Id r4),0⟩,⟨[],rS body,0⟩,⟨[5],rI .u32 r7,0⟩,⟨[6],AQ 1 (A8 Bc ha),0⟩,⟨[7],rS (Id ha),0⟩,⟨[4,8],rS ((Id r4)++(Id ha)),0⟩,⟨[],rS body,0⟩,⟨[9,10],rS (((Id r4)++(Id ha))++body),0⟩,⟨[11],rS (((Id r4)++(Id ha))++body),0⟩,⟨[],Ap 0,0⟩] [2,3] ?_ ?_)))
  ·refine oq (Al rfl) (oq (Bj Ce rfl) (oq (B0 ⟨_,SD⟩ Gr rfl) (DN rfl (λH=>HP Tryz.call94 (R5 (IntKind.wrap .u32 (body.length:Int)) r4 e6) rfl) ?_)));refine oq (TX (xs:=r4) E3 Ce KB rfl) (oq (Al rfl) (DN rfl (λH=>HP Tryz.call95 (Z1 F body r7 e9) rfl) ?_));refine DN rfl (λH=>HP Tryz.call94 (R5 r7 ha hb) rfl) ?_;refine oq (TX (xs:=ha) E3 Ce KB rfl) (oq (Da rfl rfl he) (oq (Al rfl) (oq (Da rfl rfl g15) (oq (Ax rfl) (oq (Ax rfl) ?_)))));exact Cd
  refine AJ (Av ?_);obtain rfl:=Aw hg;exact Au (DC Tryz.results70 (AG rfl) (AG rfl)) sN ⟨rfl,rfl⟩
theorem Xa (F:Nat)(bodies:(List Af))(r:Af×Int)(h:On F bodies=some r):Fn Tryz.prog GE 50 [AQ 1 (A8 eS bodies)] [] (λR H=>R=C2 [rS r.1,Ap r.2]∧H=[]):=by
 refine enter (n:=62) Tryz.func50 rfl Tryz.ntmps50 rfl (λw Z=>?_);unfold On at h;refine Ag (wv (r:=rS ([]:Af)) (Ax rfl) (wa rfl (Bv (wa rfl (Am (Ai (Ag (wm rfl (wv (Be (ys:=bodies) (enc:=eS) Ch rfl) (wv (r:=Ap 0) (Al rfl) (Am (A9 (ob h λht hu ho=>Bg (S:=Nat×(Int×Int)×(Unit)) (V:=(Int)×(Unit)) 0 (λσ=>B7 (λσ=>Ex bodies σ.1 σ.2) σ.1 σ.2.1=some ht) (λσ=>[(0,AQ 1 (A8 eS bodies)),(4,Ap σ.2.1.1),(11,Ap (bodies.length:Int)),(12,Ap σ.2.1.2)]) (λσ=>[]) (λσ=>σ.1) (F,(0,0),()) hu (A6.c rfl (A6.c rfl (A6.c rfl (A6.c rfl A6.nil)))) sN (λσ=>Hh F bodies σ.1=some r) (λσ=>[(0,AQ 1 (A8 eS bodies)),(4,Ap σ.1)]) (λσ=>[]) ?_ ?_)))))))))))))
 ·rintro⟨gj,⟨hd,hb⟩,⟨⟩⟩ hw;refine BG (l':=[(0,AQ 1 (A8 eS bodies)),(4,Ap hd),(11,Ap (bodies.length:Int)),(12,Ap hb)]) (H':=[]) rfl rfl ?_;obtain⟨hx,rfl,hy,hf,hl⟩:=BZ hw;replace hf:Ex bodies hd hb=some hy:=hf;unfold Ex at hf;refine Ag (wv (Cj rfl rfl) (Am (Ai (cz hf rfl (λhz h0=>?_) (λhz h1=>?_)))))
  ·refine Ar (AJ (Ai (A9 (Ag (wm rfl (wa rfl (Am (Ai (ck h0 λhm h2=>ck h2 λh3 h4=>ck h4 λh5 h6=>AK [(0,AQ 1 (A8 eS bodies)),(4,Ap hd),(5,Ap hb),(11,Ap (bodies.length:Int)),(12,Ap hb),(31,rB ((decide (262136<((Ao bodies hb).length:Int)))||(decide (262144<((hd+8)+((Ao bodies hb).length:Int))))))] [] ?_ ?_)))))))))
   ·refine Ah (wm rfl (wm rfl (wv (Bb (enc:=eS) (ys:=bodies) Ch Cs rfl rfl hm) (wv (AU CU rfl rfl) (wv (Bj Ce rfl) (wv (C3 rfl rfl) (wm rfl (AS (decide (262136<((Ao bodies hb).length:Int))) (λha=>?_) (λha=>?_)))))))))
    ·refine wf ha (wf ha (wf ha (wf ha (wf ha (wf ha (wf ha (wf ha (wf ha (wv (r:=rB true) (A1 rfl ha rfl) (Ak ?_))))))))));exact Cm ha
    ·refine wo ha (wm rfl (wo ha (wv (Bk rfl rfl (D6 h3 ha)) (wo ha (wm rfl (wo ha (wm rfl (wo ha (wv (Bb (enc:=eS) (ys:=bodies) Ch Cs rfl rfl hm) (wo ha (wv (AU CU rfl rfl) (wo ha (wv (Bj Ce rfl) (wo ha (wv (Bk rfl rfl (D6 h5 ha)) (wo ha (wv (C3 rfl rfl) (GK rfl ha rfl (Ak ?_)))))))))))))))))));exact Cm ha
   refine cz h6 rfl (λc75 h7=>?_) (λc75 h8=>?_)
   ·refine Ag (wv (r:=rS ([]:Af)) (Ax rfl) (wa rfl (Am (Av (Ac (Ay (Ac (Ac (AR ?_)))))))));have h9:=Bo h7 hl ho;refine Ay (Ac ?_);obtain rfl:=Aw h9;exact Au (DC Tryz.results50 (AG rfl) (AG rfl)) sN ⟨rfl,rfl⟩
   ·refine Ar (AJ (Ah (wm rfl (ck h8 λhA hB=>wv (Bk rfl rfl hA) (wm rfl (wm rfl (wv (Bb (enc:=eS) (ys:=bodies) Ch Cs rfl rfl hm) (wv (AU CU rfl rfl) (wv (Bj Ce rfl) (ck hB λhC hD=>wv (Bk rfl rfl hC) (wa rfl (Ak (AA (AJ (Ah (ck hD λhE hG=>wv (Bk rfl rfl hE) (wm rfl (Ak ?_))))))))))))))))));have hH:=Ba hG hl;exact Az (A3 (hx,((hd+8)+((Ao bodies hb).length:Int),hb+1),()) ⟨hH,AcM _⟩ (A6.c rfl (A6.c rfl (A6.c rfl (A6.c rfl A6.nil)))) sN)
  ·refine Bl (As ?_);have hI:=BB h1 hl ho;exact As (AV (A3 (hd,()) hI (A6.c rfl (A6.c rfl A6.nil)) sN))
 ·rintro⟨hp,⟨⟩⟩ hg;refine Cb (l':=[(0,AQ 1 (A8 eS bodies)),(4,Ap hp)]) (H':=[]) rfl rfl ?_;replace hg:Hh F bodies hp=some r:=hg;unfold Hh at hg;refine AW (AJ (Ag (wm rfl (ck hg λhJ hK=>ck hK λhL hN=>Exists.elim Js λinf hinf=>Zm (α:=Int) (enc:=Bc) E3 hinf.1 hinf.2.1 hinf.2.2.1 hinf.2.2.2 rfl rfl rfl hJ hL rfl (λhO=>?_)))));refine wa rfl (Am (Ai (Ag (wm rfl (wv (Be (ys:=bodies) (enc:=eS) Ch rfl) (wv (r:=Ap 0) (Al rfl) (Am (A9 (ob hN λhP hQ hR=>Bg (S:=Nat×((List Int)×Int)×(Value)) (V:=((List Int))×(Value)) 2 (λσ=>B7 (λσ=>Ew F bodies σ.1 σ.2) σ.1 σ.2.1=some hP) (λσ=>[(0,AQ 1 (A8 eS bodies)),(6,rv σ.2.2),(44,Ap (bodies.length:Int)),(45,Ap σ.2.1.2)]) (λσ=>[.row σ.2.2 5 1 (A8 Bc σ.2.1.1)]) (λσ=>σ.1) (F,(([]:List Int),0),hO) hQ (A6.c rfl (A6.c rfl (A6.c rfl (A6.c rfl A6.nil)))) (sC sN) (λσ=>I3 σ.1=some r) (λσ=>[(6,rv σ.2)]) (λσ=>[.row σ.2 5 1 (A8 Bc σ.1)]) ?_ ?_)))))))))
  ·rintro⟨gk,⟨he,hh⟩,hn⟩ hS;refine BG (l':=[(0,AQ 1 (A8 eS bodies)),(6,rv hn),(44,Ap (bodies.length:Int)),(45,Ap hh)]) (H':=[.row hn 5 1 (A8 Bc he)]) rfl rfl ?_;obtain⟨hT,rfl,hU,hi,hq⟩:=BZ hS;replace hi:Ew F bodies he hh=some hU:=hi;unfold Ew at hi;refine Ag (wv (Cj rfl rfl) (Am (Ai (cz hi rfl (λhV hW=>?_) (λhV hX=>?_)))))
   ·refine Ar (AJ (Ai (A9 (Ag (wm rfl (wa rfl (Bv (wm rfl (wm rfl (ck hW λhY hZ=>wv (Bb (enc:=eS) (ys:=bodies) Ch Cs rfl rfl hY) (wv (AU CU rfl rfl) (ob hZ λhr ga gb=>CG Tryz.call70 (WZ F (Ao bodies hh) hr ga) rfl (wm rfl (wv (AE rfl rfl) (wv (AE rfl rfl) (wa rfl (wa rfl (Am (Ah (wm rfl (wm rfl ?_)))))))))))))))))))));refine ck gb λgc gd=>Exists.elim Js λinf hinf=>Eo (xs:=he) (i:=0) E3 Ce hinf.1 hinf.2.1 hinf.2.2.1 hinf.2.2.2 rfl rfl rfl gc rfl (λge=>?_);refine wa rfl (Ak (AA (AJ (Ah (ck gd λgf gg=>wv (Bk rfl rfl gf) (wm rfl (Ak ?_)))))));have gh:=Ba gg hq;exact Az (A3 (hT,(he++C8 hr.1,hh+1),ge) ⟨gh,AcM _⟩ (A6.c rfl (A6.c rfl (A6.c rfl (A6.c rfl A6.nil)))) (sC sN))
   ·refine Bl (As ?_);have gi:=BB hX hq hR;exact As (AV (A3 (he,hn) gi (A6.c rfl A6.nil) (sC sN)))
  ·rintro⟨hj,hs⟩ hk;refine Cb (l':=[(6,rv hs)]) (H':=[.row hs 5 1 (A8 Bc hj)]) rfl rfl ?_;replace hk:I3 hj=some r:=hk;unfold I3 at hk;refine AW (AJ (Ag (wm rfl (wv (r:=rS (Id hj)) (P9 (xs:=hj) (i:=0) E3 Ce KB rfl rfl) (wa rfl (wa rfl (Am (Av ?_))))))));obtain rfl:=Aw hk;exact Au (DC Tryz.results50 (AG rfl) (AG rfl)) (sS sN) ⟨rfl,rfl⟩
end Go.Proofs.YtjfnokmpfekniaaGreatDoor.Q
namespace Go.Proofs.YtjfnokmpfekniaaGreatDoor
open Go
set_option linter.unusedVariables false
def Sd (F:Nat)(c:Ad):Option (Af×Int):=
 Bf (!c.fDelete) (Br (Lu F c.fValue) λr4=>Bf (!decide (r4.2=0)) (some (([]:Af),r4.2)) (AX (B9 .i64 c.fIfVersion)<|Br (PT F ([c.fKey,([48]:Af),r4.1,Lib.itoa c.fIfVersion]:List Af)) λha=>some (ha.1,ha.2))) (AX (B9 .i64 c.fIfVersion)<|Br (PT F ([c.fKey,([49]:Af),([]:Af),Lib.itoa c.fIfVersion]:List Af)) λhb=>some (hb.1,hb.2))
def DH (F:Nat)(l:(List Ad))(hd:(List Af))(ha:Int):Option (Stp ((List Af)×Int) (Out (Af×Int) ((List Af)))):=
 Bf (decide (ha<(l.length:Int))) (AX (CJ ha (l.length:Int))<|Br (Sd F (Ao l ha)) λhb=>Bf (!decide (hb.2=0)) (some (.out (.ret (([]:Af),hb.2)))) (AX (Dw 16 (hd.length+([hb.1]:List Af).length))<|AX (B9 .i64 (ha+1))<|some (.next (hd++([hb.1]:List Af),ha+1)))) (some (.out (.go hd)))
def HB (F:Nat)(hb:(List Af)):Option (Af×Int):=
 Br (Ss F hb) λha=>some (ha.1,ha.2)
def Jd (F:Nat)(l:(List Ad)):Option (Af×Int):=
 Br (HA F l) λr1=>Bf (!decide (r1=0)) (some (([]:Af),r1)) (Br (B7 (λσ=>DH F l σ.1 σ.2) F (([]:List Af),0)) (B5 λν=>HB F ν))
def LP (F:Nat)(s:Af):Option (Ad×Bool):=
 Br (LX F s) λr2=>AX (imp (!(!decide (r2.2=0))) (imp (!(!decide ((r2.1.length:Int)=4))) (CJ 1 (r2.1.length:Int))))<|Bf (((!decide (r2.2=0))||((!decide ((r2.1.length:Int)=4))||((!decide ((Ao r2.1 1)=([48]:Af)))&&(!decide ((Ao r2.1 1)=([49]:Af))))))) (some ((Ad.mk ([]:Af) false ([]:List Aa) 0),false)) (AX (CJ 3 (r2.1.length:Int))<|AX (Dw 1 (Ao r2.1 3).length)<|Bf (!decide ((BP (Ao r2.1 3))=0)) (some ((Ad.mk ([]:Af) false ([]:List Aa) 0),false)) (AX (CJ 0 (r2.1.length:Int))<|AX (CJ 1 (r2.1.length:Int))<|Bf (decide ((Ao r2.1 1)=([49]:Af))) (AX (CJ 2 (r2.1.length:Int))<|some ((Ad.mk (Ao r2.1 0) (decide ((Ao r2.1 1)=([49]:Af))) ([]:List Aa) (By (Ao r2.1 3))),decide ((Ao r2.1 2)=([]:Af)))) (AX (CJ 2 (r2.1.length:Int))<|Br (Lv F (Ao r2.1 2)) λha=>some ((Ad.mk (Ao r2.1 0) (decide ((Ao r2.1 1)=([49]:Af))) ha.1 (By (Ao r2.1 3))),decide (ha.2=0)))))
def DI (F:Nat)(r1:(List Af)×Int)(hb:(List Ad))(ha:Int):Option (Stp ((List Ad)×Int) (Out ((List Ad)×Int) ((List Ad)))):=
 Bf (decide (ha<(r1.1.length:Int))) (AX (CJ ha (r1.1.length:Int))<|Br (LP F (Ao r1.1 ha)) λhd=>Bf (!hd.2) (some (.out (.ret (([]:List Ad),13)))) (AX (Dw 56 (hb.length+([hd.1]:List Ad).length))<|AX (B9 .i64 (ha+1))<|some (.next (hb++([hd.1]:List Ad),ha+1)))) (some (.out (.go hb)))
def HC (F:Nat)(rc:Af)(ha:(List Ad)):Option ((List Ad)×Int):=
 Br (Jd F ha) λhb=>Bf (((!decide (hb.2=0))||(!decide (hb.1=rc)))) (some (([]:List Ad),13)) (some (ha,0))
def LR (F:Nat)(rc:Af):Option ((List Ad)×Int):=
 Br (OJ F rc) λr1=>Bf (!decide (r1.2=(rc.length:Int))) (some (([]:List Ad),13)) (Br (B7 (λσ=>DI F r1 σ.1 σ.2) F (([]:List Ad),0)) (B5 λν=>HC F rc ν))
def Ds (F:Nat)(l:(List Ae))(hd:(List Af))(ha:Int)(he:(List (Af×Bool))):Option (Stp ((List Af)×Int×(List (Af×Bool))) (Out ((List Af)×Int) ((List Af)))):=
 Bf (decide (ha<(l.length:Int))) (AX (CJ ha (l.length:Int))<|Br (HD F (Ad.mk ((Ao l ha).fKey) false ((Ao l ha).fValue) 0)) λhf=>Bf (!decide (hf=0)) (some (.out (.ret (([]:List Af),hf)))) (Bf (Cw he ((Ao l ha).fKey) false) (some (.out (.ret (([]:List Af),6)))) (Br (Jd F ([(Ad.mk ((Ao l ha).fKey) false ((Ao l ha).fValue) 0)]:List Ad)) λhb=>Bf (!decide (hb.2=0)) (some (.out (.ret (([]:List Af),hb.2)))) (AX (Dw 16 (hd.length+([hb.1]:List Af).length))<|AX (B9 .i64 (ha+1))<|some (.next (hd++([hb.1]:List Af),ha+1,mset he ((Ao l ha).fKey) true)))))) (some (.out (.go hd)))
def Gl (ha:(List Af)):Option ((List Af)×Int):=
 some (ha,0)
def IE (F:Nat)(l:(List Ae)):Option ((List Af)×Int):=
 Bf (decide (256<(l.length:Int))) (some (([]:List Af),3)) (Br (B7 (λσ=>Ds F l σ.1 σ.2.1 σ.2.2) F (([]:List Af),0,([]:List (Af×Bool)))) (B5 λν=>Gl ν))
def Se (F:Nat)(q:AM)(rc:Af):Option (Int×AM):=
 Br (LQ q) λr1=>Bf (!r1.1) (some (10,r1.2)) (Br (LR F rc) λr7=>Bf (!decide (r7.2=0)) (some (r7.2,r1.2)) (Br (Ih F r1.2 r7.1) λha=>some (ha.1,ha.2)))
end Go.Proofs.YtjfnokmpfekniaaGreatDoor
namespace Go.Proofs.YtjfnokmpfekniaaGreatDoor.Q
open Go Go.RowKit
set_option linter.unusedVariables false
set_option linter.unusedSimpArgs false
set_option maxRecDepth 100000
set_option maxHeartbeats 4000000
@[reducible] def Ig (x:Bool):Rp:=rB x
theorem XB (Z:Fz):(Ig false).p Z (.bool false):=rfl
theorem Ya:∃inf,Tryz.prog.info? 50=some inf∧inf.zero=some (.agg #[(.string ⟨#[]⟩),(.bool false),(.slice none 0 0),(.int .i64 0)])∧inf.size=4∧inf.bytes=56:=by
  have key:(Tryz.prog.info? 50).map (λi=>(i.zero,i.size,i.bytes))=some (some (.agg #[(.string ⟨#[]⟩),(.bool false),(.slice none 0 0),(.int .i64 0)]),4,56):=by kernel_rfl
  obtain⟨inf,h1,h2⟩:=Option.map_eq_some_iff.1 key;simp only[Prod.mk.injEq] at h2;exact⟨inf,h1,h2.1,h2.2.1,h2.2.2⟩
theorem O0 {n:Nat}{c:Cx}{l:Fr}{H:List Ent}{d:Option Nat}{ty:TypeId}{pos:String}{af:Array Edge}{g:Option (Nat×Bool)}:Bn Tryz.prog n c l H { dst:=d,op:=.build 50 #[],type:=ty,pos:=pos,after:=af,guard:=g } (BK [rS ([]:Af),rB false,rv (.slice none 0 0),Ap 0]):=λa w Z ha _=>by
  have hb:Tryz.prog.built 50 []=some #[(.string ⟨#[]⟩),(.bool false),((.slice none 0 0)),(.int .i64 0)]:=by
    rw[NF];simp[Instr.fill,Value.cells]
  refine⟨.agg #[(.string ⟨#[]⟩),(.bool false),((.slice none 0 0)),(.int .i64 0)],⟨[(.string ⟨#[]⟩),(.bool false),((.slice none 0 0)),(.int .i64 0)],rfl,rfl,rfl,rfl,rfl,trivial⟩,?_⟩;have:=run_build w 50 #[] _ (by simpa using hb);simp[execOp,this]
theorem If {n:Nat}{c:Cx}{l:Fr}{H:List Ent}{d:Option Nat}{ty:TypeId}{pos:String}{af:Array Edge}{g:Option (Nat×Bool)}{x0:Operand}{r0:Rp}(h0:ev l x0=some r0)(u0:r0.one=true){x2:Operand}{r2:Rp}(h2:ev l x2=some r2)(u2:r2.one=true):Bn Tryz.prog n c l H { dst:=d,op:=.build 50 #[(0,x0),(2,x2)],type:=ty,pos:=pos,after:=af,guard:=g } (BK [r0,rB false,r2,Ap 0]):=λa w Z ha _=>by
  have p0:=ha.ev h0;have c0:=BA (r0.hone u0 Z _ p0);have p2:=ha.ev h2;have c2:=BA (r2.hone u2 Z _ p2);have hb:Tryz.prog.built 50 [(0,a.eval x0),(2,a.eval x2)]=some #[a.eval x0,(.bool false),a.eval x2,(.int .i64 0)]:=by
    rw[NF];generalize a.eval x0=v0 at *;generalize a.eval x2=v2 at *;simp[Instr.fill,c0,c2]
  refine⟨.agg #[a.eval x0,(.bool false),a.eval x2,(.int .i64 0)],⟨[a.eval x0,(.bool false),a.eval x2,(.int .i64 0)],rfl,p0,rfl,p2,rfl,trivial⟩,?_⟩;have:=run_build w 50 #[(0,a.eval x0),(2,a.eval x2)] _ (by simpa using hb);simp[execOp,this]
theorem ZM (F:Nat)(c:Ad)(r:Af×Int)(h:Sd F c=some r):Fn Tryz.prog GE 45 [BK (Aj c)] [] (λR H=>R=C2 [rS r.1,Ap r.2]∧H=[]):=by
 refine enter (n:=32) Tryz.func45 rfl Tryz.ntmps45 rfl (λw Z=>?_);unfold Sd at h;refine Ag (DR rfl rfl (λb1=>?_));refine wv (r:=rS ([]:Af)) (Ax rfl) (wa rfl (Bv (wv (r:=rS ([49]:Af)) (Ax rfl) (wv (r:=rS ([]:Af)) (Ax rfl) (Am (Ai (Ag (vF DK rfl HJ (vL 0 Qg rfl (wv (Ci rfl) (Am (cz h rfl (λc2 h3=>?_) (λc2 hd=>?_)))))))))))))
 ·refine Ag (vF DK rfl CO (vL 0 EL rfl (ob h3 λr4 e6 h5=>CG Tryz.call65 (UG F c.fValue r4 e6) rfl (wm rfl (wv (AE rfl rfl) (wv (AE rfl rfl) (wa rfl (wa rfl (Am (Ai (Ag (wm rfl (wv (CQ rfl rfl) (Am (cz h5 rfl (λc7 h8=>?_) (λc7 h9=>?_))))))))))))))))
  ·refine Ag (wm rfl (wv (r:=rS ([]:Af)) (Ax rfl) (wa rfl (Am (Av (Ac (Ac ?_)))))));obtain rfl:=Aw h8;exact Au (DC Tryz.results45 (AG rfl) (AG rfl)) (sS sN) ⟨rfl,rfl⟩
  ·refine Ar (AJ (Ah (wm rfl (wv (r:=rS ([48]:Af)) (Ax rfl) (wa rfl (Am (Ai (ck h9 λhe hf=>ob hf λha hg hh=>C1 [1,4,5] [⟨[],rP b1 0,0⟩,⟨[0],rS c.fKey,1⟩,⟨[],rS ([48]:Af),0⟩,⟨[],rS r4.1,0⟩,⟨[],rP b1 3,0⟩,⟨[4],Ap c.fIfVersion,1⟩,⟨[5],rS (Lib.itoa c.fIfVersion),0⟩,⟨[1,2,3,6],AQ 1 (A8 eS ([c.fKey,([48]:Af),r4.1,Lib.itoa c.fIfVersion]:List Af)),0⟩,⟨[7],C2 [rS ha.1,Ap ha.2],0⟩,⟨[8],rS ha.1,0⟩,⟨[8],Ap ha.2,0⟩,⟨[9],rS ha.1,0⟩,⟨[10],Ap ha.2,0⟩] [2,3] ?_ ?_))))))))
   ·refine oq (AH DK rfl Cs rfl rfl) (of (Bi (i:=0) CU rfl rfl rfl) (oq (Al rfl) (oq (Al rfl) (oq (AH DK rfl Ct rfl rfl) (of (Bi (i:=0) CX rfl rfl rfl) (DN rfl (λH=>I8 (rs:=[Ap c.fIfVersion]) (r:=rS (Lib.itoa c.fIfVersion)) Tryz.call67 rfl (LT c.fIfVersion he) rfl) ?_))))));refine DN rfl (λH=>CD (ys:=([c.fKey,([48]:Af),r4.1,Lib.itoa c.fIfVersion]:List Af)) (enc:=eS) (css:=[[rS c.fKey],[rS ([48]:Af)],[rS r4.1],[rS (Lib.itoa c.fIfVersion)]]) (xs:=[.tmp 22,.tmp 23,.tmp 24,.tmp 27]) Ch Cs Wj rfl rfl rfl ⟨EI.one rfl (Up.refl _),EI.one rfl (Up.refl _),EI.one rfl (Up.refl _),EI.one rfl (Up.refl _),trivial⟩ rfl DY rfl rfl) ?_;refine DN rfl (λH=>HP Tryz.call66 (Uo F ([c.fKey,([48]:Af),r4.1,Lib.itoa c.fIfVersion]:List Af) ha hg) rfl) ?_;refine oq (AE rfl rfl) (oq (AE rfl rfl) (oq (Ax rfl) (oq (Ax rfl) ?_)));exact Cd
   refine AJ (Av ?_);obtain rfl:=Aw hh;exact Au (DC Tryz.results45 (AG rfl) (AG rfl)) (sS sN) ⟨rfl,rfl⟩
 ·refine Ar (AJ (Ai (ck hd λg16 hi=>ob hi λhb hj hk=>C1 [1,4,5] [⟨[],rP b1 0,0⟩,⟨[0],rS c.fKey,1⟩,⟨[],rS ([49]:Af),0⟩,⟨[],rS ([]:Af),0⟩,⟨[],rP b1 3,0⟩,⟨[4],Ap c.fIfVersion,1⟩,⟨[5],rS (Lib.itoa c.fIfVersion),0⟩,⟨[1,2,3,6],AQ 1 (A8 eS ([c.fKey,([49]:Af),([]:Af),Lib.itoa c.fIfVersion]:List Af)),0⟩,⟨[7],C2 [rS hb.1,Ap hb.2],0⟩,⟨[8],rS hb.1,0⟩,⟨[8],Ap hb.2,0⟩,⟨[9],rS hb.1,0⟩,⟨[10],Ap hb.2,0⟩] [2,3] ?_ ?_)))
  ·refine oq (AH DK rfl Cs rfl rfl) (of (Bi (i:=0) CU rfl rfl rfl) (oq (Al rfl) (oq (Al rfl) (oq (AH DK rfl Ct rfl rfl) (of (Bi (i:=0) CX rfl rfl rfl) (DN rfl (λH=>I8 (rs:=[Ap c.fIfVersion]) (r:=rS (Lib.itoa c.fIfVersion)) Tryz.call67 rfl (LT c.fIfVersion g16) rfl) ?_))))));refine DN rfl (λH=>CD (ys:=([c.fKey,([49]:Af),([]:Af),Lib.itoa c.fIfVersion]:List Af)) (enc:=eS) (css:=[[rS c.fKey],[rS ([49]:Af)],[rS ([]:Af)],[rS (Lib.itoa c.fIfVersion)]]) (xs:=[.tmp 22,.tmp 23,.tmp 24,.tmp 27]) Ch Cs Wj rfl rfl rfl ⟨EI.one rfl (Up.refl _),EI.one rfl (Up.refl _),EI.one rfl (Up.refl _),EI.one rfl (Up.refl _),trivial⟩ rfl DY rfl rfl) ?_;refine DN rfl (λH=>HP Tryz.call66 (Uo F ([c.fKey,([49]:Af),([]:Af),Lib.itoa c.fIfVersion]:List Af) hb hj) rfl) ?_;refine oq (AE rfl rfl) (oq (AE rfl rfl) (oq (Ax rfl) (oq (Ax rfl) ?_)));exact Cd
  refine AJ (Av ?_);obtain rfl:=Aw hk;exact Au (DC Tryz.results45 (AG rfl) (AG rfl)) (sS sN) ⟨rfl,rfl⟩
theorem PJ (F:Nat)(l:(List Ad))(r:Af×Int)(h:Jd F l=some r):Fn Tryz.prog GE 23 [AQ 4 (A8 Aj l)] [] (λR H=>R=C2 [rS r.1,Ap r.2]∧H=[]):=by
 refine enter (n:=38) Tryz.func23 rfl Tryz.ntmps23 rfl (λw Z=>?_);unfold Jd at h;refine Ag (wv (r:=rS ([]:Af)) (Ax rfl) (wa rfl (Am (Ai (Ag (wm rfl (ob h λr1 e3 h2=>CG Tryz.call35 (OB F l r1 e3) rfl (wa rfl (Bv (wm rfl (wv (CQ rfl rfl) (Am (cz h2 rfl (λc4 h5=>?_) (λc4 h6=>?_))))))))))))))
 ·refine Ag (wm rfl (wv (r:=rS ([]:Af)) (Ax rfl) (wa rfl (Am (Av (Ac ?_))))));obtain rfl:=Aw h5;exact Au (DC Wo (AG rfl) (AG rfl)) sN ⟨rfl,rfl⟩
 ·refine Ar (AJ (Ag (wa rfl (Am (Ai (Ag (wm rfl (wv (Be (ys:=l) (enc:=Aj) E4 rfl) (wv (r:=Ap 0) (Al rfl) (Am (A9 (WC.nilrow (e:=9) (sz:=1) (ob h6 λhl hm hj=>Bg (S:=Nat×((List Af)×Int)×(Value)) (V:=((List Af))×(Value)) 0 (λσ=>B7 (λσ=>DH F l σ.1 σ.2) σ.1 σ.2.1=some hl) (λσ=>[(2,rS ([]:Af)),(3,Ap 0),(5,rv σ.2.2),(15,AQ 4 (A8 Aj l)),(16,Ap (l.length:Int)),(17,Ap σ.2.1.2)]) (λσ=>[.row σ.2.2 9 1 (A8 eS σ.2.1.1)]) (λσ=>σ.1) (F,(([]:List Af),0),(.slice none 0 0         )) hm (A6.c rfl (A6.c5 rfl rfl rfl rfl rfl A6.nil)) (sC sN) (λσ=>HB F σ.1=some r) (λσ=>[(2,rS ([]:Af)),(3,Ap 0),(5,rv σ.2)]) (λσ=>[.row σ.2 9 1 (A8 eS σ.1)]) ?_ ?_)))))))))))))
  ·rintro⟨hE,⟨hb,ha⟩,he⟩ hn;refine BG (l':=[(2,rS ([]:Af)),(3,Ap 0),(5,rv he),(15,AQ 4 (A8 Aj l)),(16,Ap (l.length:Int)),(17,Ap ha)]) (H':=[.row he 9 1 (A8 eS hb)]) rfl rfl ?_;obtain⟨ho,rfl,t70,hf,hi⟩:=BZ hn;replace hf:DH F l hb ha=some t70:=hf;unfold DH at hf;refine Ag (wv (Cj rfl rfl) (Am (Ai (cz hf rfl (λc76 hp=>?_) (λc76 hq=>?_)))))
   ·refine Ar (AJ (Ai (A9 (Ag (ck hp λhr hs=>wv (Bb (enc:=Aj) (ys:=l) E4 CV rfl rfl hr) (wv (Dc J3 CV rfl rfl rfl) (BM (cs:=[rS ([]:Af),rB false,rv (.slice none 0 0),Ap 0]) J1 rfl rfl (λht=>?_))))))));refine Bh (i:=0) CV rfl rfl rfl (BJ.c rfl) rfl rfl (cs':=[rS ((Ao l ha).fKey),rB ((Ao l ha).fDelete),AQ 4 (A8 Ab ((Ao l ha).fValue)),Ap ((Ao l ha).fIfVersion)]) rfl (H':=[.blk ht (Aj (Ao l ha)) 50,.row he 9 1 (A8 eS hb)]) rfl (Bv (wv (BC (i:=0) J3 CV rfl rfl rfl rfl) (ob hs λhd hu hw=>CG Tryz.call45 (ZM F (Ao l ha) hd hu) rfl (wm rfl (wv (AE rfl rfl) (wv (AE rfl rfl) (wa rfl (wa rfl (Am (Ai (Ag (wm rfl (wv (CQ rfl rfl) (Am (cz hw rfl (λhx hy=>?_) (λhx hz=>?_))))))))))))))))
    ·refine Ag (wm rfl (wv (r:=rS ([]:Af)) (Ax rfl) (wa rfl (Am (Av (Ac (Ay (Ac (Ac (AR ?_))))))))));have h0:=Bo hy hi hj;refine Ay (Ac ?_);obtain rfl:=Aw h0;exact Au (DC Wo (AG rfl) (AG rfl)) (sS (sS sN)) ⟨rfl,rfl⟩
    ·refine Ar (AJ (Ah (wm rfl (wm rfl (AZ (ys:=([hd.1]:List Af)) (enc:=eS) (css:=[[rS hd.1]]) (xs:=[.tmp 30]) Ch Cs Wj rfl rfl rfl ⟨EI.one rfl (Up.refl _),trivial⟩ rfl DY rfl rfl rfl (λhG=>?_))))));refine ck hz λh1 h3=>Exists.elim OG λinf hinf=>BY (xs:=hb) (ys:=([hd.1]:List Af)) (enc:=eS) (i:=2) Ch hinf.1 hinf.2.1 hinf.2.2.1 hinf.2.2.2 rfl rfl rfl rfl rfl (KA.w (i:=0) rfl rfl) DY Lh h1 rfl (λh4=>?_);refine wa rfl (Ak (AA (AJ (Ah (ck h3 λh7 h8=>wv (Bk rfl rfl h7) (wm rfl (Ak ?_)))))));have h9:=Ba h8 hi;exact Az (A3 (ho,(hb++([hd.1]:List Af),ha+1),h4) ⟨h9,AcM _⟩ (A6.c rfl (A6.c5 rfl rfl rfl rfl rfl A6.nil)) (sC (sS (sS sN))))
   ·refine Bl (As ?_);have hA:=BB hq hi hj;exact As (AV (A3 (hb,he) hA (A6.c rfl (A6.c rfl (A6.c rfl A6.nil))) (sC sN)))
  ·rintro⟨hg,hk⟩ hh;refine Cb (l':=[(2,rS ([]:Af)),(3,Ap 0),(5,rv hk)]) (H':=[.row hk 9 1 (A8 eS hg)]) rfl rfl ?_;replace hh:HB F hg=some r:=hh;unfold HB at hh;refine AW (AJ (Ag (wm rfl (WL.freeze (i:=0) rfl (WL.up (d:=34) (r:=AQ 1 (A8 eS hg)) rfl (Up.fact (i:=0) rfl) (ob hh λhB hC hD=>CG Tryz.call46 (Aag F hg hB hC) rfl (wv (AE rfl rfl) (wv (AE rfl rfl) (wa rfl (wa rfl (Am (Av ?_))))))))))));obtain rfl:=Aw hD;exact Au (DC Wo (AG rfl) (AG rfl)) (sS sN) ⟨rfl,rfl⟩
theorem V7 (F:Nat)(s:Af)(r:Ad×Bool)(h:LP F s=some r):Fn Tryz.prog GE 52 [rS s] [] (λR H=>R=C2 [BK (Aj r.1),rB r.2]∧H=[]):=by
 refine enter (n:=72) Tryz.func52 rfl Tryz.ntmps52 rfl (λw Z=>?_);unfold LP at h;refine Ag (BM (cs:=[rS ([]:Af),rB false,rv (.slice none 0 0),Ap 0]) J1 rfl rfl (λb1=>?_));refine wa rfl (Bv (wm rfl (ob h λr2 e4 h3=>CG Tryz.call72 (VP F s r2 e4) rfl (wm rfl (wv (AE rfl rfl) (wv (AE rfl rfl) (wa rfl (wa rfl (Am (Ai (ck h3 λg5 h6=>AK [(2,rP b1 0),(4,AQ 1 (A8 eS r2.1)),(32,rB ((!decide (r2.2=0))||((!decide ((r2.1.length:Int)=4))||((!decide ((Ao r2.1 1)=([48]:Af)))&&(!decide ((Ao r2.1 1)=([49]:Af)))))))] [.blk b1 [rS ([]:Af),rB false,rv (.slice none 0 0),Ap 0] 50] ?_ ?_)))))))))))
 ·refine Ah (wm rfl (wv (CQ rfl rfl) (wm rfl (AS (!decide (r2.2=0)) (λc7=>?_) (λc7=>?_)))))
  ·refine wf c7 (wf c7 (wf c7 (wv (r:=rB true) (A1 rfl c7 rfl) (wm rfl (wz rfl rfl (wz rfl rfl (wz rfl rfl (wz rfl rfl (wz rfl rfl (wu (wu (wu (wu (wz rfl rfl (wv (r:=rB true) (A1 (b:=true) rfl rfl rfl) (Ak ?_))))))))))))))));exact Cm c7
  ·refine wo c7 (wm rfl (wo c7 (wv (Be (ys:=r2.1) (enc:=eS) Ch rfl) (wo c7 (wv (CQ rfl rfl) (GK rfl c7 rfl (wm rfl (AS (!decide ((r2.1.length:Int)=4)) (λc8=>?_) (λc8=>?_)))))))))
   ·refine wf c8 (wf c8 (wf c8 (wf c8 (wf c8 (wu (wu (wu (wu (wf c8 (wv (r:=rB true) (A1 rfl c8 rfl) (Ak ?_)))))))))));exact Cm (And.intro c7 c8)
   ·refine wo c8 (wm rfl (wo c8 (wv (Bb (enc:=eS) (ys:=r2.1) Ch Cs rfl rfl (D6 (D6 g5 c7) c8)) (wo c8 (wv (AU CU rfl rfl) (wo c8 (wv (JE rfl rfl) (wo c8 (wm rfl (AS (!decide ((Ao r2.1 1)=([48]:Af))) (λc9=>?_) (λc9=>?_)))))))))))
    ·refine wo c9 (wm rfl (wo c9 (wv (Bb (enc:=eS) (ys:=r2.1) Ch Cs rfl rfl (D6 (D6 g5 c7) c8)) (wo c9 (wv (AU CU rfl rfl) (wo c9 (wv (JE rfl rfl) (wo c8 (GC rfl c9 rfl (GK rfl c8 rfl (Ak ?_)))))))))));exact Cm (And.intro c7 (And.intro c8 c9))
    ·refine wf c9 (wf c9 (wf c9 (wf c9 (wo c8 (wv (r:=rB false) (AC rfl c9 rfl) (GK rfl c8 rfl (Ak ?_)))))));exact Cm (And.intro c7 (And.intro c8 c9))
 refine cz h6 rfl (λhd he=>?_) (λhd hf=>?_)
 ·refine Ag (wv (r:=BK [rS ([]:Af),rB false,rv (.slice none 0 0),Ap 0]) (O0 ) (Bh (i:=0) CV rfl rfl rfl (BJ.c rfl) rfl rfl (cs':=[rS ([]:Af),rB false,rv (.slice none 0 0),Ap 0]) rfl (H':=[.blk b1 [rS ([]:Af),rB false,rv (.slice none 0 0),Ap 0] 50]) rfl (wa rfl (Am (Av (Ac (WK.upBlk (i:=0) (cs':=[rS ([]:Af),rB false,AQ 4 (A8 Ab ([]:List Aa)),Ap 0]) rfl ⟨Up.refl _,Up.refl _,Up.le (HK.nil _),Up.refl _,trivial⟩ ?_)))))));obtain rfl:=Aw he;exact Au (DC Ze (GR (i:=0) J3 CV rfl rfl rfl) (AG rfl)) (sS sN) ⟨rfl,rfl⟩
 ·refine Ar (AJ (Ag (wm rfl (ck hf λhg hh=>wv (Bb (enc:=eS) (ys:=r2.1) Ch Cs rfl rfl hg) (wv (AU CU rfl rfl) (ck hh λg15 hi=>IU (rs:=[rS (Ao r2.1 3)]) (r:=C2 [Ap (By (Ao r2.1 3)),Ap (BP (Ao r2.1 3))]) Tryz.call73 rfl (TQ (Ao r2.1 3) g15) rfl rfl (wm rfl (wv (AE rfl rfl) (wv (AE rfl rfl) (wa rfl (wa rfl (Am (Ai (Ag (wm rfl (wv (CQ rfl rfl) (Am (cz hi rfl (λhj hk=>?_) (λhj hl=>?_)))))))))))))))))))
  ·refine Ag (wv (r:=BK [rS ([]:Af),rB false,rv (.slice none 0 0),Ap 0]) (O0 ) (Bh (i:=0) CV rfl rfl rfl (BJ.c rfl) rfl rfl (cs':=[rS ([]:Af),rB false,rv (.slice none 0 0),Ap 0]) rfl (H':=[.blk b1 [rS ([]:Af),rB false,rv (.slice none 0 0),Ap 0] 50]) rfl (wa rfl (Am (Av (Ac (WK.upBlk (i:=0) (cs':=[rS ([]:Af),rB false,AQ 4 (A8 Ab ([]:List Aa)),Ap 0]) rfl ⟨Up.refl _,Up.refl _,Up.le (HK.nil _),Up.refl _,trivial⟩ ?_)))))));obtain rfl:=Aw hk;exact Au (DC Ze (GR (i:=0) J3 CV rfl rfl rfl) (AG rfl)) (sS sN) ⟨rfl,rfl⟩
  ·refine Ar (AJ (Ai (ck hl λhm hn=>ck hn λho hp=>Gc 10 [2,4,6] [⟨[],AQ 1 (A8 eS r2.1),none,none,none⟩,⟨[0],E6 [rS (Ao r2.1 0)],none,none,none⟩,⟨[1],rS (Ao r2.1 0),none,none,none⟩,⟨[],AQ 1 (A8 eS r2.1),none,none,none⟩,⟨[3],E6 [rS (Ao r2.1 1)],none,none,none⟩,⟨[4],rS (Ao r2.1 1),none,none,none⟩,⟨[5],rB (decide ((Ao r2.1 1)=([49]:Af))),none,none,none⟩,⟨[],Ap (By (Ao r2.1 3)),none,none,none⟩,⟨[2,6,7],BK [rS (Ao r2.1 0),rB (decide ((Ao r2.1 1)=([49]:Af))),rv (.slice none 0 0),Ap (By (Ao r2.1 3))],none,none,none⟩,⟨[],rv undef,some ([rS ([]:Af),rB false,rv (.slice none 0 0),Ap 0],50),none,none⟩] ?_ (λβ=>?_))))
   ·refine Dq (Al rfl) (Dq (Bb (enc:=eS) (ys:=r2.1) Ch Cs rfl rfl hm) (Dq (AU CU rfl rfl) (Dq (Al rfl) (Dq (Bb (enc:=eS) (ys:=r2.1) Ch Cs rfl rfl ho) (Dq (AU CU rfl rfl) (Dq (EC rfl rfl) (Dq (Al rfl) (Dq (Jp rfl rfl rfl rfl rfl rfl) (oal (Acb (cs:=[rS ([]:Af),rB false,rv (.slice none 0 0),Ap 0]) J1 rfl) ?_)))))))));exact Xt
   refine GL (H1:=[.blk b1 [rS ([]:Af),rB false,rv (.slice none 0 0),Ap 0] 50,.blk (β 9) [rS ([]:Af),rB false,rv (.slice none 0 0),Ap 0] 50]) [44,45,46,47,48,49,50,51,52,7,2,4,6] ?_;generalize β 9=ha;refine Bh (i:=1) CV rfl rfl rfl (BJ.c rfl) rfl rfl (cs':=[rS (Ao r2.1 0),rB (decide ((Ao r2.1 1)=([49]:Af))),rv (.slice none 0 0),Ap (By (Ao r2.1 3))]) rfl (H':=[.blk b1 [rS ([]:Af),rB false,rv (.slice none 0 0),Ap 0] 50,.blk ha [rS (Ao r2.1 0),rB (decide ((Ao r2.1 1)=([49]:Af))),rv (.slice none 0 0),Ap (By (Ao r2.1 3))] 50]) rfl (Am (Ai (Ag (vF DK rfl HJ (vL 1 Qg rfl (Am (cz hp rfl (λhq hr=>?_) (λhq hs=>?_))))))))
   ·refine Ai (ck hr λht hu=>GM (H1:=[.blk b1 [rS (Ao r2.1 0),rB (decide ((Ao r2.1 1)=([49]:Af))),rv (.slice none 0 0),Ap (By (Ao r2.1 3))] 50,.blk ha [rS (Ao r2.1 0),rB (decide ((Ao r2.1 1)=([49]:Af))),rv (.slice none 0 0),Ap (By (Ao r2.1 3))] 50]) [2,4,7] [⟨[],BK [rS (Ao r2.1 0),rB (decide ((Ao r2.1 1)=([49]:Af))),rv (.slice none 0 0),Ap (By (Ao r2.1 3))],1⟩,⟨[],AQ 1 (A8 eS r2.1),0⟩,⟨[1],E6 [rS (Ao r2.1 2)],0⟩,⟨[2],rS (Ao r2.1 2),0⟩,⟨[3],rB (decide ((Ao r2.1 2)=([]:Af))),0⟩,⟨[0],rv undef,2⟩,⟨[4],rB (decide ((Ao r2.1 2)=([]:Af))),0⟩] (rle [(6,_),(2,[.blk b1 [rS (Ao r2.1 0),rB (decide ((Ao r2.1 1)=([49]:Af))),rv (.slice none 0 0),Ap (By (Ao r2.1 3))] 50,.blk ha [rS (Ao r2.1 0),rB (decide ((Ao r2.1 1)=([49]:Af))),rv (.slice none 0 0),Ap (By (Ao r2.1 3))] 50])]) [3,2] ?_ ?_)
    ·refine of (BC (i:=1) J3 CV rfl rfl rfl rfl) (oq (Al rfl) (oq (Bb (enc:=eS) (ys:=r2.1) Ch Cs rfl rfl ht) (oq (AU CU rfl rfl) (oq (EC rfl rfl) (JD rfl (RD (DV (i:=0) CV rfl rfl rfl (BJ.c rfl) rfl rfl (cs':=[rS (Ao r2.1 0),rB (decide ((Ao r2.1 1)=([49]:Af))),rv (.slice none 0 0),Ap (By (Ao r2.1 3))]) rfl (H':=[.blk b1 [rS (Ao r2.1 0),rB (decide ((Ao r2.1 1)=([49]:Af))),rv (.slice none 0 0),Ap (By (Ao r2.1 3))] 50,.blk ha [rS (Ao r2.1 0),rB (decide ((Ao r2.1 1)=([49]:Af))),rv (.slice none 0 0),Ap (By (Ao r2.1 3))] 50]) rfl)) ?_)))));refine oq (Ax rfl) ?_;exact Cd
    refine AJ (Av (Ac (WK.upBlk (i:=0) (cs':=[rS (Ao r2.1 0),rB (decide ((Ao r2.1 1)=([49]:Af))),AQ 4 (A8 Ab ([]:List Aa)),Ap (By (Ao r2.1 3))]) rfl ⟨Up.refl _,Up.refl _,Up.le (HK.nil _),Up.refl _,trivial⟩ ?_)));obtain rfl:=Aw hu;exact Au (DC Ze (GR (i:=0) J3 CV rfl rfl rfl) (AG rfl)) (sS (sS sN)) ⟨rfl,rfl⟩
   ·refine Ar (AJ (Ag (wm rfl (ck hs λhw hx=>wv (Bb (enc:=eS) (ys:=r2.1) Ch Cs rfl rfl hw) (wv (AU CU rfl rfl) (ob hx λhb hy hz=>CG Tryz.call74 (UH F (Ao r2.1 2) hb hy) rfl (wm rfl (wv (AE rfl rfl) (wv (AE rfl rfl) (wa rfl (wa rfl (Bv (wm rfl (vF DK rfl CO (BI (i:=1) CO rfl rfl (C0 rfl) rfl rfl (cs':=[rS (Ao r2.1 0),rB (decide ((Ao r2.1 1)=([49]:Af))),AQ 4 (A8 Ab hb.1),Ap (By (Ao r2.1 3))]) rfl (H':=[.blk b1 [rS ([]:Af),rB false,rv (.slice none 0 0),Ap 0] 50,.blk ha [rS (Ao r2.1 0),rB (decide ((Ao r2.1 1)=([49]:Af))),AQ 4 (A8 Ab hb.1),Ap (By (Ao r2.1 3))] 50]) rfl (Bv (wv (BC (i:=1) J3 CV rfl rfl rfl rfl) (wm rfl (wv (B6 rfl rfl) (Bh (i:=0) CV rfl rfl rfl (BJ.c rfl) rfl rfl (cs':=[rS (Ao r2.1 0),rB (decide ((Ao r2.1 1)=([49]:Af))),AQ 4 (A8 Ab hb.1),Ap (By (Ao r2.1 3))]) rfl (H':=[.blk b1 [rS (Ao r2.1 0),rB (decide ((Ao r2.1 1)=([49]:Af))),AQ 4 (A8 Ab hb.1),Ap (By (Ao r2.1 3))] 50,.blk ha [rS (Ao r2.1 0),rB (decide ((Ao r2.1 1)=([49]:Af))),AQ 4 (A8 Ab hb.1),Ap (By (Ao r2.1 3))] 50]) rfl (wa rfl ?_)))))))))))))))))))));refine Am (Av ?_);obtain rfl:=Aw hz;exact Au (DC Ze (GR (i:=0) J3 CV rfl rfl rfl) (AG rfl)) (sS (sS sN)) ⟨rfl,rfl⟩
theorem VA (F:Nat)(rc:Af)(r:(List Ad)×Int)(h:LR F rc=some r):Fn Tryz.prog GE 25 [rS rc] [] (λR H=>R=C2 [AQ 4 (A8 Aj r.1),Ap r.2]∧H=[]):=by
 refine enter (n:=53) Tryz.func25 rfl Tryz.ntmps25 rfl (λw Z=>?_);unfold LR at h;refine Ag (wa rfl (wa rfl (Bv (wm rfl (ob h λr1 e3 h2=>CG Tryz.call51 (Yr F rc r1 e3) rfl (wm rfl (wv (AE rfl rfl) (wv (AE rfl rfl) (wa rfl (wa rfl (Am (Ai (Ag (wm rfl (wm rfl (wv (Bj Ce rfl) (wv (CQ rfl rfl) (Am (cz h2 rfl (λc4 h5=>?_) (λc4 h6=>?_))))))))))))))))))))
 ·refine Ag (wa rfl (wa rfl (Am (Av (Ac (WK.up (d:=2) (r:=AQ 4 (A8 Aj ([]:List Ad))) rfl (Up.le (HK.nil _)) ?_))))));obtain rfl:=Aw h5;exact Au (DC Zf (AG rfl) (AG rfl)) sN ⟨rfl,rfl⟩
 ·refine Ar (AJ (Ag (wa rfl (Am (Ai (Ag (wm rfl (wv (Be (ys:=r1.1) (enc:=eS) Ch rfl) (wv (r:=Ap 0) (Al rfl) (Am (A9 (WC.nilrow (e:=50) (sz:=4) (ob h6 λhn ho hm=>Bg (S:=Nat×((List Ad)×Int)×(Value)) (V:=((List Ad))×(Value)) 0 (λσ=>B7 (λσ=>DI F r1 σ.1 σ.2) σ.1 σ.2.1=some hn) (λσ=>[(0,rS rc),(2,rv (.slice none 0 0)),(3,Ap 0),(6,rv σ.2.2),(22,AQ 1 (A8 eS r1.1)),(23,Ap (r1.1.length:Int)),(24,Ap σ.2.1.2)]) (λσ=>[.row σ.2.2 50 4 (A8 Aj σ.2.1.1)]) (λσ=>σ.1) (F,(([]:List Ad),0),(.slice none 0 0                                                  )) ho (A6.c rfl (A6.c rfl (A6.c5 rfl rfl rfl rfl rfl A6.nil))) (sC sN) (λσ=>HC F rc σ.1=some r) (λσ=>[(0,rS rc),(2,rv (.slice none 0 0)),(3,Ap 0),(6,rv σ.2)]) (λσ=>[.row σ.2 50 4 (A8 Aj σ.1)]) ?_ ?_)))))))))))))
  ·rintro⟨hJ,⟨hd,hf⟩,hg⟩ hp;refine BG (l':=[(0,rS rc),(2,rv (.slice none 0 0)),(3,Ap 0),(6,rv hg),(22,AQ 1 (A8 eS r1.1)),(23,Ap (r1.1.length:Int)),(24,Ap hf)]) (H':=[.row hg 50 4 (A8 Aj hd)]) rfl rfl ?_;obtain⟨hq,rfl,t70,hh,hl⟩:=BZ hp;replace hh:DI F r1 hd hf=some t70:=hh;unfold DI at hh;refine Ag (wv (Cj rfl rfl) (Am (Ai (cz hh rfl (λc76 hr=>?_) (λc76 hs=>?_)))))
   ·refine Ar (AJ (Ai (A9 (Ag (ck hr λht hu=>wv (Bb (enc:=eS) (ys:=r1.1) Ch Cs rfl rfl ht) (wv (AU CU rfl rfl) (wa rfl (Bv (wm rfl (ob hu λha hw hx=>CG Tryz.call52 (V7 F (Ao r1.1 hf) ha hw) rfl (wm rfl (wv (AE rfl rfl) (wv (AE rfl rfl) (BM (cs:=[rS ([]:Af),rB false,rv (.slice none 0 0),Ap 0]) J1 rfl rfl (λhy=>?_)))))))))))))));refine Bh (i:=0) CV rfl rfl rfl (BJ.c rfl) rfl rfl (cs':=[rS ha.1.fKey,rB ha.1.fDelete,AQ 4 (A8 Ab ha.1.fValue),Ap ha.1.fIfVersion]) rfl (H':=[.blk hy (Aj ha.1) 50,.row hg 50 4 (A8 Aj hd)]) rfl (wa rfl (Am (Ai (Ag (wm rfl (wv (Ci rfl) (Am (cz hx rfl (λhz h0=>?_) (λhz h1=>?_)))))))))
    ·refine Ag (wa rfl (wa rfl (Am (Av (Ac (Ay (Ac (Ac (AR ?_)))))))));have h3:=Bo h0 hl hm;refine Ay (Ac (WK.up (d:=2) (r:=AQ 4 (A8 Aj ([]:List Ad))) rfl (Up.le (HK.nil _)) ?_));obtain rfl:=Aw h3;exact Au (DC Zf (AG rfl) (AG rfl)) (sS (sS sN)) ⟨rfl,rfl⟩
    ·refine Ar (AJ (Ah (wm rfl (wv (BC (i:=0) J3 CV rfl rfl rfl rfl) (AZ (ys:=([ha.1]:List Ad)) (enc:=Aj) (css:=[[rS ha.1.fKey,rB ha.1.fDelete,AQ 4 (A8 Ab ha.1.fValue),Ap ha.1.fIfVersion]]) (xs:=[.tmp 36]) E4 CV J1 rfl rfl rfl ⟨EI.agg ⟨Up.refl _,Up.refl _,Up.refl _,Up.refl _,trivial⟩,trivial⟩ rfl BV rfl rfl rfl (λhK=>?_))))));refine ck h1 λh4 h7=>Exists.elim Ya λinf hinf=>BY (xs:=hd) (ys:=([ha.1]:List Ad)) (enc:=Aj) (i:=2) E4 hinf.1 hinf.2.1 hinf.2.2.1 hinf.2.2.2 rfl rfl rfl rfl rfl (KA.w (i:=0) rfl rfl) BV Ju h4 rfl (λh8=>?_);refine wa rfl (Ak (AA (AJ (Ah (ck h7 λh9 hA=>wv (Bk rfl rfl h9) (wm rfl (Ak ?_)))))));have hB:=Ba hA hl;exact Az (A3 (hq,(hd++([ha.1]:List Ad),hf+1),h8) ⟨hB,AcM _⟩ (A6.c rfl (A6.c rfl (A6.c5 rfl rfl rfl rfl rfl A6.nil))) (sC (sS (sS sN))))
   ·refine Bl (As ?_);have hC:=BB hs hl hm;exact As (AV (A3 (hd,hg) hC (A6.c rfl (A6.c rfl (A6.c rfl (A6.c rfl A6.nil)))) (sC sN)))
  ·rintro⟨he,hi⟩ hj;refine Cb (l':=[(0,rS rc),(2,rv (.slice none 0 0)),(3,Ap 0),(6,rv hi)]) (H':=[.row hi 50 4 (A8 Aj he)]) rfl rfl ?_;replace hj:HC F rc he=some r:=hj;unfold HC at hj;refine AW (AJ (Ai (Ag (wm rfl (WL.freeze (i:=0) rfl (WL.up (d:=41) (r:=AQ 4 (A8 Aj he)) rfl (Up.fact (i:=0) rfl) (ob hj λhk hD hE=>CG Tryz.call23 (PJ F he hk hD) rfl (wm rfl (wv (AE rfl rfl) (wv (AE rfl rfl) (wa rfl (wa rfl (Am (AK [(6,rv hi),(51,rB ((!decide (hk.2=0))||(!decide (hk.1=rc))))] [.fact hi (AQ 4 (A8 Aj he))] ?_ ?_))))))))))))))
   ·refine Ah (wm rfl (wv (CQ rfl rfl) (wm rfl (AS (!decide (hk.2=0)) (λhb=>?_) (λhb=>?_)))))
    ·refine wf hb (wf hb (wf hb (wv (r:=rB true) (A1 rfl hb rfl) (Ak ?_))));exact Cm hb
    ·refine wo hb (wm rfl (wo hb (wm rfl (wo hb (wv (JE rfl rfl) (GK rfl hb rfl (Ak ?_)))))));exact Cm hb
   refine cz hE rfl (λhG hH=>?_) (λhG hI=>?_)
   ·refine Ag (wa rfl (wa rfl (Am (Av (Ac (WK.up (d:=2) (r:=AQ 4 (A8 Aj ([]:List Ad))) rfl (Up.le (HK.nil _)) ?_))))));obtain rfl:=Aw hH;exact Au (DC Zf (AG rfl) (AG rfl)) (sS sN) ⟨rfl,rfl⟩
   ·refine Ar (AJ (Ag (wm rfl (wa rfl (wa rfl (Am (Av (WK.up (d:=2) (r:=AQ 4 (A8 Aj he)) rfl (Up.fact (i:=0) rfl) ?_))))))));obtain rfl:=Aw hI;exact Au (DC Zf (AG rfl) (AG rfl)) (sS sN) ⟨rfl,rfl⟩
theorem Sc (F:Nat)(l:(List Ae))(r:(List Af)×Int)(h:IE F l=some r):Fn Tryz.prog GE 28 [AQ 3 (A8 Aq l)] [] (λR H=>R=C2 [AQ 1 (A8 eS r.1),Ap r.2]∧H=[]):=by
 refine enter (n:=54) Tryz.func28 rfl Tryz.ntmps28 rfl (λw Z=>?_);unfold IE at h;refine Ag (wa rfl (wa rfl (Am (Ai (Ag (wm rfl (wv (Be (ys:=l) (enc:=Aq) DW rfl) (wv (C3 rfl rfl) (Am (cz h rfl (λc1 h2=>?_) (λc1 h3=>?_)))))))))))
 ·refine Ag (wa rfl (wa rfl (Am (Av (Ac (WK.up (d:=2) (r:=AQ 1 (A8 eS ([]:List Af))) rfl (Up.le (HK.nil _)) ?_))))));obtain rfl:=Aw h2;exact Au (DC Wn (AG rfl) (AG rfl)) sN ⟨rfl,rfl⟩
 ·refine Ar (AJ (Ag (wa rfl (Bv (Mm rfl (λb4=>?_))))));refine wa rfl (Am (Ai (Ag (wm rfl (wv (Be (ys:=l) (enc:=Aq) DW rfl) (wv (r:=Ap 0) (Al rfl) (Am (A9 (WC.nilrow (e:=9) (sz:=1) (Qi (H2:=[.map b4 (AY Ig ([]:List (Af×Bool))),.row (.slice none 0 0         ) 9 1 (A8 eS ([]:List Af))]) ((A4 (i:=1) rfl).trans (AcJ _ (AcI _))) (ob h3 λhp hq hh=>Bg (S:=Nat×((List Af)×Int×(List (Af×Bool)))×(Value)) (V:=((List Af))×(Value)) 0 (λσ=>B7 (λσ=>Ds F l σ.1 σ.2.1 σ.2.2) σ.1 σ.2.1=some hp) (λσ=>[(2,rv (.slice none 0 0)),(3,Ap 0),(4,rv σ.2.2),(5,rv (.map (some b4))),(16,AQ 3 (A8 Aq l)),(17,Ap (l.length:Int)),(18,Ap σ.2.1.2.1)]) (λσ=>[.map b4 (AY Ig σ.2.1.2.2),.row σ.2.2 9 1 (A8 eS σ.2.1.1)]) (λσ=>σ.1) (F,(([]:List Af),0,([]:List (Af×Bool))),(.slice none 0 0         )) hq (A6.c rfl (A6.c rfl (A6.c5 rfl rfl rfl rfl rfl A6.nil))) (sC (sC sN)) (λσ=>Gl σ.1=some r) (λσ=>[(2,rv (.slice none 0 0)),(3,Ap 0),(4,rv σ.2)]) (λσ=>[.row σ.2 9 1 (A8 eS σ.1)]) ?_ ?_)))))))))))
  ·rintro⟨hT,⟨hd,ha,hb⟩,hf⟩ hr;refine BG (l':=[(2,rv (.slice none 0 0)),(3,Ap 0),(4,rv hf),(5,rv (.map (some b4))),(16,AQ 3 (A8 Aq l)),(17,Ap (l.length:Int)),(18,Ap ha)]) (H':=[.map b4 (AY Ig hb),.row hf 9 1 (A8 eS hd)]) rfl rfl ?_;obtain⟨hs,rfl,ht,hi,hg⟩:=BZ hr;replace hi:Ds F l hd ha hb=some ht:=hi;unfold Ds at hi;refine Ag (wv (Cj rfl rfl) (Am (Ai (cz hi rfl (λhu hw=>?_) (λhu hx=>?_)))))
   ·refine Ar (AJ (Ai (A9 (Ag (ck hw λhy hz=>wv (Bb (enc:=Aq) (ys:=l) DW CW rfl rfl hy) (wv (Dc NO CW rfl rfl rfl) (BM (cs:=[rS ([]:Af),rv (.slice none 0 0),Ap 0]) KP rfl rfl (λhj=>?_))))))));refine Bh (i:=0) CW rfl rfl rfl (BJ.c rfl) rfl rfl (cs':=[rS ((Ao l ha).fKey),AQ 4 (A8 Ab ((Ao l ha).fValue)),Ap ((Ao l ha).fVersion)]) rfl (H':=[.blk hj (Aq (Ao l ha)) 35,.map b4 (AY Ig hb),.row hf 9 1 (A8 eS hd)]) rfl (Bv (vF DX rfl Cs (vL 0 CU rfl (vF DX rfl CO (vL 0 EL rfl (wv (r:=BK [rS ((Ao l ha).fKey),rB false,AQ 4 (A8 Ab ((Ao l ha).fValue)),Ap 0]) (If rfl rfl rfl rfl) (BM (cs:=[rS ([]:Af),rB false,rv (.slice none 0 0),Ap 0]) J1 rfl rfl (λhl=>?_))))))));refine Bh (i:=0) CV rfl rfl rfl (BJ.c rfl) rfl rfl (cs':=[rS ((Ao l ha).fKey),rB false,AQ 4 (A8 Ab ((Ao l ha).fValue)),Ap 0]) rfl (H':=[.blk hl [rS ((Ao l ha).fKey),rB false,AQ 4 (A8 Ab ((Ao l ha).fValue)),Ap 0] 50,.blk hj (Aq (Ao l ha)) 35,.map b4 (AY Ig hb),.row hf 9 1 (A8 eS hd)]) rfl (Am (Ai (Ag (wv (BC (i:=0) J3 CV rfl rfl rfl rfl) (ob hz λh0 h1 h4=>CG Tryz.call55 (Sf F (Ad.mk ((Ao l ha).fKey) false ((Ao l ha).fValue) 0) h0 h1) rfl (wa rfl (Bv (wm rfl (wv (CQ rfl rfl) (Am (cz h4 rfl (λh5 h6=>?_) (λh5 h7=>?_))))))))))))
    ·refine Ag (wm rfl (wa rfl (wa rfl (Am (Av (Ac (Ay (Ac (Ac (AR ?_))))))))));have h8:=Bo h6 hg hh;refine Ay (Ac (WK.up (d:=2) (r:=AQ 1 (A8 eS ([]:List Af))) rfl (Up.le (HK.nil _)) ?_));obtain rfl:=Aw h8;exact Au (DC Wn (AG rfl) (AG rfl)) (sS (sS (sS (sS sN)))) ⟨rfl,rfl⟩
    ·refine Ar (AJ (Ai (Ag (wm rfl (vF DX rfl Cs (vL 1 CU rfl (wv (r:=rB (Cw hb ((Ao l ha).fKey) false)) (Xz (enc:=Ig) (xs:=hb) (z:=false) (i:=2) Tryz.underlying87 Ce yz4 XB rfl rfl rfl) (Am (cz h7 rfl (λh9 hA=>?_) (λh9 hB=>?_))))))))))
     ·refine Ag (wa rfl (wa rfl (Am (Av (Ac (Ay (Ac (Ac (AR ?_)))))))));have hC:=Bo hA hg hh;refine Ay (Ac (WK.up (d:=2) (r:=AQ 1 (A8 eS ([]:List Af))) rfl (Up.le (HK.nil _)) ?_));obtain rfl:=Aw hC;exact Au (DC Wn (AG rfl) (AG rfl)) (sS (sS (sS (sS sN)))) ⟨rfl,rfl⟩
     ·refine Ar (AJ (Ag (wm rfl (vF DX rfl Cs (vL 1 CU rfl (Ly (enc:=Ig) (xs:=hb) (v:=true) (i:=2) Tryz.underlying87 Ce rfl rfl rfl rfl (H':=[.blk hl [rS ((Ao l ha).fKey),rB false,AQ 4 (A8 Ab ((Ao l ha).fValue)),Ap 0] 50,.blk hj (Aq (Ao l ha)) 35,.map b4 (AY Ig (mset hb ((Ao l ha).fKey) true)),.row hf 9 1 (A8 eS hd)]) rfl (Bv (wv (BC (i:=0) J3 CV rfl rfl rfl rfl) (AZ (ys:=([(Ad.mk ((Ao l ha).fKey) false ((Ao l ha).fValue) 0)]:List Ad)) (enc:=Aj) (css:=[[rS ((Ao l ha).fKey),rB false,AQ 4 (A8 Ab ((Ao l ha).fValue)),Ap 0]]) (xs:=[.tmp 40]) E4 CV J1 rfl rfl rfl ⟨EI.agg ⟨Up.refl _,Up.refl _,Up.refl _,Up.refl _,trivial⟩,trivial⟩ rfl BV rfl rfl rfl (λhD=>?_))))))))));refine WL.freeze (i:=0) rfl (WL.up (d:=41) (r:=AQ 4 (A8 Aj ([(Ad.mk ((Ao l ha).fKey) false ((Ao l ha).fValue) 0)]:List Ad))) rfl (Up.fact (i:=0) rfl) (ob hB λhe hE hG=>CG Tryz.call23 (PJ F ([(Ad.mk ((Ao l ha).fKey) false ((Ao l ha).fValue) 0)]:List Ad) he hE) rfl (wm rfl (wv (AE rfl rfl) (wv (AE rfl rfl) (wa rfl (wa rfl (Am (Ai (Ag (wm rfl (wv (CQ rfl rfl) (Am (cz hG rfl (λhH hI=>?_) (λhH hJ=>?_)))))))))))))))
      ·refine Ag (wm rfl (wa rfl (wa rfl (Am (Av (Ac (Ay (Ac (Ac (AR ?_))))))))));have hK:=Bo hI hg hh;refine Ay (Ac (WK.up (d:=2) (r:=AQ 1 (A8 eS ([]:List Af))) rfl (Up.le (HK.nil _)) ?_));obtain rfl:=Aw hK;exact Au (DC Wn (AG rfl) (AG rfl)) (sS (sS (sS (sS (sS sN))))) ⟨rfl,rfl⟩
      ·refine Ar (AJ (Ah (wm rfl (wm rfl (AZ (ys:=([he.1]:List Af)) (enc:=eS) (css:=[[rS he.1]]) (xs:=[.tmp 49]) Ch Cs Wj rfl rfl rfl ⟨EI.one rfl (Up.refl _),trivial⟩ rfl DY rfl rfl rfl (λhL=>?_))))));refine ck hJ λhN hO=>Exists.elim OG λinf hinf=>BY (xs:=hd) (ys:=([he.1]:List Af)) (enc:=eS) (i:=5) Ch hinf.1 hinf.2.1 hinf.2.2.1 hinf.2.2.2 rfl rfl rfl rfl rfl (KA.w (i:=0) rfl rfl) DY Lh hN rfl (λhn=>?_);refine wa rfl (Ak (AA (AJ (Ah (ck hO λhP hQ=>wv (Bk rfl rfl hP) (wm rfl (Ak (Dh (H2:=[.map b4 (AY Ig (mset hb ((Ao l ha).fKey) true)),.row hn 9 1 (A8 eS (hd++([he.1]:List Af))),.row (.slice (some ⟨hL,0,none⟩) 1 1) 9 1 (A8 eS ([he.1]:List Af)),.fact (.slice (some ⟨hD,0,none⟩) 1 1) (AQ 4 (A8 Aj ([(Ad.mk ((Ao l ha).fKey) false ((Ao l ha).fValue) 0)]:List Ad))),.blk hl [rS ((Ao l ha).fKey),rB false,AQ 4 (A8 Ab ((Ao l ha).fValue)),Ap 0] 50,.blk hj (Aq (Ao l ha)) 35]) ((A4 (i:=5) rfl).trans (AcJ _ (AcI _))) ?_))))))));have hR:=Ba hQ hg;exact Az (A3 (hs,(hd++([he.1]:List Af),ha+1,mset hb ((Ao l ha).fKey) true),hn) ⟨hR,AcM _⟩ (A6.c rfl (A6.c rfl (A6.c5 rfl rfl rfl rfl rfl A6.nil))) (sC (sC (sS (sS (sS (sS sN)))))))
   ·refine Bl (As ?_);have hS:=BB hx hg hh;exact As (AV (A3 (hd,hf) hS (A6.c rfl (A6.c rfl (A6.c rfl A6.nil))) (sS (sC sN))))
  ·rintro⟨hm,ho⟩ hk;refine Cb (l':=[(2,rv (.slice none 0 0)),(3,Ap 0),(4,rv ho)]) (H':=[.row ho 9 1 (A8 eS hm)]) rfl rfl ?_;replace hk:Gl hm=some r:=hk;unfold Gl at hk;refine AW (AJ (Ag (wm rfl (wa rfl (wa rfl (Am (Av (WK.freeze (i:=0) rfl (WK.up (d:=2) (r:=AQ 1 (A8 eS hm)) rfl (Up.fact (i:=0) rfl) ?_)))))))));obtain rfl:=Aw hk;exact Au (DC Wn (AG rfl) (AG rfl)) (sS sN) ⟨rfl,rfl⟩
theorem ZP (F:Nat)(hd:Nat)(ha:Nat)(hb:Nat)(q:AM)(rc:Af)(r:Int×AM)(h:Se F q rc=some r):Fn Tryz.prog GE 30 [rP hd 0,rS rc] [.blk hd [rv (.map (some ha)),rv (.map (some hb))] 59,.map ha (AY An q.fItems),.map hb (AY An q.fChanged)] (λR H=>R=Ap r.1∧H=[.blk hd [rv (.map (some ha)),rv (.map (some hb))] 59,.map ha (AY An r.2.fItems),.map hb (AY An r.2.fChanged)]):=by
 refine enter (n:=21) Tryz.func30 rfl Tryz.ntmps30 rfl (λw Z=>?_);unfold Se at h;refine Ag (wa rfl (Am (Ai (Ag (wm rfl (ob h λr1 e3 h2=>Gt (Hr:=[]) Tryz.call34 (N9 hd ha hb q r1 e3) rfl (AcI _) rfl ?_))))));rintro _ _ ⟨rfl,rfl⟩;refine wv (Ci rfl) (Am (cz h2 rfl (λc4 h5=>?_) (λc4 h6=>?_)))
 ·refine Ag (wa rfl (Am (Av (Ac ?_))));obtain rfl:=Aw h5;exact Au (BQ Tryz.results30 (AG rfl)) (sC (sC (sC sN))) ⟨rfl,rfl⟩
 ·refine Ar (AJ (Ag (wm rfl (ob h6 λr7 e9 h8=>CG Tryz.call25 (VA F rc r7 e9) rfl (wm rfl (wv (AE rfl rfl) (wv (AE rfl rfl) (wa rfl (wa rfl (Am (Ai (Ag (wm rfl (wv (CQ rfl rfl) (Am (cz h8 rfl (λhe hf=>?_) (λhe hg=>?_)))))))))))))))))
  ·refine Ag (wm rfl (wa rfl (Am (Av (Ac ?_)))));obtain rfl:=Aw hf;exact Au (BQ Tryz.results30 (AG rfl)) (sC (sC (sC sN))) ⟨rfl,rfl⟩
  ·refine Ar (AJ (Ag (wm rfl (wm rfl (ob hg λhh hi hj=>Gt (Hr:=[]) U8 (IF F hd ha hb r1.2 r7.1 hh hi) rfl (AcI _) rfl ?_)))));rintro _ _ ⟨rfl,rfl⟩;refine wa rfl (Am (Av ?_));obtain rfl:=Aw hj;exact Au (BQ Tryz.results30 (AG rfl)) (sC (sC (sC sN))) ⟨rfl,rfl⟩
end Go.Proofs.YtjfnokmpfekniaaGreatDoor.Q
namespace Go.Proofs.YtjfnokmpfekniaaGreatDoor
open Go
set_option linter.unusedVariables false
def Dp (F:Nat)(l:(List Ad))(hb:(List Af))(ha:Int):Option (Stp ((List Af)×Int) (Out (Af×Int) ((List Af)))):=
 Bf (decide (ha<(l.length:Int))) (AX (CJ ha (l.length:Int))<|AX (B9 .i64 ((Ao l ha).fIfVersion))<|Bf ((Ao l ha).fDelete) (AX (CJ 1 (([(Ao l ha).fKey,([48]:Af),([]:Af),Lib.itoa ((Ao l ha).fIfVersion)]:List Af).length:Int))<|Ll (List.set ([(Ao l ha).fKey,([48]:Af),([]:Af),Lib.itoa ((Ao l ha).fIfVersion)]:List Af) (Int.toNat 1) ([49]:Af)) λhf=>Br (JB F hf) λhd=>Bf (!decide (hd.2=0)) (some (.out (.ret (([]:Af),hd.2)))) (AX (Dw 16 (hb.length+([hd.1]:List Af).length))<|AX (B9 .i64 (ha+1))<|some (.next (hb++([hd.1]:List Af),ha+1)))) (Br (L6 F ((Ao l ha).fValue)) λhg=>AX (CJ 2 (([(Ao l ha).fKey,([48]:Af),([]:Af),Lib.itoa ((Ao l ha).fIfVersion)]:List Af).length:Int))<|Ll (List.set ([(Ao l ha).fKey,([48]:Af),([]:Af),Lib.itoa ((Ao l ha).fIfVersion)]:List Af) (Int.toNat 2) hg.1) λhh=>Br (JB F hh) λhe=>Bf (!decide (he.2=0)) (some (.out (.ret (([]:Af),he.2)))) (AX (Dw 16 (hb.length+([he.1]:List Af).length))<|AX (B9 .i64 (ha+1))<|some (.next (hb++([he.1]:List Af),ha+1))))) (some (.out (.go hb)))
def GI (F:Nat)(hb:(List Af)):Option (Af×Int):=
 Br (On F hb) λha=>some (ha.1,ha.2)
def I0 (F:Nat)(l:(List Ad)):Option (Af×Int):=
 Br (R3 F l) λr1=>Bf (!decide (r1=0)) (some (([]:Af),r1)) (Br (B7 (λσ=>Dp F l σ.1 σ.2) F (([]:List Af),0)) (B5 λν=>GI F ν))
def CB (l:(List Ae))(hb:Int)(ha:Int):Option (Stp (Int) (Out (Stp ((List Af)×Int) (Out ((List Af)×Int) ((List Af)))) (Int×Bool))):=
 Bf (decide (ha<hb)) (AX (CJ ha (l.length:Int))<|Bf (decide (((Ao l ha).fKey)=((Ao l hb).fKey))) (some (.out (.ret (.out (.ret (([]:List Af),6)))))) (AX (B9 .i64 (ha+1))<|some (.next (ha+1)))) (some (.out (.go (ha,decide (ha<hb)))))
def Ge (F:Nat)(l:(List Ae))(hd:(List Af))(ha:Int)(he:Int)(hf:Bool):Option (Stp ((List Af)×Int) (Out ((List Af)×Int) ((List Af)))):=
 Br (I0 F ([(Ad.mk ((Ao l ha).fKey) false ((Ao l ha).fValue) 0)]:List Ad)) λhb=>Bf (!decide (hb.2=0)) (some (.out (.ret (([]:List Af),hb.2)))) (AX (Dw 16 (hd.length+([hb.1]:List Af).length))<|AX (B9 .i64 (ha+1))<|some (.next (hd++([hb.1]:List Af),ha+1)))
def Do (F:Nat)(l:(List Ae))(hb:(List Af))(ha:Int):Option (Stp ((List Af)×Int) (Out ((List Af)×Int) ((List Af)))):=
 Bf (decide (ha<(l.length:Int))) (AX (CJ ha (l.length:Int))<|Br (VI F ((Ao l ha).fKey)) λhe=>Bf (!he) (some (.out (.ret (([]:List Af),4)))) (Br (KY F ((Ao l ha).fValue)) λhd=>Bf (!decide (hd=0)) (some (.out (.ret (([]:List Af),hd)))) (Br (B7 (λσ=>CB l ha σ) F 0) (B5 λν=>Ge F l hb ha ν.1 ν.2)))) (some (.out (.go hb)))
def Gf (ha:(List Af)):Option ((List Af)×Int):=
 some (ha,0)
def Ix (F:Nat)(l:(List Ae)):Option ((List Af)×Int):=
 Bf (decide (256<(l.length:Int))) (some (([]:List Af),3)) (Br (B7 (λσ=>Do F l σ.1 σ.2) F (([]:List Af),0)) (B5 λν=>Gf ν))
end Go.Proofs.YtjfnokmpfekniaaGreatDoor
namespace Go.Proofs.YtjfnokmpfekniaaGreatDoor.Q
open Go Go.RowKit
set_option linter.unusedVariables false
set_option linter.unusedSimpArgs false
set_option maxRecDepth 100000
set_option maxHeartbeats 4000000
theorem HK.agg {rs qs:List Rp}(h:YU rs qs):HK (BK rs) (BK qs):=λZ v ⟨us,e,hu⟩=>⟨us,e,h.all hu⟩
theorem SY (F:Nat)(l:(List Ad))(r:Af×Int)(h:I0 F l=some r):Fn Tryz.prog GE 24 [AQ 4 (A8 Aj l)] [] (λR H=>R=C2 [rS r.1,Ap r.2]∧H=[]):=by
 refine enter (n:=70) Tryz.func24 rfl Tryz.ntmps24 rfl (λw Z=>?_);unfold I0 at h;refine Ag (wv (r:=rS ([]:Af)) (Ax rfl) (wa rfl (Bv (wm rfl (ob h λr1 e3 h2=>CG Tryz.call37 (AaO F l r1 e3) rfl (wa rfl (Am (Ai (Ag (wm rfl (wv (CQ rfl rfl) (Am (cz h2 rfl (λc4 h5=>?_) (λc4 h6=>?_))))))))))))))
 ·refine Ag (wm rfl (wv (r:=rS ([]:Af)) (Ax rfl) (wa rfl (Am (Av (Ac ?_))))));obtain rfl:=Aw h5;exact Au (DC Zg (AG rfl) (AG rfl)) sN ⟨rfl,rfl⟩
 ·refine Ar (AJ (Ag (wa rfl (Am (Ai (Ag (wm rfl (wv (Be (ys:=l) (enc:=Aj) E4 rfl) (wv (r:=Ap 0) (Al rfl) (Am (A9 (WC.nilrow (e:=9) (sz:=1) (ob h6 λhu hw hm=>Bg (S:=Nat×((List Af)×Int)×(Value)) (V:=((List Af))×(Value)) 0 (λσ=>B7 (λσ=>Dp F l σ.1 σ.2) σ.1 σ.2.1=some hu) (λσ=>[(0,AQ 4 (A8 Aj l)),(5,rv σ.2.2),(18,Ap (l.length:Int)),(19,Ap σ.2.1.2)]) (λσ=>[.row σ.2.2 9 1 (A8 eS σ.2.1.1)]) (λσ=>σ.1) (F,(([]:List Af),0),(.slice none 0 0         )) hw (A6.c rfl (A6.c rfl (A6.c rfl (A6.c rfl A6.nil)))) (sC sN) (λσ=>GI F σ.1=some r) (λσ=>[(5,rv σ.2)]) (λσ=>[.row σ.2 9 1 (A8 eS σ.1)]) ?_ ?_)))))))))))))
  ·rintro⟨gm,⟨hb,ha⟩,hd⟩ hx;refine BG (l':=[(0,AQ 4 (A8 Aj l)),(5,rv hd),(18,Ap (l.length:Int)),(19,Ap ha)]) (H':=[.row hd 9 1 (A8 eS hb)]) rfl rfl ?_;obtain⟨ho,rfl,hy,hh,he⟩:=BZ hx;replace hh:Dp F l hb ha=some hy:=hh;unfold Dp at hh;refine Ag (wv (Cj rfl rfl) (Am (Ai (cz hh rfl (λhz h0=>?_) (λhz h1=>?_)))))
   ·refine Ar (AJ (Ai (A9 (Ag (wm rfl (wa rfl (Am (Ai (ck h0 λhi h3=>ck h3 λh4 h7=>Gc 11 [0,5,6,18,19] [⟨[],AQ 4 (A8 Aj l),none,none,none⟩,⟨[],Ap ha,none,none,none⟩,⟨[0,1],E6 (Aj (Ao l ha)),none,none,none⟩,⟨[2],E6 (Aj (Ao l ha)),none,none,none⟩,⟨[3],rS ((Ao l ha).fKey),none,none,none⟩,⟨[],AQ 4 (A8 Aj l),none,none,none⟩,⟨[],Ap ha,none,none,none⟩,⟨[5,6],E6 (Aj (Ao l ha)),none,none,none⟩,⟨[7],E6 [Ap ((Ao l ha).fIfVersion)],none,none,none⟩,⟨[8],Ap ((Ao l ha).fIfVersion),none,none,none⟩,⟨[9],rS (Lib.itoa ((Ao l ha).fIfVersion)),none,none,none⟩] ?_ (λβ=>?_))))))))))
    ·refine Dq (Al rfl) (Dq (Al rfl) (Dq (Bb (enc:=Aj) (ys:=l) E4 CV rfl rfl hi) (Dq (AN DK rfl Cs rfl rfl) (Dq (AU CU rfl rfl) (Dq (Al rfl) (Dq (Al rfl) (Dq (Bb (enc:=Aj) (ys:=l) E4 CV rfl rfl hi) (Dq (AN DK rfl Ct rfl rfl) (Dq (AU CX rfl rfl) (oac (I8 (rs:=[Ap ((Ao l ha).fIfVersion)]) (r:=rS (Lib.itoa ((Ao l ha).fIfVersion))) Tryz.call47 rfl (VM ((Ao l ha).fIfVersion) h4) rfl) ?_))))))))));exact Xt
    refine GL (H1:=[.row hd 9 1 (A8 eS hb)]) [22,23,24,25,26,27,28,29,30,31,32,0,5,6,18,19] ?_;refine AZ (ys:=([(Ao l ha).fKey,([48]:Af),([]:Af),Lib.itoa ((Ao l ha).fIfVersion)]:List Af)) (enc:=eS) (css:=[[rS ((Ao l ha).fKey)],[rS ([48]:Af)],[rS ([]:Af)],[rS (Lib.itoa ((Ao l ha).fIfVersion))]]) (xs:=[.tmp 26,.const (.string ⟨#[48]⟩),.const (.string ⟨#[]⟩),.tmp 32]) Ch Cs Wj rfl rfl rfl ⟨EI.one rfl (Up.refl _),EI.one rfl (Up.refl _),EI.one rfl (Up.refl _),EI.one rfl (Up.refl _),trivial⟩ rfl DY rfl rfl rfl (λhj=>?_);refine wa rfl (Am (Ai (Ag (wm rfl (wm rfl (wv (Bb (enc:=Aj) (ys:=l) E4 CV rfl rfl hi) (wv (AN DK rfl HJ rfl rfl) (wv (AU Qg rfl rfl) (Am (cz h7 rfl (λc171 h8=>?_) (λc171 h9=>?_)))))))))))
    ·refine Ah (wm rfl (ck h8 λhp hA=>wv (r:=rv (GF 1 (.slice (some ⟨hj,0,none⟩) 4 4) (B3 1) 0)) (JH (i:=0) Ch Cs rfl rfl rfl (BO hp)) (Ia (enc:=eS) (ys:=([(Ao l ha).fKey,([48]:Af),([]:Af),Lib.itoa ((Ao l ha).fIfVersion)]:List Af)) (y':=([49]:Af)) (i:=0) (j:=1) Cs rfl rfl (C0 rfl) rfl hp rfl rfl (H':=[.row (.slice (some ⟨hj,0,none⟩) 4 4) 9 1 (A8 eS (List.set ([(Ao l ha).fKey,([48]:Af),([]:Af),Lib.itoa ((Ao l ha).fIfVersion)]:List Af) (B3 1) ([49]:Af))),.row hd 9 1 (A8 eS hb)]) rfl (bd hA λhq hB hC=>?_))));rw[← hB];refine Bv (wm rfl (WL.freeze (i:=0) rfl (WL.up (d:=54) (r:=AQ 1 (A8 eS hq)) rfl (Up.fact (i:=0) rfl) (ob hC λhf hD hE=>CG Tryz.call49 (R4 F hq hf hD) rfl (wm rfl (wv (AE rfl rfl) (wv (AE rfl rfl) (wa rfl (wa rfl (Am (Ai (Ag (wm rfl (wv (CQ rfl rfl) (Am (cz hE rfl (λhG hH=>?_) (λhG hI=>?_)))))))))))))))))
     ·refine Ag (wm rfl (wv (r:=rS ([]:Af)) (Ax rfl) (wa rfl (Am (Av (Ac (Ay (Ac (Ac (AR ?_))))))))));have hJ:=Bo hH he hm;refine Ay (Ac ?_);obtain rfl:=Aw hJ;exact Au (DC Zg (AG rfl) (AG rfl)) (sS (sS sN)) ⟨rfl,rfl⟩
     ·refine Ar (AJ (Ah (wm rfl (wm rfl (AZ (ys:=([hf.1]:List Af)) (enc:=eS) (css:=[[rS hf.1]]) (xs:=[.tmp 62]) Ch Cs Wj rfl rfl rfl ⟨EI.one rfl (Up.refl _),trivial⟩ rfl DY rfl rfl rfl (λgn=>?_))))));refine ck hI λhK hL=>Exists.elim OG λinf hinf=>BY (xs:=hb) (ys:=([hf.1]:List Af)) (enc:=eS) (i:=2) Ch hinf.1 hinf.2.1 hinf.2.2.1 hinf.2.2.2 rfl rfl rfl rfl rfl (KA.w (i:=0) rfl rfl) DY Lh hK rfl (λhN=>?_);refine wa rfl (Ak (AA (AJ (Ah (ck hL λhO hP=>wv (Bk rfl rfl hO) (wm rfl (Ak ?_)))))));have hQ:=Ba hP he;exact Az (A3 (ho,(hb++([hf.1]:List Af),ha+1),hN) ⟨hQ,AcM _⟩ (A6.c rfl (A6.c rfl (A6.c rfl (A6.c rfl A6.nil)))) (sC (sS (sS sN))))
    ·refine Ag (wm rfl (wm rfl (wv (Bb (enc:=Aj) (ys:=l) E4 CV rfl rfl hi) (wv (AN DK rfl CO rfl rfl) (wv (AU EL rfl rfl) (ob h9 λhn hR hS=>CG Tryz.call48 (Va F ((Ao l ha).fValue) hn hR) rfl (wm rfl (wv (AE rfl rfl) (wv (AE rfl rfl) (wa rfl (wa rfl (Am (Ah (wm rfl (wm rfl (ck hS λhr hT=>wv (r:=rv (GF 1 (.slice (some ⟨hj,0,none⟩) 4 4) (B3 2) 0)) (JH (i:=0) Ch Cs rfl rfl rfl (BO hr)) (Ia (enc:=eS) (ys:=([(Ao l ha).fKey,([48]:Af),([]:Af),Lib.itoa ((Ao l ha).fIfVersion)]:List Af)) (y':=hn.1) (i:=0) (j:=2) Cs rfl rfl (C0 rfl) rfl hr rfl rfl (H':=[.row (.slice (some ⟨hj,0,none⟩) 4 4) 9 1 (A8 eS (List.set ([(Ao l ha).fKey,([48]:Af),([]:Af),Lib.itoa ((Ao l ha).fIfVersion)]:List Af) (B3 2) hn.1)),.row hd 9 1 (A8 eS hb)]) rfl (bd hT λhs hU hV=>?_))))))))))))))))));rw[← hU];refine Bv (wm rfl (WL.freeze (i:=0) rfl (WL.up (d:=54) (r:=AQ 1 (A8 eS hs)) rfl (Up.fact (i:=0) rfl) (ob hV λhg hW hX=>CG Tryz.call49 (R4 F hs hg hW) rfl (wm rfl (wv (AE rfl rfl) (wv (AE rfl rfl) (wa rfl (wa rfl (Am (Ai (Ag (wm rfl (wv (CQ rfl rfl) (Am (cz hX rfl (λhY hZ=>?_) (λhY ga=>?_)))))))))))))))))
     ·refine Ag (wm rfl (wv (r:=rS ([]:Af)) (Ax rfl) (wa rfl (Am (Av (Ac (Ay (Ac (Ac (AR ?_))))))))));have gb:=Bo hZ he hm;refine Ay (Ac ?_);obtain rfl:=Aw gb;exact Au (DC Zg (AG rfl) (AG rfl)) (sS (sS sN)) ⟨rfl,rfl⟩
     ·refine Ar (AJ (Ah (wm rfl (wm rfl (AZ (ys:=([hg.1]:List Af)) (enc:=eS) (css:=[[rS hg.1]]) (xs:=[.tmp 62]) Ch Cs Wj rfl rfl rfl ⟨EI.one rfl (Up.refl _),trivial⟩ rfl DY rfl rfl rfl (λgp=>?_))))));refine ck ga λgc gd=>Exists.elim OG λinf hinf=>BY (xs:=hb) (ys:=([hg.1]:List Af)) (enc:=eS) (i:=2) Ch hinf.1 hinf.2.1 hinf.2.2.1 hinf.2.2.2 rfl rfl rfl rfl rfl (KA.w (i:=0) rfl rfl) DY Lh gc rfl (λge=>?_);refine wa rfl (Ak (AA (AJ (Ah (ck gd λgf gg=>wv (Bk rfl rfl gf) (wm rfl (Ak ?_)))))));have gh:=Ba gg he;exact Az (A3 (ho,(hb++([hg.1]:List Af),ha+1),ge) ⟨gh,AcM _⟩ (A6.c rfl (A6.c rfl (A6.c rfl (A6.c rfl A6.nil)))) (sC (sS (sS sN))))
   ·refine Bl (As ?_);have gi:=BB h1 he hm;exact As (AV (A3 (hb,hd) gi (A6.c rfl A6.nil) (sC sN)))
  ·rintro⟨hk,ht⟩ hl;refine Cb (l':=[(5,rv ht)]) (H':=[.row ht 9 1 (A8 eS hk)]) rfl rfl ?_;replace hl:GI F hk=some r:=hl;unfold GI at hl;refine AW (AJ (Ag (wm rfl (WL.freeze (i:=0) rfl (WL.up (d:=66) (r:=AQ 1 (A8 eS hk)) rfl (Up.fact (i:=0) rfl) (ob hl λgj gk gl=>CG Tryz.call50 (Xa F hk gj gk) rfl (wv (AE rfl rfl) (wv (AE rfl rfl) (wa rfl (wa rfl (Am (Av ?_))))))))))));obtain rfl:=Aw gl;exact Au (DC Zg (AG rfl) (AG rfl)) (sS sN) ⟨rfl,rfl⟩
theorem Ru (F:Nat)(l:(List Ae))(r:(List Af)×Int)(h:Ix F l=some r):Fn Tryz.prog GE 29 [AQ 3 (A8 Aq l)] [] (λR H=>R=C2 [AQ 1 (A8 eS r.1),Ap r.2]∧H=[]):=by
 refine enter (n:=74) Tryz.func29 rfl Tryz.ntmps29 rfl (λw Z=>?_);unfold Ix at h;refine Ag (wa rfl (wa rfl (Am (Ai (Ag (wm rfl (wv (Be (ys:=l) (enc:=Aq) DW rfl) (wv (C3 rfl rfl) (Am (cz h rfl (λc1 h2=>?_) (λc1 h3=>?_)))))))))))
 ·refine Ag (wa rfl (wa rfl (Am (Av (Ac (WK.up (d:=2) (r:=AQ 1 (A8 eS ([]:List Af))) rfl (Up.le (HK.nil _)) ?_))))));obtain rfl:=Aw h2;exact Au (DC U6 (AG rfl) (AG rfl)) sN ⟨rfl,rfl⟩
 ·refine Ar (AJ (Ag (wa rfl (Am (Ai (Ag (wm rfl (wv (Be (ys:=l) (enc:=Aq) DW rfl) (wv (r:=Ap 0) (Al rfl) (Am (A9 (WC.nilrow (e:=9) (sz:=1) (ob h3 λhu hw hh=>Bg (S:=Nat×((List Af)×Int)×(Value)) (V:=((List Af))×(Value)) 0 (λσ=>B7 (λσ=>Do F l σ.1 σ.2) σ.1 σ.2.1=some hu) (λσ=>[(0,AQ 3 (A8 Aq l)),(4,rv σ.2.2),(13,Ap (l.length:Int)),(14,Ap σ.2.1.2)]) (λσ=>[.row σ.2.2 9 1 (A8 eS σ.2.1.1)]) (λσ=>σ.1) (F,(([]:List Af),0),(.slice none 0 0         )) hw (A6.c rfl (A6.c rfl (A6.c rfl (A6.c rfl A6.nil)))) (sC sN) (λσ=>Gf σ.1=some r) (λσ=>[(4,rv σ.2)]) (λσ=>[.row σ.2 9 1 (A8 eS σ.1)]) ?_ ?_)))))))))))))
  ·rintro⟨gs,⟨hd,ha⟩,he⟩ hx;refine BG (l':=[(0,AQ 3 (A8 Aq l)),(4,rv he),(13,Ap (l.length:Int)),(14,Ap ha)]) (H':=[.row he 9 1 (A8 eS hd)]) rfl rfl ?_;obtain⟨hy,rfl,hn,hj,hg⟩:=BZ hx;replace hj:Do F l hd ha=some hn:=hj;unfold Do at hj;refine Ag (wv (Cj rfl rfl) (Am (Ai (cz hj rfl (λhz h0=>?_) (λhz h1=>?_)))))
   ·refine Ar (AJ (Ai (A9 (Ag (wm rfl (wa rfl (Am (Ai (Ag (wm rfl (wm rfl (ck h0 λhi h4=>wv (Bb (enc:=Aq) (ys:=l) DW CW rfl rfl hi) (wv (AN DX rfl Cs rfl rfl) (wv (AU CU rfl rfl) (ob h4 λh5 h6 h7=>CG Tryz.call56 (Yc F ((Ao l ha).fKey) h5 h6) rfl (wv (Ci rfl) (Am (cz h7 rfl (λh8 h9=>?_) (λh8 hA=>?_)))))))))))))))))))
    ·refine Ag (wa rfl (wa rfl (Am (Av (Ac (Ay (Ac (Ac (AR ?_)))))))));have hB:=Bo h9 hg hh;refine Ay (Ac (WK.up (d:=2) (r:=AQ 1 (A8 eS ([]:List Af))) rfl (Up.le (HK.nil _)) ?_));obtain rfl:=Aw hB;exact Au (DC U6 (AG rfl) (AG rfl)) (sS sN) ⟨rfl,rfl⟩
    ·refine Ar (AJ (Ag (wm rfl (wm rfl (wv (Bb (enc:=Aq) (ys:=l) DW CW rfl rfl hi) (wv (AN DX rfl CO rfl rfl) (wv (AU EL rfl rfl) (ob hA λhC hD hE=>CG Tryz.call57 (Ol F ((Ao l ha).fValue) hC hD) rfl (wa rfl (Am (Ai (Ag (wm rfl (wv (CQ rfl rfl) (Am (cz hE rfl (λhG hH=>?_) (λhG hI=>?_)))))))))))))))))
     ·refine Ag (wm rfl (wa rfl (wa rfl (Am (Av (Ac (Ay (Ac (Ac (AR ?_))))))))));have hJ:=Bo hH hg hh;refine Ay (Ac (WK.up (d:=2) (r:=AQ 1 (A8 eS ([]:List Af))) rfl (Up.le (HK.nil _)) ?_));obtain rfl:=Aw hJ;exact Au (DC U6 (AG rfl) (AG rfl)) (sS sN) ⟨rfl,rfl⟩
     ·refine Ar (AJ (Ai (Ag (wm rfl (wv (r:=Ap 0) (Al rfl) (Am (A9 (ob hI λhK hL hq=>Bg (S:=Nat×(Int)×(Unit)) (V:=(Int×Bool)×(Unit)) 2 (λσ=>B7 (λσ=>CB l ha σ) σ.1 σ.2.1=some hK) (λσ=>[(0,AQ 3 (A8 Aq l)),(4,rv he),(5,Ap ha),(13,Ap (l.length:Int)),(14,Ap ha),(33,Ap ha),(34,Ap σ.2.1)]) (λσ=>[.row he 9 1 (A8 eS hd)]) (λσ=>σ.1) (F,0,()) hL (A6.c rfl (A6.c rfl (A6.c5 rfl rfl rfl rfl rfl A6.nil))) (sC sN) (λσ=>Ge F l hd ha σ.1.1 σ.1.2=some hn) (λσ=>[(0,AQ 3 (A8 Aq l)),(4,rv he),(5,Ap ha),(13,Ap (l.length:Int)),(14,Ap ha),(33,Ap ha),(34,Ap σ.1.1),(35,rB σ.1.2)]) (λσ=>[.row he 9 1 (A8 eS hd)]) ?_ ?_))))))))
      ·rintro⟨gt,hf,⟨⟩⟩ hN;refine BG (l':=[(0,AQ 3 (A8 Aq l)),(4,rv he),(5,Ap ha),(13,Ap (l.length:Int)),(14,Ap ha),(33,Ap ha),(34,Ap hf)]) (H':=[.row he 9 1 (A8 eS hd)]) rfl rfl ?_;obtain⟨hO,rfl,hP,hk,ho⟩:=BZ hN;replace hk:CB l ha hf=some hP:=hk;unfold CB at hk;refine Ag (wv (Cj rfl rfl) (Am (Ai (cz hk rfl (λhQ hR=>?_) (λhQ hS=>?_)))))
       ·refine Ar (AJ (Ai (A9 (Ag (wm rfl (wa rfl (Am (Ai (ck hR λhT hU=>C1 [0,4,5,7,13,14,33,34] [⟨[],AQ 3 (A8 Aq l),0⟩,⟨[],Ap hf,0⟩,⟨[0,1],E6 (Aq (Ao l hf)),0⟩,⟨[2],E6 (Aq (Ao l hf)),0⟩,⟨[3],rS ((Ao l hf).fKey),0⟩,⟨[],AQ 3 (A8 Aq l),0⟩,⟨[],Ap ha,0⟩,⟨[5,6],E6 (Aq (Ao l ha)),0⟩,⟨[7],E6 (Aq (Ao l ha)),0⟩,⟨[8],rS ((Ao l ha).fKey),0⟩,⟨[4,9],rB (decide (((Ao l hf).fKey)=((Ao l ha).fKey))),0⟩] [37,38,39,40,41,42,43,44,45,46,47,0,4,5,13,14,33,34] ?_ ?_)))))))))
        ·refine oq (Al rfl) (oq (Al rfl) (oq (Bb (enc:=Aq) (ys:=l) DW CW rfl rfl hT) (oq (AN DX rfl Cs rfl rfl) (oq (AU CU rfl rfl) (oq (Al rfl) (oq (Al rfl) (oq (Bb (enc:=Aq) (ys:=l) DW CW rfl rfl hi) (oq (AN DX rfl Cs rfl rfl) (oq (AU CU rfl rfl) (oq (EC rfl rfl) ?_))))))))));exact Cd
        refine AJ (cz hU rfl (λhV hW=>?_) (λhV hX=>?_))
        ·refine Ag (wa rfl (wa rfl (Am (Av (Ay (Ac (Ac (AR ?_))))))));have hY:=Bo hW ho hq;refine Ay (Ac (Ay (Ac (Ac (AR ?_)))));have hZ:=Bo hY hg hh;refine Ay (Ac (WK.up (d:=2) (r:=AQ 1 (A8 eS ([]:List Af))) rfl (Up.le (HK.nil _)) ?_));obtain rfl:=Aw hZ;exact Au (DC U6 (AG rfl) (AG rfl)) (sS sN) ⟨rfl,rfl⟩
        ·refine Ar (AA (AJ (Ah (ck hX λga gb=>wv (Bk rfl rfl ga) (wm rfl (Ak ?_))))));have gc:=Ba gb ho;exact Az (A3 (hO,hf+1,()) ⟨gc,AcM _⟩ (A6.c rfl (A6.c rfl (A6.c5 rfl rfl rfl rfl rfl A6.nil))) (sC sN))
       ·refine Bl (As ?_);have gd:=BB hS ho hq;exact As (AV (A3 ((hf,decide (hf<ha)),()) gd (A6.c rfl (A6.c rfl (A6.c rfl (A6.c5 rfl rfl rfl rfl rfl A6.nil)))) (sC sN)))
      ·rintro⟨⟨hr,hs⟩,⟨⟩⟩ hl;refine Cb (l':=[(0,AQ 3 (A8 Aq l)),(4,rv he),(5,Ap ha),(13,Ap (l.length:Int)),(14,Ap ha),(33,Ap ha),(34,Ap hr),(35,rB hs)]) (H':=[.row he 9 1 (A8 eS hd)]) rfl rfl ?_;replace hl:Ge F l hd ha hr hs=some hn:=hl;unfold Ge at hl;refine AW (AJ (Ai (ob hl λhb ge gf=>C1 [0,4,5,13,14] [⟨[],AQ 3 (A8 Aq l),0⟩,⟨[],Ap ha,0⟩,⟨[0,1],E6 (Aq (Ao l ha)),0⟩,⟨[2],E6 (Aq (Ao l ha)),0⟩,⟨[3],rS ((Ao l ha).fKey),0⟩,⟨[],AQ 3 (A8 Aq l),0⟩,⟨[],Ap ha,0⟩,⟨[5,6],E6 (Aq (Ao l ha)),0⟩,⟨[7],E6 [AQ 4 (A8 Ab ((Ao l ha).fValue)),Ap ((Ao l ha).fVersion)],0⟩,⟨[8],AQ 4 (A8 Ab ((Ao l ha).fValue)),0⟩,⟨[4,9],BK [rS ((Ao l ha).fKey),rB false,AQ 4 (A8 Ab ((Ao l ha).fValue)),Ap 0],0⟩,⟨[10],AQ 4 (A8 Aj ([(Ad.mk ((Ao l ha).fKey) false ((Ao l ha).fValue) 0)]:List Ad)),0⟩,⟨[11],C2 [rS hb.1,Ap hb.2],0⟩,⟨[12],C2 [rS hb.1,Ap hb.2],0⟩,⟨[13],rS hb.1,0⟩,⟨[13],Ap hb.2,0⟩,⟨[14],rS hb.1,0⟩,⟨[15],Ap hb.2,0⟩] [50,51,52,53,54,55,56,57,58,59,60,61,62,49,63,64,8,6,0,4,13,14] ?_ ?_)))
       ·refine oq (Al rfl) (oq (Al rfl) (oq (Bb (enc:=Aq) (ys:=l) DW CW rfl rfl hi) (oq (AN DX rfl Cs rfl rfl) (oq (AU CU rfl rfl) (oq (Al rfl) (oq (Al rfl) (oq (Bb (enc:=Aq) (ys:=l) DW CW rfl rfl hi) (oq (AN DX rfl CO rfl rfl) (oq (AU EL rfl rfl) (oq (If rfl rfl rfl rfl) (DN rfl (λH=>CD (ys:=([(Ad.mk ((Ao l ha).fKey) false ((Ao l ha).fValue) 0)]:List Ad)) (enc:=Aj) (css:=[[rS ((Ao l ha).fKey),rB false,AQ 4 (A8 Ab ((Ao l ha).fValue)),Ap 0]]) (xs:=[.tmp 60]) E4 CV J1 rfl rfl rfl ⟨EI.agg ⟨Up.refl _,Up.refl _,Up.refl _,Up.refl _,trivial⟩,trivial⟩ rfl BV rfl rfl) ?_)))))))))));refine DN rfl (λH=>HP Tryz.call24 (SY F ([(Ad.mk ((Ao l ha).fKey) false ((Ao l ha).fValue) 0)]:List Ad) hb ge) rfl) ?_;refine oq (Al rfl) (oq (AE rfl rfl) (oq (AE rfl rfl) (oq (Ax rfl) (oq (Ax rfl) ?_))));exact Cd
       refine AJ (Ai (Ag (wm rfl (wv (CQ rfl rfl) (Am (cz gf rfl (λgg gh=>?_) (λgg gi=>?_)))))))
       ·refine Ag (wm rfl (wa rfl (wa rfl (Am (Av (Ac (Ay (Ac (Ac (AR ?_))))))))));have gj:=Bo gh hg hh;refine Ay (Ac (WK.up (d:=2) (r:=AQ 1 (A8 eS ([]:List Af))) rfl (Up.le (HK.nil _)) ?_));obtain rfl:=Aw gj;exact Au (DC U6 (AG rfl) (AG rfl)) (sS sN) ⟨rfl,rfl⟩
       ·refine Ar (AJ (Ah (wm rfl (wm rfl (AZ (ys:=([hb.1]:List Af)) (enc:=eS) (css:=[[rS hb.1]]) (xs:=[.tmp 69]) Ch Cs Wj rfl rfl rfl ⟨EI.one rfl (Up.refl _),trivial⟩ rfl DY rfl rfl rfl (λgu=>?_))))));refine ck gi λgk gl=>Exists.elim OG λinf hinf=>BY (xs:=hd) (ys:=([hb.1]:List Af)) (enc:=eS) (i:=1) Ch hinf.1 hinf.2.1 hinf.2.2.1 hinf.2.2.2 rfl rfl rfl rfl rfl (KA.w (i:=0) rfl rfl) DY Lh gk rfl (λgm=>?_);refine wa rfl (Ak (AA (AJ (Ah (ck gl λgn gp=>wv (Bk rfl rfl gn) (wm rfl (Ak ?_)))))));have gq:=Ba gp hg;exact Az (A3 (hy,(hd++([hb.1]:List Af),ha+1),gm) ⟨gq,AcM _⟩ (A6.c rfl (A6.c rfl (A6.c rfl (A6.c rfl A6.nil)))) (sC (sS sN)))
   ·refine Bl (As ?_);have gr:=BB h1 hg hh;exact As (AV (A3 (hd,he) gr (A6.c rfl A6.nil) (sC sN)))
  ·rintro⟨hp,ht⟩ hm;refine Cb (l':=[(4,rv ht)]) (H':=[.row ht 9 1 (A8 eS hp)]) rfl rfl ?_;replace hm:Gf hp=some r:=hm;unfold Gf at hm;refine AW (AJ (Ag (wm rfl (wa rfl (wa rfl (Am (Av (WK.freeze (i:=0) rfl (WK.up (d:=2) (r:=AQ 1 (A8 eS hp)) rfl (Up.fact (i:=0) rfl) ?_)))))))));obtain rfl:=Aw hm;exact Au (DC U6 (AG rfl) (AG rfl)) (sS sN) ⟨rfl,rfl⟩
end Go.Proofs.YtjfnokmpfekniaaGreatDoor.Q
namespace Go.Proofs.YtjfnokmpfekniaaGreatDoor
open Go
set_option linter.unusedVariables false
def DU (ha:Int)(hb:Bool)(hd:(List (Af×Ae)))(he:(List (Af×Ae))):Option (Stp (Int×(List (Af×Ae))×(List (Af×Ae))) (Out (Bool) ((List (Af×Ae))×(List (Af×Ae))))):=
 Bf (hb) (some (.out (.ret false))) (AX (B9 .i64 (ha+1))<|some (.next (ha+1,hd,he)))
def EF (ha:Bool):Option (Bool):=
 some ha
def Du (F:Nat)(l:(List Ae))(ha:Int)(hd:(List (Af×Ae)))(he:(List (Af×Ae))):Option (Stp (Int×(List (Af×Ae))×(List (Af×Ae))) (Out (Bool) ((List (Af×Ae))×(List (Af×Ae))))):=
 Bf (decide (ha<(l.length:Int))) (AX (CJ ha (l.length:Int))<|Br (V9 (AM.mk hd he) ((Ao l ha).fKey)) λhb=>AX (imp (!(!hb.2.1)) ((GN F ([hb.1]:List Ae) ([(Ae.mk ((Ao l ha).fKey) ((Ao l ha).fValue) 1)]:List Ae)).isSome))<|Bf (((!hb.2.1)||(!(ov (GN F ([hb.1]:List Ae) ([(Ae.mk ((Ao l ha).fKey) ((Ao l ha).fValue) 1)]:List Ae)))))) (some (.out (.ret false))) (AX (B9 .i64 (ha+1))<|some (.next (ha+1,hb.2.2.fItems,hb.2.2.fChanged)))) (some (.out (.go (hd,he))))
def ED (F:Nat)(l:(List Ae))(ha:(List (Af×Ae)))(hb:(List (Af×Ae))):Option (Bool):=
 Br (V8 (AM.mk ha hb)) λhd=>Bf (decide (hd.1=(l.length:Int))) (Br (Lc F) λhe=>EF he) (EF false)
def Cr (F:Nat)(hb:(List Af)×Int)(hg:(List Af)×Int)(ha:Int)(hd:(List (Af×Ae)))(he:(List (Af×Ae))):Option (Stp (Int×(List (Af×Ae))×(List (Af×Ae))) (Out (Bool) ((List (Af×Ae))×(List (Af×Ae))))):=
 Bf (decide (ha<(hb.1.length:Int))) (AX (CJ ha (hb.1.length:Int))<|AX (CJ ha (hg.1.length:Int))<|Bf (!decide ((Ao hb.1 ha)=(Ao hg.1 ha))) (DU ha true hd he) (Br (Se F (AM.mk hd he) (Ao hb.1 ha)) λhf=>DU ha (!decide (hf.1=0)) hf.2.fItems hf.2.fChanged)) (some (.out (.go (hd,he))))
def DT (F:Nat)(l:(List Ae))(ha:(List Af)×Int)(hb:(List (Af×Ae)))(hd:(List (Af×Ae))):Option (Bool):=
 Bf (!decide (ha.2=0)) (Br (Lc F) λhe=>some he) (Br (B7 (λσ=>Du F l σ.1 σ.2.1 σ.2.2) F (0,hb,hd)) (B5 λν=>ED F l ν.1 ν.2))
def CE (l:(List Ae))(hb:(List Ad))(ha:Int):Option (Stp ((List Ad)×Int) (Out (Bool) ((List Ad)))):=
 Bf (decide (ha<(l.length:Int))) (AX (CJ ha (l.length:Int))<|AX (Dw 56 (hb.length+([(Ad.mk ((Ao l ha).fKey) false ((Ao l ha).fValue) 0)]:List Ad).length))<|AX (B9 .i64 (ha+1))<|some (.next (hb++([(Ad.mk ((Ao l ha).fKey) false ((Ao l ha).fValue) 0)]:List Ad),ha+1))) (some (.out (.go hb)))
def EE (F:Nat)(l:(List Ae))(he:(List Ad)):Option (Bool):=
 Br (O7 F he) λhf=>Bf (!hf) (Br (Lc F) λhg=>some hg) (Br (IE F l) λha=>Br (Ix F l) λhb=>Bf (((!decide (ha.2=hb.2))||(!decide ((ha.1.length:Int)=(hb.1.length:Int))))) (some false) (Br (XR) λhd=>Br (B7 (λσ=>Cr F ha hb σ.1 σ.2.1 σ.2.2) F (0,hd.fItems,hd.fChanged)) (B5 λν=>DT F l ha ν.1 ν.2)))
def H9 (F:Nat)(l:(List Ae)):Option (Bool):=
 Bf (decide (300<(l.length:Int))) (Br (Lc F) λr3=>some r3) (Br (B7 (λσ=>CE l σ.1 σ.2) F (([]:List Ad),0)) (B5 λν=>EE F l ν))
end Go.Proofs.YtjfnokmpfekniaaGreatDoor
namespace Go.Proofs.YtjfnokmpfekniaaGreatDoor.Q
open Go Go.RowKit
set_option linter.unusedVariables false
set_option linter.unusedSimpArgs false
set_option maxRecDepth 100000
set_option maxHeartbeats 4000000
theorem Q2 (F:Nat)(l:(List Ae))(r:Bool)(h:H9 F l=some r):Fn Tryz.prog GE 5 [AQ 3 (A8 Aq l)] [] (λR H=>R=rB r∧H=[]):=by
 refine enter (n:=136) Tryz.func5 rfl Tryz.ntmps5 rfl (λw Z=>?_);unfold H9 at h;refine Ag (wa rfl (Bv (wa rfl (Am (Ai (Ag (wm rfl (wv (Be (ys:=l) (enc:=Aq) DW rfl) (wv (C3 rfl rfl) (Am (cz h rfl (λc1 h2=>?_) (λc1 h6=>?_))))))))))))
 ·refine Ag (ob h2 λr3 e5 h4=>CG Tryz.call10 (LN F r3 e5) rfl (wa rfl (Am (Av (Ac ?_)))));obtain rfl:=Aw h4;exact Au (BQ yr5 (AG rfl)) sN ⟨rfl,rfl⟩
 ·refine Ar (AJ (Ai (Ag (wm rfl (wv (Be (ys:=l) (enc:=Aq) DW rfl) (wv (r:=Ap 0) (Al rfl) (Am (A9 (WC.nilrow (e:=50) (sz:=4) (ob h6 λhU hV hW=>Bg (S:=Nat×((List Ad)×Int)×(Value)) (V:=((List Ad))×(Value)) 0 (λσ=>B7 (λσ=>CE l σ.1 σ.2) σ.1 σ.2.1=some hU) (λσ=>[(0,AQ 3 (A8 Aq l)),(3,rv σ.2.2),(19,Ap (l.length:Int)),(20,Ap σ.2.1.2)]) (λσ=>[.row σ.2.2 50 4 (A8 Aj σ.2.1.1)]) (λσ=>σ.1) (F,(([]:List Ad),0),(.slice none 0 0                                                  )) hV (A6.c rfl (A6.c rfl (A6.c rfl (A6.c rfl A6.nil)))) (sC sN) (λσ=>EE F l σ.1=some r) (λσ=>[(0,AQ 3 (A8 Aq l)),(3,rv σ.2)]) (λσ=>[.row σ.2 50 4 (A8 Aj σ.1)]) ?_ ?_))))))))))
  ·rintro⟨c2,⟨hn,hk⟩,hq⟩ hX;refine BG (l':=[(0,AQ 3 (A8 Aq l)),(3,rv hq),(19,Ap (l.length:Int)),(20,Ap hk)]) (H':=[.row hq 50 4 (A8 Aj hn)]) rfl rfl ?_;obtain⟨hY,rfl,t46,hs,hK⟩:=BZ hX;replace hs:CE l hn hk=some t46:=hs;unfold CE at hs;refine Ag (wv (Cj rfl rfl) (Am (Ai (cz hs rfl (λhZ ga=>?_) (λhZ gb=>?_)))))
   ·refine Ar (AJ (Ai (A9 (Ag (wm rfl (wa rfl (Am (ck ga λhL gc=>Gc 13 [0,3,4,19,20] [⟨[],rv hq,none,none,none⟩,⟨[],AQ 3 (A8 Aq l),none,none,none⟩,⟨[],Ap hk,none,none,none⟩,⟨[1,2],E6 (Aq (Ao l hk)),none,none,none⟩,⟨[3],E6 (Aq (Ao l hk)),none,none,none⟩,⟨[4],rS ((Ao l hk).fKey),none,none,none⟩,⟨[],AQ 3 (A8 Aq l),none,none,none⟩,⟨[],Ap hk,none,none,none⟩,⟨[6,7],E6 (Aq (Ao l hk)),none,none,none⟩,⟨[8],E6 [AQ 4 (A8 Ab ((Ao l hk).fValue)),Ap ((Ao l hk).fVersion)],none,none,none⟩,⟨[9],AQ 4 (A8 Ab ((Ao l hk).fValue)),none,none,none⟩,⟨[5,10],BK [rS ((Ao l hk).fKey),rB false,AQ 4 (A8 Ab ((Ao l hk).fValue)),Ap 0],none,none,none⟩,⟨[11],AQ 4 (A8 Aj ([(Ad.mk ((Ao l hk).fKey) false ((Ao l hk).fValue) 0)]:List Ad)),none,none,none⟩] ?_ (λβ=>?_)))))))))
    ·refine Dq (Al rfl) (Dq (Al rfl) (Dq (Al rfl) (Dq (Bb (enc:=Aq) (ys:=l) DW CW rfl rfl hL) (Dq (AN DX rfl Cs rfl rfl) (Dq (AU CU rfl rfl) (Dq (Al rfl) (Dq (Al rfl) (Dq (Bb (enc:=Aq) (ys:=l) DW CW rfl rfl hL) (Dq (AN DX rfl CO rfl rfl) (Dq (AU EL rfl rfl) (Dq (If rfl rfl rfl rfl) (oac (CD (ys:=([(Ad.mk ((Ao l hk).fKey) false ((Ao l hk).fValue) 0)]:List Ad)) (enc:=Aj) (css:=[[rS ((Ao l hk).fKey),rB false,AQ 4 (A8 Ab ((Ao l hk).fValue)),Ap 0]]) (xs:=[.tmp 34]) E4 CV J1 rfl rfl rfl ⟨EI.agg ⟨Up.refl _,Up.refl _,Up.refl _,Up.refl _,trivial⟩,trivial⟩ rfl BV rfl rfl) ?_))))))))))));exact Xt
    refine GL (H1:=[.row hq 50 4 (A8 Aj hn)]) [23,24,25,26,27,28,29,30,31,32,33,34,35,0,3,4,19,20] ?_;refine ck gc λgd ge=>Exists.elim Ya λinf hinf=>BY (xs:=hn) (ys:=([(Ad.mk ((Ao l hk).fKey) false ((Ao l hk).fValue) 0)]:List Ad)) (enc:=Aj) (i:=0) E4 hinf.1 hinf.2.1 hinf.2.2.1 hinf.2.2.2 rfl rfl rfl rfl rfl (KA.z rfl rfl) BV Ju gd rfl (λgf=>?_);refine wa rfl (Ak (AA (AJ (Ah (ck ge λgg gh=>wv (Bk rfl rfl gg) (wm rfl (Ak ?_)))))));have gi:=Ba gh hK;exact Az (A3 (hY,(hn++([(Ad.mk ((Ao l hk).fKey) false ((Ao l hk).fValue) 0)]:List Ad),hk+1),gf) ⟨gi,AcM _⟩ (A6.c rfl (A6.c rfl (A6.c rfl (A6.c rfl A6.nil)))) (sC sN))
   ·refine Bl (As ?_);have gj:=BB gb hK hW;exact As (AV (A3 (hn,hq) gj (A6.c rfl (A6.c rfl A6.nil)) (sC sN)))
  ·rintro⟨ht,hN⟩ hu;refine Cb (l':=[(0,AQ 3 (A8 Aq l)),(3,rv hN)]) (H':=[.row hN 50 4 (A8 Aj ht)]) rfl rfl ?_;replace hu:EE F l ht=some r:=hu;unfold EE at hu;refine AW (AJ (Ai (Ag (wm rfl (WL.freeze (i:=0) rfl (WL.up (d:=38) (r:=AQ 4 (A8 Aj ht)) rfl (Up.fact (i:=0) rfl) (ob hu λgk gl gm=>CG Tryz.call22 (XJ F ht gk gl) rfl (wv (Ci rfl) (Am (cz gm rfl (λgn gp=>?_) (λgn gq=>?_)))))))))))
   ·refine Ag (ob gp λgr gs gt=>CG Tryz.call10 (LN F gr gs) rfl (wa rfl (Am (Av (Ac ?_)))));obtain rfl:=Aw gt;exact Au (BQ yr5 (AG rfl)) (sS sN) ⟨rfl,rfl⟩
   ·refine Ar (AJ (Ag (wm rfl (ob gq λha gu gv=>CG Tryz.call28 (Sc F l ha gu) rfl (wm rfl (wv (AE rfl rfl) (wv (AE rfl rfl) (wa rfl (wa rfl (Bv (wm rfl (ob gv λhh gw gx=>CG Tryz.call29 (Ru F l hh gw) rfl (wm rfl (wv (AE rfl rfl) (wv (AE rfl rfl) (wa rfl (wa rfl (Am (Ai (AK [(0,AQ 3 (A8 Aq l)),(5,AQ 1 (A8 eS ha.1)),(6,Ap ha.2),(7,AQ 1 (A8 eS hh.1)),(61,rB ((!decide (ha.2=hh.2))||(!decide ((ha.1.length:Int)=(hh.1.length:Int)))))] [] ?_ ?_))))))))))))))))))))
    ·refine Ah (wm rfl (wm rfl (wv (CQ rfl rfl) (wm rfl (AS (!decide (ha.2=hh.2)) (λc80=>?_) (λc80=>?_))))))
     ·refine wf c80 (wf c80 (wf c80 (wf c80 (wf c80 (wv (r:=rB true) (A1 rfl c80 rfl) (Ak ?_))))));exact Cm c80
     ·refine wo c80 (wm rfl (wo c80 (wv (Be (ys:=ha.1) (enc:=eS) Ch rfl) (wo c80 (wm rfl (wo c80 (wv (Be (ys:=hh.1) (enc:=eS) Ch rfl) (wo c80 (wv (CQ rfl rfl) (GK rfl c80 rfl (Ak ?_)))))))))));exact Cm c80
    refine cz gx rfl (λgy gz=>?_) (λgy g0=>?_)
    ·refine Ag (wa rfl (Am (Av (Ac ?_))));obtain rfl:=Aw gz;exact Au (BQ yr5 (AG rfl)) sN ⟨rfl,rfl⟩
    ·refine Ar (AJ (Ag (ob g0 λh7 g1 g2=>Gt (Hr:=[]) Tryz.call11 (XQ h7 g1) rfl (AcI _) rfl ?_)));rintro _ _ ⟨hj,hf,hg,rfl,rfl⟩;refine wa rfl (Am (Ai (Ag (wm rfl (wv (r:=rB false) (Te ⟨_,AaC⟩ rfl) (Am (DQ rfl rfl (Ar (AJ (Ai (Ag (wm rfl (wv (Be (ys:=ha.1) (enc:=eS) Ch rfl) (wv (r:=Ap 0) (Al rfl) (Am (A9 (ob g2 λg3 g4 hO=>Bg (S:=Nat×(Int×(List (Af×Ae))×(List (Af×Ae)))×(Unit)) (V:=((List (Af×Ae))×(List (Af×Ae)))×(Unit)) 2 (λσ=>B7 (λσ=>Cr F ha hh σ.1 σ.2.1 σ.2.2) σ.1 σ.2.1=some g3) (λσ=>[(0,AQ 3 (A8 Aq l)),(5,AQ 1 (A8 eS ha.1)),(6,Ap ha.2),(7,AQ 1 (A8 eS hh.1)),(9,rP hj 0),(66,Ap (ha.1.length:Int)),(67,Ap σ.2.1.1)]) (λσ=>[.blk hj [rv (.map (some hf)),rv (.map (some hg))] 59,.map hf (AY An σ.2.1.2.1),.map hg (AY An σ.2.1.2.2)]) (λσ=>σ.1) (F,(0,h7.fItems,h7.fChanged),()) g4 (A6.c rfl (A6.c rfl (A6.c5 rfl rfl rfl rfl rfl A6.nil))) (sC (sC (sC sN))) (λσ=>DT F l ha σ.1.1 σ.1.2=some r) (λσ=>[(0,AQ 3 (A8 Aq l)),(6,Ap ha.2),(9,rP hj 0)]) (λσ=>[.blk hj [rv (.map (some hf)),rv (.map (some hg))] 59,.map hf (AY An σ.1.1),.map hg (AY An σ.1.2)]) ?_ ?_)))))))))))))))))
     ·rintro⟨c3,⟨hb,ho,hp⟩,⟨⟩⟩ g5;refine BG (l':=[(0,AQ 3 (A8 Aq l)),(5,AQ 1 (A8 eS ha.1)),(6,Ap ha.2),(7,AQ 1 (A8 eS hh.1)),(9,rP hj 0),(66,Ap (ha.1.length:Int)),(67,Ap hb)]) (H':=[.blk hj [rv (.map (some hf)),rv (.map (some hg))] 59,.map hf (AY An ho),.map hg (AY An hp)]) rfl rfl ?_;obtain⟨g6,rfl,h8,hw,h9⟩:=BZ g5;replace hw:Cr F ha hh hb ho hp=some h8:=hw;unfold Cr at hw;refine Ag (wv (Cj rfl rfl) (Am (Ai (cz hw rfl (λg7 g8=>?_) (λg7 g9=>?_)))))
      ·refine Ar (AJ (Ai (A9 (Ag (wm rfl (wa rfl (Am (De (S:=(Bool×(List (Af×Ae))×(List (Af×Ae)))×(Unit)) (λσ=>DU hb σ.1.1 σ.1.2.1 σ.1.2.2=some h8) (λσ=>[(0,AQ 3 (A8 Aq l)),(5,AQ 1 (A8 eS ha.1)),(6,Ap ha.2),(7,AQ 1 (A8 eS hh.1)),(9,rP hj 0),(66,Ap (ha.1.length:Int)),(67,Ap hb),(70,AQ 1 (A8 eS ha.1)),(71,Ap hb),(73,rS (Ao ha.1 hb)),(74,AQ 1 (A8 eS hh.1)),(75,Ap hb),(77,rS (Ao hh.1 hb)),(78,rB (!decide ((Ao ha.1 hb)=(Ao hh.1 hb)))),(79,rB (!decide ((Ao ha.1 hb)=(Ao hh.1 hb)))),(87,rB σ.1.1)]) (λσ=>[.blk hj [rv (.map (some hf)),rv (.map (some hg))] 59,.map hf (AY An σ.1.2.1),.map hg (AY An σ.1.2.2)]) ?_ ?_))))))))
       ·refine ck g8 λhA gA=>ck gA λhP gB=>bz gB (λhl gC=>?_) (λhl gD=>?_)
        ·refine C1 [0,5,6,7,9,10,66,67] [⟨[],AQ 1 (A8 eS ha.1),0⟩,⟨[],Ap hb,0⟩,⟨[0,1],E6 [rS (Ao ha.1 hb)],0⟩,⟨[2],rS (Ao ha.1 hb),0⟩,⟨[],AQ 1 (A8 eS hh.1),0⟩,⟨[],Ap hb,0⟩,⟨[4,5],E6 [rS (Ao hh.1 hb)],0⟩,⟨[6],rS (Ao hh.1 hb),0⟩,⟨[3,7],rB (!decide ((Ao ha.1 hb)=(Ao hh.1 hb))),0⟩,⟨[8],rB (!decide ((Ao ha.1 hb)=(Ao hh.1 hb))),0⟩,⟨[9],rv undef,0⟩,⟨[9],rv undef,0⟩,⟨[9],rv undef,0⟩,⟨[11,12,9],rv undef,0⟩,⟨[13,9],rv undef,0⟩,⟨[10,14,9],rv undef,0⟩,⟨[15,9],rv undef,0⟩,⟨[9,16],rB true,0⟩] [70,71,72,73,74,75,76,77,78,79,80,81,82,83,84,85,86,87,0,5,6,7,9,66,67] ?_ ?_
         ·refine oq (Al rfl) (oq (Al rfl) (oq (Bb (enc:=eS) (ys:=ha.1) Ch Cs rfl rfl hA) (oq (AU CU rfl rfl) (oq (Al rfl) (oq (Al rfl) (oq (Bb (enc:=eS) (ys:=hh.1) Ch Cs rfl rfl hP) (oq (AU CU rfl rfl) (oq (JE rfl rfl) (oq (Al rfl) (oz hl (oz hl (oz hl (oz hl (oz hl (oz hl (oz hl (oq (A1 (b:=!decide ((Ao ha.1 hb)=(Ao hh.1 hb))) rfl hl rfl) ?_)))))))))))))))));exact Cd
         exact Az (A3 ((true,ho,hp),()) gC (A6.c rfl (A6.c5 rfl rfl rfl rfl rfl (A6.c5 rfl rfl rfl rfl rfl (A6.c5 rfl rfl rfl rfl rfl A6.nil)))) (sC (sC (sC sN))))
        ·refine ob gD λhm gE gF=>GM (H1:=[.blk hj [rv (.map (some hf)),rv (.map (some hg))] 59,.map hf (AY An hm.2.fItems),.map hg (AY An hm.2.fChanged)]) [0,5,6,7,9,10,66,67] [⟨[],AQ 1 (A8 eS ha.1),0⟩,⟨[],Ap hb,0⟩,⟨[0,1],E6 [rS (Ao ha.1 hb)],0⟩,⟨[2],rS (Ao ha.1 hb),0⟩,⟨[],AQ 1 (A8 eS hh.1),0⟩,⟨[],Ap hb,0⟩,⟨[4,5],E6 [rS (Ao hh.1 hb)],0⟩,⟨[6],rS (Ao hh.1 hb),0⟩,⟨[3,7],rB (!decide ((Ao ha.1 hb)=(Ao hh.1 hb))),0⟩,⟨[8],rB (!decide ((Ao ha.1 hb)=(Ao hh.1 hb))),0⟩,⟨[9],rP hj 0,0⟩,⟨[9],AQ 1 (A8 eS ha.1),0⟩,⟨[9],Ap hb,0⟩,⟨[11,12,9],E6 [rS (Ao ha.1 hb)],0⟩,⟨[13,9],rS (Ao ha.1 hb),0⟩,⟨[10,14,9],Ap hm.1,2⟩,⟨[15,9],rB (!decide (hm.1=0)),0⟩,⟨[9,16],rB (!decide (hm.1=0)),0⟩] (rle [(16,_),(3,[.blk hj [rv (.map (some hf)),rv (.map (some hg))] 59,.map hf (AY An hm.2.fItems),.map hg (AY An hm.2.fChanged)])]) [70,71,72,73,74,75,76,77,78,79,80,81,82,83,84,85,86,87,0,5,6,7,9,66,67] ?_ ?_
         ·refine oq (Al rfl) (oq (Al rfl) (oq (Bb (enc:=eS) (ys:=ha.1) Ch Cs rfl rfl hA) (oq (AU CU rfl rfl) (oq (Al rfl) (oq (Al rfl) (oq (Bb (enc:=eS) (ys:=hh.1) Ch Cs rfl rfl hP) (oq (AU CU rfl rfl) (oq (JE rfl rfl) (oq (Al rfl) (on hl (oq (Al rfl) (on hl (oq (Al rfl) (on hl (oq (Al rfl) (on hl (oq (Bb (enc:=eS) (ys:=ha.1) Ch Cs rfl rfl hA) (on hl (oq (AU CU rfl rfl) (JD rfl (MX (b:=!decide ((Ao ha.1 hb)=(Ao hh.1 hb))) rfl rfl hl (Xn (Hin:=[.blk hj [rv (.map (some hf)),rv (.map (some hg))] 59,.map hf (AY An ho),.map hg (AY An hp)]) (Hout:=[.blk hj [rv (.map (some hf)),rv (.map (some hg))] 59,.map hf (AY An hm.2.fItems),.map hg (AY An hm.2.fChanged)]) (Hr:=[]) Tryz.call30 rfl (AcI _) (ZP F hj hf hg (AM.mk ho hp) (Ao ha.1 hb) hm gE) rfl)) ?_))))))))))))))))))));refine on hl (oq (CQ rfl rfl) (oq (AC rfl hl rfl) ?_));exact Cd
         exact Az (A3 ((!decide (hm.1=0),hm.2.fItems,hm.2.fChanged),()) gF (A6.c rfl (A6.c5 rfl rfl rfl rfl rfl (A6.c5 rfl rfl rfl rfl rfl (A6.c5 rfl rfl rfl rfl rfl A6.nil)))) (sC (sC (sC sN))))
       ·rintro⟨⟨hQ,hB,hC⟩,⟨⟩⟩ hx;refine BG (l':=[(0,AQ 3 (A8 Aq l)),(5,AQ 1 (A8 eS ha.1)),(6,Ap ha.2),(7,AQ 1 (A8 eS hh.1)),(9,rP hj 0),(66,Ap (ha.1.length:Int)),(67,Ap hb),(70,AQ 1 (A8 eS ha.1)),(71,Ap hb),(73,rS (Ao ha.1 hb)),(74,AQ 1 (A8 eS hh.1)),(75,Ap hb),(77,rS (Ao hh.1 hb)),(78,rB (!decide ((Ao ha.1 hb)=(Ao hh.1 hb)))),(79,rB (!decide ((Ao ha.1 hb)=(Ao hh.1 hb)))),(87,rB hQ)]) (H':=[.blk hj [rv (.map (some hf)),rv (.map (some hg))] 59,.map hf (AY An hB),.map hg (AY An hC)]) rfl rfl ?_;replace hx:DU hb hQ hB hC=some h8:=hx;unfold DU at hx;refine cz hx rfl (λgG gH=>?_) (λgG gI=>?_)
        ·refine Ag (wa rfl (Am (Av (Ay (Ac (Ac (AR ?_)))))));have gJ:=Bo gH h9 hO;refine Ay (Ac ?_);obtain rfl:=Aw gJ;exact Au (BQ yr5 (AG rfl)) (sS (sS (sS sN))) ⟨rfl,rfl⟩
        ·refine Ar (AA (AJ (Ah (ck gI λgK gL=>wv (Bk rfl rfl gK) (wm rfl (Ak ?_))))));have gM:=Ba gL h9;exact Az (A3 (g6,(hb+1,hB,hC),()) ⟨gM,AcM _⟩ (A6.c rfl (A6.c rfl (A6.c5 rfl rfl rfl rfl rfl A6.nil))) (sC (sC (sC sN))))
      ·refine Bl (As ?_);have gN:=BB g9 h9 hO;exact As (AV (A3 ((ho,hp),()) gN (A6.c rfl (A6.c rfl (A6.c rfl A6.nil))) (sC (sC (sC sN)))))
     ·rintro⟨⟨hD,hE⟩,⟨⟩⟩ hy;refine Cb (l':=[(0,AQ 3 (A8 Aq l)),(6,Ap ha.2),(9,rP hj 0)]) (H':=[.blk hj [rv (.map (some hf)),rv (.map (some hg))] 59,.map hf (AY An hD),.map hg (AY An hE)]) rfl rfl ?_;replace hy:DT F l ha hD hE=some r:=hy;unfold DT at hy;refine AW (AJ (Ai (Ag (wm rfl (wv (CQ rfl rfl) (Am (cz hy rfl (λgO gP=>?_) (λgO gQ=>?_))))))))
      ·refine Ag (ob gP λgR gS gT=>CG Tryz.call10 (LN F gR gS) rfl (wa rfl (Am (Av (Ac ?_)))));obtain rfl:=Aw gT;exact Au (BQ yr5 (AG rfl)) (sS (sS (sS sN))) ⟨rfl,rfl⟩
      ·refine Ar (AJ (Ai (Ag (wm rfl (wv (Be (ys:=l) (enc:=Aq) DW rfl) (wv (r:=Ap 0) (Al rfl) (Am (A9 (ob gQ λgU gV hR=>Bg (S:=Nat×(Int×(List (Af×Ae))×(List (Af×Ae)))×(Unit)) (V:=((List (Af×Ae))×(List (Af×Ae)))×(Unit)) 4 (λσ=>B7 (λσ=>Du F l σ.1 σ.2.1 σ.2.2) σ.1 σ.2.1=some gU) (λσ=>[(0,AQ 3 (A8 Aq l)),(9,rP hj 0),(93,Ap (l.length:Int)),(94,Ap σ.2.1.1)]) (λσ=>[.blk hj [rv (.map (some hf)),rv (.map (some hg))] 59,.map hf (AY An σ.2.1.2.1),.map hg (AY An σ.2.1.2.2)]) (λσ=>σ.1) (F,(0,hD,hE),()) gV (A6.c rfl (A6.c rfl (A6.c rfl (A6.c rfl A6.nil)))) (sC (sC (sC sN))) (λσ=>ED F l σ.1.1 σ.1.2=some r) (λσ=>[(0,AQ 3 (A8 Aq l)),(9,rP hj 0)]) (λσ=>[.blk hj [rv (.map (some hf)),rv (.map (some hg))] 59,.map hf (AY An σ.1.1),.map hg (AY An σ.1.2)]) ?_ ?_)))))))))
       ·rintro⟨c4,⟨hi,hz,h0⟩,⟨⟩⟩ gW;refine BG (l':=[(0,AQ 3 (A8 Aq l)),(9,rP hj 0),(93,Ap (l.length:Int)),(94,Ap hi)]) (H':=[.blk hj [rv (.map (some hf)),rv (.map (some hg))] 59,.map hf (AY An hz),.map hg (AY An h0)]) rfl rfl ?_;obtain⟨gX,rfl,gY,h1,hG⟩:=BZ gW;replace h1:Du F l hi hz h0=some gY:=h1;unfold Du at h1;refine Ag (wv (Cj rfl rfl) (Am (Ai (cz h1 rfl (λgZ ca=>?_) (λgZ cb=>?_)))))
        ·refine Ar (AJ (Ai (A9 (Ag (wm rfl (wa rfl (Bv (wm rfl (wm rfl (wm rfl (ck ca λhH cc=>wv (Bb (enc:=Aq) (ys:=l) DW CW rfl rfl hH) (wv (AN DX rfl Cs rfl rfl) (wv (AU CU rfl rfl) (ob cc λhd cd ce=>Gt (Hr:=[]) Tryz.call17 (XS hj hf hg (AM.mk hz h0) ((Ao l hi).fKey) hd cd) rfl (AcI _) rfl ?_))))))))))))));rintro _ _ ⟨rfl,rfl⟩;refine wm rfl (wv (AE rfl rfl) (wv (AE rfl rfl) (BM (cs:=[rS ([]:Af),rv (.slice none 0 0),Ap 0]) KP rfl rfl (λcf=>?_))));refine Bh (i:=0) CW rfl rfl rfl (BJ.c rfl) rfl rfl (cs':=[rS hd.1.fKey,AQ 4 (A8 Ab hd.1.fValue),Ap hd.1.fVersion]) rfl (H':=[.blk cf (Aq hd.1) 35,.blk hj [rv (.map (some hf)),rv (.map (some hg))] 59,.map hf (AY An hd.2.2.fItems),.map hg (AY An hd.2.2.fChanged)]) rfl (wa rfl (Am (ck ce λcg ci=>AK [(0,AQ 3 (A8 Aq l)),(9,rP hj 0),(93,Ap (l.length:Int)),(94,Ap hi),(107,rB hd.2.1),(108,rB (!hd.2.1)),(109,rB (!hd.2.1)),(126,rB ((!hd.2.1)||(!(ov (GN F ([hd.1]:List Ae) ([(Ae.mk ((Ao l hi).fKey) ((Ao l hi).fValue) 1)]:List Ae))))))] [.blk hj [rv (.map (some hf)),rv (.map (some hg))] 59,.map hf (AY An hd.2.2.fItems),.map hg (AY An hd.2.2.fChanged)] ?_ ?_)))
         ·refine AS (!hd.2.1) (λhe=>?_) (λhe=>?_)
          ·refine C1 [0,9,11,12,13,93,94] [⟨[],rB hd.2.1,0⟩,⟨[0],rB (!hd.2.1),0⟩,⟨[1],rB (!hd.2.1),0⟩,⟨[2],rv undef,0⟩,⟨[3,2],rv undef,0⟩,⟨[2],rv undef,0⟩,⟨[2],rv undef,0⟩,⟨[5,6,2],rv undef,0⟩,⟨[7,2],rv undef,0⟩,⟨[8,2],rv undef,0⟩,⟨[2],rv undef,0⟩,⟨[2],rv undef,0⟩,⟨[10,11,2],rv undef,0⟩,⟨[12,2],rv undef,0⟩,⟨[13,2],rv undef,0⟩,⟨[9,14,2],rv undef,0⟩,⟨[15,2],rv undef,0⟩,⟨[4,16,2],rv undef,0⟩,⟨[17,2],rv undef,0⟩,⟨[2,18],rB true,0⟩] [107,108,109,110,111,112,113,114,115,116,117,118,119,120,121,122,123,124,125,126,0,9,93,94] ?_ ?_
           ·refine oq (Al rfl) (oq (Ci rfl) (oq (Al rfl) (oz he (oz he (oz he (oz he (oz he (oz he (oz he (oz he (oz he (oz he (oz he (oz he (oz he (oz he (oz he (oz he (oq (A1 (b:=!hd.2.1) rfl he rfl) ?_)))))))))))))))))));exact Cd
           exact Cm he
          ·refine C1 [0,9,11,12,13,93,94] [⟨[],rB hd.2.1,0⟩,⟨[0],rB (!hd.2.1),0⟩,⟨[1],rB (!hd.2.1),0⟩,⟨[2],BK (Aq hd.1),1⟩,⟨[3,2],AQ 3 (A8 Aq ([hd.1]:List Ae)),0⟩,⟨[2],AQ 3 (A8 Aq l),0⟩,⟨[2],Ap hi,0⟩,⟨[5,6,2],E6 (Aq (Ao l hi)),0⟩,⟨[7,2],E6 (Aq (Ao l hi)),0⟩,⟨[8,2],rS ((Ao l hi).fKey),0⟩,⟨[2],AQ 3 (A8 Aq l),0⟩,⟨[2],Ap hi,0⟩,⟨[10,11,2],E6 (Aq (Ao l hi)),0⟩,⟨[12,2],E6 [AQ 4 (A8 Ab ((Ao l hi).fValue)),Ap ((Ao l hi).fVersion)],0⟩,⟨[13,2],AQ 4 (A8 Ab ((Ao l hi).fValue)),0⟩,⟨[9,14,2],BK [rS ((Ao l hi).fKey),AQ 4 (A8 Ab ((Ao l hi).fValue)),Ap 1],0⟩,⟨[15,2],AQ 3 (A8 Aq ([(Ae.mk ((Ao l hi).fKey) ((Ao l hi).fValue) 1)]:List Ae)),0⟩,⟨[4,16,2],rB (ov (GN F ([hd.1]:List Ae) ([(Ae.mk ((Ao l hi).fKey) ((Ao l hi).fValue) 1)]:List Ae))),0⟩,⟨[17,2],rB (!(ov (GN F ([hd.1]:List Ae) ([(Ae.mk ((Ao l hi).fKey) ((Ao l hi).fValue) 1)]:List Ae)))),0⟩,⟨[2,18],rB (!(ov (GN F ([hd.1]:List Ae) ([(Ae.mk ((Ao l hi).fKey) ((Ao l hi).fValue) 1)]:List Ae)))),0⟩] [107,108,109,110,111,112,113,114,115,116,117,118,119,120,121,122,123,124,125,126,0,9,93,94] ?_ ?_
           ·refine oq (Al rfl) (oq (Ci rfl) (oq (Al rfl) (on he (of (BC (i:=0) NO CW rfl rfl rfl rfl) (DN rfl (λH=>MX (b:=!hd.2.1) rfl rfl he (CD (ys:=([hd.1]:List Ae)) (enc:=Aq) (css:=[[rS hd.1.fKey,AQ 4 (A8 Ab hd.1.fValue),Ap hd.1.fVersion]]) (xs:=[.tmp 110]) DW CW KP rfl rfl rfl ⟨EI.agg ⟨Up.refl _,Up.refl _,Up.refl _,trivial⟩,trivial⟩ rfl Ij rfl rfl)) ?_)))));refine on he (oq (Al rfl) (on he (oq (Al rfl) (on he (oq (Bb (enc:=Aq) (ys:=l) DW CW rfl rfl hH) (on he (oq (AN DX rfl Cs rfl rfl) (on he (oq (AU CU rfl rfl) (on he (oq (Al rfl) (on he (oq (Al rfl) (on he (oq (Bb (enc:=Aq) (ys:=l) DW CW rfl rfl hH) (on he (oq (AN DX rfl CO rfl rfl) (on he (oq (AU EL rfl rfl) (on he (oq (Jq rfl rfl rfl rfl rfl rfl) (DN rfl (λH=>MX (b:=!hd.2.1) rfl rfl he (CD (ys:=([(Ae.mk ((Ao l hi).fKey) ((Ao l hi).fValue) 1)]:List Ae)) (enc:=Aq) (css:=[[rS ((Ao l hi).fKey),AQ 4 (A8 Ab ((Ao l hi).fValue)),Ap 1]]) (xs:=[.tmp 122]) DW CW KP rfl rfl rfl ⟨EI.agg ⟨Up.refl _,Up.refl _,Up.refl _,trivial⟩,trivial⟩ rfl Ij rfl rfl)) ?_))))))))))))))))))))));refine DN rfl (λH=>MX (b:=!hd.2.1) rfl rfl he (HP Tryz.call19 (WS F ([hd.1]:List Ae) ([(Ae.mk ((Ao l hi).fKey) ((Ao l hi).fValue) 1)]:List Ae) (ov (GN F ([hd.1]:List Ae) ([(Ae.mk ((Ao l hi).fKey) ((Ao l hi).fValue) 1)]:List Ae))) (Jy (D6 cg he))) rfl)) ?_;refine on he (oq (Ci rfl) (oq (AC rfl he rfl) ?_));exact Cd
           exact Cm he
         refine cz ci rfl (λcj cl=>?_) (λcj cm=>?_)
         ·refine Ag (wa rfl (Am (Av (Ay (Ac (Ac (AR ?_)))))));have cn:=Bo cl hG hR;refine Ay (Ac ?_);obtain rfl:=Aw cn;exact Au (BQ yr5 (AG rfl)) (sS (sS (sS sN))) ⟨rfl,rfl⟩
         ·refine Ar (AA (AJ (Ah (ck cm λco cp=>wv (Bk rfl rfl co) (wm rfl (Ak ?_))))));have cq:=Ba cp hG;exact Az (A3 (gX,(hi+1,hd.2.2.fItems,hd.2.2.fChanged),()) ⟨cq,AcM _⟩ (A6.c rfl (A6.c rfl (A6.c rfl (A6.c rfl A6.nil)))) (sC (sC (sC sN))))
        ·refine Bl (As ?_);have cr:=BB cb hG hR;exact As (AV (A3 ((hz,h0),()) cr (A6.c rfl (A6.c rfl A6.nil)) (sC (sC (sC sN)))))
       ·rintro⟨⟨hI,hJ⟩,⟨⟩⟩ h3;refine Cb (l':=[(0,AQ 3 (A8 Aq l)),(9,rP hj 0)]) (H':=[.blk hj [rv (.map (some hf)),rv (.map (some hg))] 59,.map hf (AY An hI),.map hg (AY An hJ)]) rfl rfl ?_;replace h3:ED F l hI hJ=some r:=h3;unfold ED at h3;refine AW (AJ (De (S:=(Bool)×(Unit)) (λσ=>EF σ.1=some r) (λσ=>[(2,rB σ.1)]) (λσ=>[]) ?_ ?_))
        ·refine Ah (wm rfl (ob h3 λct cu cv=>Gt (Hr:=[]) Tryz.call15 (Tm hj hf hg (AM.mk hI hJ) ct cu) rfl (AcI _) rfl ?_));rintro _ _ ⟨rfl,rfl⟩;refine wm rfl (wv (Be (ys:=l) (enc:=Aq) DW rfl) (wv (B6 rfl rfl) (wm rfl (bz cv (λhr cw=>?_) (λhr cx=>?_)))))
         ·exact wo hr (ob cw λhS cy c0=>CG Tryz.call10 (LN F hS cy) rfl (GC rfl hr rfl (wa rfl (Ak (Az (A3 (hS,()) c0 (A6.c rfl A6.nil) (sS (sS (sS sN)))))))))
         ·exact wf hr (wv (r:=rB false) (AC rfl hr rfl) (wa rfl (Ak (Az (A3 (false,()) cx (A6.c rfl A6.nil) (sS (sS (sS sN))))))))
        ·rintro⟨hT,⟨⟩⟩ h5;refine BG (l':=[(2,rB hT)]) (H':=[]) rfl rfl ?_;replace h5:EF hT=some r:=h5;unfold EF at h5;refine Av ?_;obtain rfl:=Aw h5;exact Au (BQ yr5 (AG rfl)) sN ⟨rfl,rfl⟩
end Go.Proofs.YtjfnokmpfekniaaGreatDoor.Q
namespace Go.Proofs.YtjfnokmpfekniaaGreatDoor.lawKvSnapshots
open Go
set_option linter.unusedVariables false
def Xq (y:Aa):Bool:=(B9 .i64) y.fKind&&(B9 .i64) y.fInt&&okS y.fStr&&(B9 .i64) y.fN
def Vl (y:Ae):Bool:=okS y.fKey&&(λys:(List Aa)=>ys.all Xq&&decide (ys.length≤9223372036854775807)) y.fValue&&(B9 .i64) y.fVersion
def Law:Prop:=∀(y0:(List Ae)) (o0:(λys:(List Ae)=>ys.all Vl&&decide (ys.length≤9223372036854775807)) y0=true),∃F,H9 F y0=some true
end Go.Proofs.YtjfnokmpfekniaaGreatDoor.lawKvSnapshots
namespace Go.Proofs.YtjfnokmpfekniaaGreatDoor
open Go
set_option linter.unusedVariables false
set_option linter.unusedSimpArgs false
def sB (b:BitVec 32):BitVec 32:=if b.getLsbD 0=true then(b>>>1)^^^3988292384#32 else b>>>1
def QO:Nat→BitVec 32→BitVec 32
 | 0,b=>b
 | n+1,b=>QO n (sB b)
theorem AaN (a b:BitVec 32):sB (a^^^b)=sB a^^^sB b:=by
 unfold sB;rw[BitVec.getLsbD_xor,BitVec.ushiftRight_xor_distrib]
 cases a.getLsbD 0<;>cases b.getLsbD 0
 ·simp
 ·simp[BitVec.xor_assoc]
 ·simp only[Bool.xor_false,Ad7,Adh,Ad3];rw[BitVec.xor_assoc,BitVec.xor_assoc,BitVec.xor_comm (b>>>1)]
 ·simp only[Bool.xor_self,Adh,Ad3,Ad7];rw[BitVec.xor_assoc,BitVec.xor_comm 3988292384#32,BitVec.xor_assoc,BitVec.xor_self,BitVec.xor_zero]
theorem TD:∀(n:Nat) (a b:BitVec 32),QO n (a^^^b)=QO n a^^^QO n b
 | 0,_,_=>rfl
 | n+1,a,b=>by rw[QO,AaN,TD n];rfl
theorem Pz:∀(n:Nat) (b:BitVec 32),(∀i,i<n→b.getLsbD i=false)→QO n b=b>>>n
 | 0,b,_=>by simp[QO]
 | n+1,b,h=>by
  have h0:sB b=b>>>1:=by unfold sB;rw[h 0 (by omega)];simp
  rw[QO,h0,Pz n (b>>>1) (λi hi=>by rw[BitVec.getLsbD_ushiftRight];exact h _ (by omega))];rw[← BitVec.shiftRight_add,Nat.add_comm]
theorem UR (x:BitVec 32):QO 8 x=QO 8 (x&&& 255#32)^^^(x>>>8):=by
 have e:x=(x&&& 255#32)^^^(x&&& 4294967040#32):=by
  apply BitVec.eq_of_getLsbD_eq;intro i hi;rw[BitVec.getLsbD_xor,BitVec.getLsbD_and,BitVec.getLsbD_and];have hh:∀j:Fin 32,(4294967040#32).getLsbD j = !(255#32).getLsbD j:=by decide
  rw[hh ⟨i,hi⟩]
  cases x.getLsbD i<;>cases(255#32).getLsbD i<;>rfl
 have hz:∀i,i<8→(x&&& 4294967040#32).getLsbD i=false:=λi hi=>by
  rw[BitVec.getLsbD_and];have:(4294967040#32).getLsbD i=false:=by
   have hh:∀i:Fin 8,(4294967040#32).getLsbD i=false:=by decide
   exact hh ⟨i,hi⟩
  rw[this,Add]
 have hs:(x&&& 4294967040#32)>>>8=x>>>8:=by
  apply BitVec.eq_of_getLsbD_eq;intro i hi;rw[BitVec.getLsbD_ushiftRight,BitVec.getLsbD_ushiftRight,BitVec.getLsbD_and]
  by_cases h:8+i<32
  ·have hh:∀j:Fin 24,(4294967040#32).getLsbD (8+j)=true:=by decide
   rw[hh ⟨i,by omega⟩,AcZ]
  ·rw[BitVec.getLsbD_of_ge x _ (by omega)];rfl
 conv=>lhs;rw[e]
 rw[TD,Pz 8 _ hz,hs]
def bv (x:Int):BitVec 32:=BitVec.ofInt 32 x
def nv (b:BitVec 32):Int:=(b.toNat:Int)
def W32 (x:Int):Prop:=0≤x∧x<4294967296
theorem W32.nv (b:BitVec 32):W32 (nv b):=⟨by unfold Proofs.YtjfnokmpfekniaaGreatDoor.nv;omega,by have:=b.isLt;unfold Proofs.YtjfnokmpfekniaaGreatDoor.nv;omega⟩
theorem Aa3 {x:Int}(h:W32 x):nv (bv x)=x:=by
 unfold nv bv;have h1:=h.1;have h2:=h.2;rw[BitVec.toNat_ofInt];have:x % ((2 ^ 32:Nat):Int)=x:=Int.emod_eq_of_lt h1 (by simpa using h2);rw[this];omega
theorem OX (b:BitVec 32):bv (nv b)=b:=by
 apply BitVec.eq_of_toNat_eq;have h:=Aa3 (W32.nv b);unfold nv at h;exact Int.ofNat_inj.1 h
theorem Qh (b:BitVec 32):IntKind.wrap .u32 (b.toNat:Int)=nv b:=by
 have:=b.isLt;unfold nv;simp[IntKind.wrap,IntKind.signed,IntKind.bits];omega
theorem NA (x y:Int):E5 .u32 x y=nv (bv x^^^bv y):=Qh (bv x^^^bv y)
theorem ZX (x y:Int):Lf .u32 x y=nv (bv x&&& bv y):=Qh (bv x&&& bv y)
theorem Ui {n:Nat}(hn:n≤32)(b:BitVec 32):BH .u32 (nv b) (n:Int)=nv (b>>>n):=by
 unfold BH nv;have e:min (n:Int).toNat (IntKind.bits .u32)=n:=by
  have:IntKind.bits .u32=32:=rfl;rw[this];omega
 rw[e,BitVec.toNat_ushiftRight,Nat.shiftRight_eq_div_pow];rw[Int.fdiv_eq_ediv_of_nonneg _ (by exact Int.pow_nonneg (by omega))];simp
theorem Aba (b:BitVec 32):decide (Lf .u32 (nv b) 1=1)=b.getLsbD 0:=by
 rw[ZX,OX];have e:bv 1=1#32:=by decide
 rw[e];have h:(b&&& 1#32).toNat=b.toNat % 2:=by
  rw[BitVec.toNat_and];exact Nat.and_one_is_mod _
 unfold nv;rw[h,BitVec.getLsbD,Nat.testBit_zero];rw[AcT];simp only[Ac9];omega
theorem Ro (b:BitVec 32):(bif decide (Lf .u32 (nv b) 1=1) then E5 .u32 (BH .u32 (nv b) 1) 3988292384 else BH .u32 (nv b) 1)=nv (sB b):=by
 have hs:BH .u32 (nv b) 1=nv (b>>>1):=Ui (n:=1) (by omega) b;have e:bv 3988292384=3988292384#32:=by decide
 rw[Aba,hs,NA,OX,e];unfold sB
 cases b.getLsbD 0<;>rfl
def K6 (c:UInt8):Bool:=decide (32≤c.toNat)&&decide (c.toNat≤126)
theorem Hb {s:Af}{x:Int}{c:UInt8}(h:s[x.toNat]? =some c):Bm s x=(c.toNat:Int):=by simp[Bm,h]
theorem Pi {α:Type}{p:α→Bool}{s:List α}{k:Nat}{c:α}(h:s[k]? =some c):(s.take (k+1)).all p=((s.take k).all p&&p c):=by
 rw[List.take_add_one,h];simp
theorem QL {α:Type}{p:α→Bool}{s:List α}{k:Nat}{c:α}(h:s[k]? =some c)(hp:p c=false):s.all p=false:=by
 rw[List.all_eq_false];exact⟨c,AcO h,by simp[hp]⟩
theorem Rb {F:Nat}{s:Af}(hF:s.length<F)(hs:s.length≤9223372036854775807):Lr F s=some (s.all K6):=by
 obtain⟨o,h1,h2⟩:=Gj (body:=λσ=>Ir s σ) (λx=>0≤x∧x≤(s.length:Int)∧(s.take x.toNat).all K6=true) (λx=>s.length-x.toNat)
  (λo=>B5 (λ_=>Iq) o=some (s.all K6)) (λx ⟨h0,hl,ha⟩=>by
   unfold Ir
   by_cases hx:x<(s.length:Int)
   ·obtain⟨c,hc⟩:∃c,s[x.toNat]? =some c:=⟨s[x.toNat]'(by omega),AcL (by omega)⟩
    rw[AF (by simpa using hx),AP h0 hx,Hb hc]
    cases ho:K6 c with
    | false=>
     refine .inr ⟨.ret false,?_,?_⟩
     ·rw[AF];simp only[K6,Ad4,AcA] at ho;simp only[Adu,Ac9];omega
     ·simp[B5,QL hc ho]
    | true=>
     refine .inl ⟨x+1,?_,⟨by omega,by omega,?_⟩,by omega⟩
     ·rw[A0,AB (by omega) (by omega)];simp only[K6,AcG,Ac9] at ho;simp only[Adf,AcA];omega
     ·rw[show(x+1).toNat=x.toNat+1 from by omega,Pi hc,ha,ho];rfl
   ·refine .inr ⟨.go (),by rw[A0 (by simpa using hx)],?_⟩;rw[show x.toNat=s.length from by omega,Ad5] at ha;simp[B5,Iq,ha]) F 0 ⟨by omega,by omega,by simp⟩ (by simpa using hF)
 unfold Lr;rw[AI h1,h2]
theorem Qs (F:Nat)(s:Af):JA F s=Lr F s:=rfl
theorem UV {F:Nat}{s:Af}(hF:s.length<F)(hs:s.length≤9223372036854775807):JA F s=some (s.all K6):=by rw[Qs];exact Rb hF hs
def pl (c:Aa):Bool:=
 bif decide (c.fKind=1) then(decide (c.fInt=0)&&(decide (c.fStr=[])&&decide (c.fN=0))) else
 bif decide (c.fKind=2) then((decide (c.fInt=0)||decide (c.fInt=1))&&(decide (c.fStr=[])&&decide (c.fN=0))) else
 bif decide (c.fKind=3) then(decide (c.fStr=[])&&decide (c.fN=0)) else
 bif decide (c.fKind=4) then(decide (c.fInt=0)&&(decide (c.fN=0)&&c.fStr.all K6)) else
 bif decide (c.fKind=5) then(decide (c.fInt=0)&&(decide (c.fStr=[])&&decide (0≤c.fN))) else
 bif decide (c.fKind=6) then(decide (c.fInt=0)&&(decide (c.fStr=[])&&decide (0≤c.fN))) else false
theorem EG {α:Type}{p:Bool}{x y:Option α}{a b:α}(h:x=some a)(h':y=some b):Bf p x y=some (bif p then a else b):=by cases p<;>simp[Bf,h,h']
theorem UF {F:Nat}{c:Aa}(hF:c.fStr.length<F)(hs:c.fStr.length≤9223372036854775807):NX F c=some (pl c):=by
 unfold NX pl;rw[Rb hF hs];refine EG rfl (EG ?_ (EG rfl (EG ?_ (EG rfl (EG rfl rfl)))))
 ·cases h:decide (c.fInt=0)<;>simp
 ·simp[imp,AX,ov]
def Nh:List A7→List A7
 | []=>[]
 | e::S=>bif decide (1<e.fLeft) then⟨e.fPairs,e.fLeft-1,e.fPairs,e.fLast,e.fStarted⟩::S else Nh S
theorem NG {α:Type}[Inhabited α](xs:List α)(e:α):Ao (xs++[e]) (xs.length:Int)=e:=by simp[Ao]
theorem L2 {α:Type}(xs:List α)(e e':α):List.set (xs++[e]) (Int.toNat (xs.length:Int)) e'=xs++[e']:=by simp
theorem LM {α:Type}(xs:List α)(e:α):((xs++[e]).length:Int)-1=(xs.length:Int):=by simp
theorem UN {α:Type}(xs:List α)(e:α):List.take (Int.toNat (xs.length:Int)) (xs++[e])=xs:=by simp
theorem MR:∀(S:List A7) (F:Nat),S.length<F→(∀e∈S,1≤e.fLeft∧e.fLeft≤9223372036854775807)→S.length≤4611686018427387904→
  ∃o,B7 (λσ=>Eg σ) F S.reverse=some o∧B5 (λν=>EO ν) o=some (Nh S).reverse
 | [],F+1,_,_,_=>⟨.go [],by simp[B7,Eg,Bf],by simp[B5,EO,Nh]⟩
 | e::S,F+1,hF,hb,hl=>by
  obtain⟨h1,h2⟩:=hb e (by simp);simp only[AcE] at hF hl;have hx:S.reverse.length=S.length:=by simp
  generalize hxs:S.reverse=xs at hx;have hr:(e::S).reverse=xs++[e]:=by simp[hxs]
  rw[hr];have hb1:Eg (xs++[e])=bif decide (1<e.fLeft) then some (.out (.ret (xs++[⟨e.fPairs,e.fLeft-1,e.fPairs,e.fLast,e.fStarted⟩]))) else some (.next xs):=by
   unfold Eg;rw[AF (by simp)];simp only[LM,NG,L2,Ll];rw[AB (by omega) (by omega),AP (by omega) (by simp;omega),AB (by omega) (by omega)]
   cases hd:decide (1<e.fLeft) with
   | true=>
    rw[AF (by simp at hd ⊢;omega)];rfl
   | false=>
    rw[A0 (by simp at hd ⊢;omega),AB (by omega) (by omega),Ca (by omega) (by simp;omega),UN];rfl
  rw[B7,hb1]
  cases hd:decide (1<e.fLeft) with
  | true=>exact⟨_,rfl,by simp[B5,EO,Nh,hd,hxs]⟩
  | false=>
   obtain⟨o,ho1,ho2⟩:=MR S F (by omega) (λe he=>hb e (by simp[he])) (by omega);rw[hxs] at ho1;exact⟨o,ho1,by rw[ho2];simp[Nh,hd]⟩
theorem NZ {S:List A7}{F:Nat}(hF:S.length<F)(hb:∀e∈S,1≤e.fLeft∧e.fLeft≤9223372036854775807)(hl:S.length≤4611686018427387904):Lw F S.reverse=some (Nh S).reverse:=by
 obtain⟨o,h1,h2⟩:=MR S F hF hb hl;unfold Lw;rw[AI h1,h2]
def Mx (s:Af):Int:=s.length+2+s.count 34+s.count 92
theorem NV {s:Af}(hs:s.length≤1152921504606846976):Ka s=some (Mx s):=by
 have h1:s.count 34≤s.length:=List.count_le_length;have h2:s.count 92≤s.length:=List.count_le_length;unfold Ka Lib.countByte;rw[AB (by omega) (by omega),AB (by omega) (by omega),AB (by omega) (by omega)];rfl
def szc (c:Aa):Int:=
 bif decide (c.fKind=1) then 4 else bif decide (c.fKind=2) then IntKind.wrap .i64 (5-c.fInt) else bif decide (c.fKind=3) then((Lib.itoa c.fInt).length:Int) else
 bif decide (c.fKind=4) then Mx c.fStr else IntKind.wrap .i64 (2+max 0 (IntKind.wrap .i64 (c.fN-1)))
theorem Rc {c:Aa}(hs:c.fStr.length≤1152921504606846976)(hi:B9 .i64 c.fInt=true):Rd c=some (szc c):=by
 unfold Rd szc;rw[NV hs];refine EG rfl (EG rfl (EG ?_ (EG rfl rfl)));rw[BL hi]
def Jx (d:Nat)(sh:AL)(c:Aa):AL:=
 ⟨max sh.fDepth ((d:Int)+1),IntKind.wrap .i64 (sh.fBytes+szc c),sh.fOutside||(decide (c.fKind=3)&&!(decide ((-1000000000000)≤c.fInt)&&decide (c.fInt≤1000000000000))),sh.fLong||decide (200<(c.fStr.length:Int))⟩
def shk (sh:AL)(c:Aa):AL:=⟨sh.fDepth,IntKind.wrap .i64 (sh.fBytes+(Mx c.fStr+1)),sh.fOutside,sh.fLong||decide (200<(c.fStr.length:Int))⟩
def M7:List A7→Bool
 | []=>false
 | e::_=>e.fKey
abbrev QP:=List A7×Int×AL
abbrev LkO:=Out (Int×AL×Bool) AL
def SE (n:Int)(S:List A7)(i:Int)(sh:AL)(c:Aa):Stp QP LkO:=
 bif !pl c then .out (.ret (0,sh,false)) else
 match S with
 | e::S'=>
  bif e.fKey then
   bif !decide (c.fKind=4)||(e.fStarted&&(BE c.fStr e.fLast||decide (c.fStr=e.fLast))) then .out (.ret (0,sh,false))
   else .next ((⟨e.fPairs,e.fLeft,false,c.fStr,true⟩::S').reverse,i+1,shk sh c)
  else bif decide (0<c.fN) then
   bif decide (n<c.fN) then .out (.ret (0,Jx S.length sh c,false))
   else .next ((⟨decide (c.fKind=6),c.fN,decide (c.fKind=6),[],false⟩::S).reverse,i+1,Jx S.length sh c)
  else bif decide (Nh S=[]) then .out (.ret (i+1,Jx S.length sh c,true)) else .next ((Nh S).reverse,i+1,Jx S.length sh c)
 | []=>
  bif decide (0<c.fN) then
   bif decide (n<c.fN) then .out (.ret (0,Jx 0 sh c,false))
   else .next ([⟨decide (c.fKind=6),c.fN,decide (c.fKind=6),[],false⟩],i+1,Jx 0 sh c)
  else .out (.ret (i+1,Jx 0 sh c,true))
theorem OV {S:List A7}:decide (((Nh S).reverse.length:Int)=0)=decide (Nh S=[]):=by
 rw[AcT];simp
theorem AbQ {α:Type}{xs:List α}{e x:α}{M:Nat}(h:xs.length+1≤M)(hM2:(M+2)*48≤140737488355328):Dw 48 ((xs++[e]).length+([x]:List α).length)=true:=by
 refine AcC (Nat.le_trans (Nat.mul_le_mul_right 48 ?_) hM2);rw[AcF,Ade,Ade];omega
set_option maxHeartbeats 600000 in
theorem Ri {F:Nat}{v:List Aa}{S:List A7}{i:Int}{sh:AL}{c:Aa}(h0:0≤i)(hc:v[i.toNat]? =some c){M:Nat}(hM:M≤1152921504606846976)(hM2:(M+2)*48≤140737488355328)(hv:v.length≤M)(hS:S.length≤M)(hF:M<F)
  (hs:c.fStr.length≤M) (hi:B9 .i64 c.fInt=true) (hb:∀e∈S,1≤e.fLeft∧e.fLeft≤9223372036854775807):Ef F v S.reverse i sh=some (SE v.length S i sh c):=by
 have hil:i.toNat<v.length:=(List.getElem?_eq_some_iff.1 hc).1;have hat:Ao v i=c:=by simp[Ao,hc]
 unfold Ef SE;rw[AF (by simp;omega),AP h0 (by omega),hat,UF (by omega) (by omega),AI rfl]
 cases hp:pl c with
 | false=>rw[AF (by simp)];rfl
 | true=>
  rw[A0 (by simp)]
  cases S with
  | nil=>
   rw[BL (by simp[imp]),BL (by simp[imp]),A0 (by simp),AB (by simp) (by simp),Rc (by omega) hi,AI rfl,BL (by simp[imp,BD])];simp only[BD,ov,Adj,AcP,AcD]
   cases hn:decide (0<c.fN) with
   | true=>
    rw[AF rfl]
    cases hm:decide ((v.length:Int)<c.fN) with
    | true=>rw[AF rfl];simp[Jx]
    | false=>rw[A0 rfl,BL (by simp[Dw])];unfold EB;rw[AB (by omega) (by omega)];simp[Jx]
   | false=>
    rw[A0 rfl,AI (NZ (S:=[]) (by simp;omega) (by simp) (by simp)),AF (by simp[Nh]),AB (by omega) (by omega)];simp[Jx]
  | cons e S'=>
   have hx:S'.reverse.length=S'.length:=by simp
   generalize hxs:S'.reverse=xs at hx;have hr:(e::S').reverse=xs++[e]:=by simp[hxs]
   simp only[AcE] at hS;have hlen:((xs++[e]).length:Int)=(xs.length:Int)+1:=by simp
   rw[hr,BL (by simp only[imp,LM];rw[HE (by omega) (by omega)];simp),BL (by simp only[imp,LM];rw[Q7 (by omega) (by omega)];simp)];rw[LM,NG]
   cases hk:e.fKey with
   | true=>
    rw[AF (by simp),AB (by omega) (by omega),AP (by omega) (by omega)];simp only[hk,AcP,AcD,AcH]
    cases ht : !decide (c.fKind=4)||(e.fStarted&&(BE c.fStr e.fLast||decide (c.fStr=e.fLast))) with
    | true=>rw[AF rfl];rfl
    | false=>
     rw[A0 rfl,L2,Ll,NG,L2,Ll,NG,L2,Ll,NV (by omega),AI rfl,AB (by unfold Mx;omega) (by unfold Mx;have:=@List.count_le_length UInt8 _ 34 c.fStr;have:=@List.count_le_length UInt8 _ 92 c.fStr;omega)];unfold EB;rw[AB (by omega) (by omega)];simp[shk,hxs]
   | false=>
    rw[A0 (by simp),hlen,AB (by omega) (by omega),Rc (by omega) hi,AI rfl,BL (by simp[imp,BD])];simp only[hk,BD,ov,Adj,AcP,AcD,AcH]
    cases hn:decide (0<c.fN) with
    | true=>
     rw[AF rfl]
     cases hm:decide ((v.length:Int)<c.fN) with
     | true=>rw[AF rfl];simp[Jx,hx]
     | false=>rw[A0 rfl,BL (AbQ (by omega) hM2)];unfold EB;rw[AB (by omega) (by omega)];simp[Jx,hx,hxs]
    | false=>
     have hcl:=NZ (S:=e::S') (F:=F) (by simp;omega) hb (by simp;omega);rw[hr] at hcl;rw[A0 rfl,hcl,AI rfl,OV]
     cases hq:decide (Nh (e::S')=[]) with
     | true=>rw[AF rfl,AB (by omega) (by omega)];simp[Jx,hx]
     | false=>rw[A0 rfl];unfold EB;rw[AB (by omega) (by omega)];simp[Jx,hx]
section
variable {S O : Type} {body : S → Option (Stp S O)} {s t u : S} {o : O}
def EH (body:S→Option (Stp S O))(s t:S):Prop:=∃k,∀n,B7 body (n+k) s=B7 body n t
def Fin (body:S→Option (Stp S O))(s:S)(o:O):Prop:=∃k,∀n,B7 body (n+k) s=some o
theorem EH.refl (s:S):EH body s s:=⟨0,λ_=>rfl⟩
theorem EH.trans (h:EH body s t)(h':EH body t u):EH body s u:=by
 obtain⟨k,hk⟩:=h;obtain⟨j,hj⟩:=h';exact⟨j+k,λn=>by rw[← Nat.add_assoc,hk,hj]⟩
theorem EH.step (h:body s=some (.next t)):EH body s t:=⟨1,λn=>by rw[B7,h]⟩
theorem Fin.step (h:body s=some (.out o)):Fin body s o:=⟨1,λn=>by rw[B7,h]⟩
theorem EH.fin (h:EH body s t)(h':Fin body t o):Fin body s o:=by
 obtain⟨k,hk⟩:=h;obtain⟨j,hj⟩:=h';exact⟨j+k,λn=>by rw[← Nat.add_assoc,hk,hj]⟩
end
inductive Fo where
 | nil
 | cell (k:Option Af) (c:Aa) (r:Fo)
 | node (k:Option Af) (c:Aa) (kids r:Fo)
def Bu:Option Af→List Aa
 | none=>[]
 | some s=>[⟨4,0,s,0⟩]
def Fo.flat:Fo→List Aa
 | .nil=>[]
 | .cell k c r=>Bu k++c::r.flat
 | .node k c kids r=>Bu k++c::(kids.flat++r.flat)
def Fo.cnt:Fo→Nat
 | .nil=>0
 | .cell _ _ r=>r.cnt+1
 | .node _ _ _ r=>r.cnt+1
def B1 (m:Bool)(last:Option Af):Option Af→Bool
 | none=>!m
 | some s=>m&&s.all K6&&(match last with
  | none=>true
  | some p=>!(BE s p||decide (s=p)))
def Fo.wf:Bool→Option Af→Fo→Bool
 | _,_,.nil=>true
 | m,last,.cell k c r=>B1 m last k&&pl c&&!decide (0<c.fN)&&r.wf m k
 | m,last,.node k c kids r=>B1 m last k&&pl c&&decide (0<c.fN)&&decide (c.fN=kids.cnt)&&kids.wf (decide (c.fKind=6)) none&&r.wf m k
def MU (k:Option Af)(sh:AL):AL:=match k with
 | none=>sh
 | some s=>shk sh ⟨4,0,s,0⟩
def Fo.sh (d:Nat):AL→Fo→AL
 | s,.nil=>s
 | s,.cell k c r=>r.sh d (Jx d (MU k s) c)
 | s,.node k c kids r=>r.sh d (kids.sh (d+1) (Jx d (MU k s) c))
def Io (body:QP→Option (Stp QP LkO))(s:QP)(S:List A7)(i:Int)(sh:AL):Prop:=
 if Nh S=[] then Fin body s (.ret (i,sh,true)) else EH body s ((Nh S).reverse,i,sh)
theorem Io.of {body:QP→Option (Stp QP LkO)}{s t:QP}{S:List A7}{i:Int}{sh:AL}(h:EH body s t)(h':Io body t S i sh):Io body s S i sh:=by
 unfold Io at *
 split
 ·rename_i e;rw[Ad2 e] at h';exact h.fin h'
 ·rename_i e;rw[Adp e] at h';exact h.trans h'
theorem Io.pop {body:QP→Option (Stp QP LkO)}{s:QP}{e:A7}{S:List A7}{i:Int}{sh:AL}(h:Io body s (e::S) i sh)(h1:e.fLeft=1):Io body s S i sh:=by
 have:Nh (e::S)=Nh S:=by simp[Nh,h1]
 unfold Io at *;rw[this] at h;exact h
theorem Io.more {body:QP→Option (Stp QP LkO)}{s:QP}{e:A7}{S:List A7}{i:Int}{sh:AL}(h:Io body s (e::S) i sh)(h1:1<e.fLeft):EH body s ((⟨e.fPairs,e.fLeft-1,e.fPairs,e.fLast,e.fStarted⟩::S).reverse,i,sh):=by
 have:Nh (e::S)=⟨e.fPairs,e.fLeft-1,e.fPairs,e.fLast,e.fStarted⟩::S:=by simp[Nh,h1]
 unfold Io at *;rw[this,Adp (by simp)] at h;exact h
structure U0 (F M:Nat) (v:List Aa):Prop where
 hM:M≤1152921504606846976
 hM2:(M+2)*48≤140737488355328
 hv:v.length≤M
 hF:M<F
 hc:∀c∈v,c.fStr.length≤M∧B9 .i64 c.fInt=true∧c.fN≤9223372036854775807
abbrev RX (F:Nat)(v:List Aa):QP→Option (Stp QP LkO):=λσ=>Ef F v σ.1 σ.2.1 σ.2.2
def El (S:List A7):Prop:=∀e∈S,1≤e.fLeft∧e.fLeft≤9223372036854775807
section
variable {F M : Nat} {v : List Aa} {S : List A7} {i : Int} {sh : AL} {c : Aa} {r : List Aa} {e : A7}
theorem Ck (h0:0≤i)(h:v.drop i.toNat=c::r):v[i.toNat]? =some c∧v.drop (i+1).toNat=r∧i<v.length:=by
 have h1:(v.drop i.toNat)[0]? =some c:=by rw[h];rfl
 have h2:v[i.toNat]? =some c:=by simpa using h1
 have h3:=(List.getElem?_eq_some_iff.1 h2).1;refine⟨h2,?_,by omega⟩;rw[show(i+1).toNat=i.toNat+1 from by omega,← AdC,h];rfl
theorem round (hA:U0 F M v)(h0:0≤i)(h:v.drop i.toNat=c::r)(hS:(S.length:Int)≤i)(hb:El S):RX F v (S.reverse,i,sh)=some (SE v.length S i sh c):=by
 obtain⟨h1,_,h3⟩:=Ck h0 h;obtain⟨a,b,_⟩:=hA.hc c (AcO h1);have:=hA.hv;exact Ri h0 h1 hA.hM hA.hM2 hA.hv (by omega) hA.hF a b hb
def GS (e:A7):Option Af→A7
 | none=>e
 | some s=>⟨e.fPairs,e.fLeft,false,s,true⟩
def JL (e:A7):Option Af→Prop
 | none=>e.fStarted=false
 | some p=>e.fStarted=true∧e.fLast=p
theorem O9 (hA:U0 F M v)(h0:0≤i){k last:Option Af}(h:v.drop i.toNat=Bu k++r)(hS:(S.length:Int)+1≤i)(hb:El (e::S))(hk:B1 e.fKey last k=true)(hl:JL e last) :
  EH (RX F v) ((e::S).reverse,i,sh) ((GS e k::S).reverse,i+(Bu k).length,MU k sh):=by
 cases k with
 | none=>simpa[GS,Bu,MU] using EH.refl _
 | some s=>
  simp only[B1,AcG] at hk;obtain⟨⟨hm,hok⟩,hcmp⟩:=hk;refine EH.step ?_;rw[round hA h0 (by simpa[Bu] using h) (by simpa using hS) hb];have hp:pl ⟨4,0,s,0⟩=true:=by simp[pl,hok]
  have ht:(e.fStarted&&(BE s e.fLast||decide (s=e.fLast)))=false:=by
   cases last with
   | none=>simp only[JL] at hl;rw[hl];rfl
   | some p=>obtain⟨h1,h2⟩:=hl;rw[h1,h2];simpa using hcmp
  simp only[SE,hp,hm,ht,AcP,AcD,AcH,decide_true,Adi,Bool.or_self];rfl
theorem M6 {k last:Option Af}(hk:B1 e.fKey last k=true):(GS e k).fKey=false:=by
 cases k with
 | none=>simpa[GS,B1] using hk
 | some s=>rfl
theorem Ld (k:Option Af):(GS e k).fLeft=e.fLeft∧(GS e k).fPairs=e.fPairs:=by cases k<;>exact⟨rfl,rfl⟩
theorem M4 (hA:U0 F M v)(h0:0≤i)(h:v.drop i.toNat=c::r)(hS:(S.length:Int)≤i)(hb:El S)(hk:M7 S=false)(hp:pl c=true)(hn:decide (0<c.fN)=false) :
  Io (RX F v) (S.reverse,i,sh) S (i+1) (Jx S.length sh c):=by
 have hr:=round (sh:=sh) hA h0 h hS hb;unfold Io
 cases S with
 | nil=>
  rw[Ad2 (by simp[Nh])];refine Fin.step ?_;rw[hr];simp[SE,hp,hn]
 | cons e S=>
  simp only[M7] at hk
  split
  ·rename_i hc
   refine Fin.step ?_;rw[hr];simp[SE,hp,hn,hk,hc]
  ·rename_i hc
   refine EH.step ?_;rw[hr];simp[SE,hp,hn,hk,hc]
theorem Ko (hA:U0 F M v)(h0:0≤i)(h:v.drop i.toNat=c::r)(hS:(S.length:Int)≤i)(hb:El S)(hk:M7 S=false)(hp:pl c=true)(hn:decide (0<c.fN)=true)(hv:c.fN≤v.length) :
  EH (RX F v) (S.reverse,i,sh) ((⟨decide (c.fKind=6),c.fN,decide (c.fKind=6),[],false⟩::S).reverse,i+1,Jx S.length sh c):=by
 have hr:=round (sh:=sh) hA h0 h hS hb;have hv':decide ((v.length:Int)<c.fN)=false:=by simpa using hv
 refine EH.step ?_;rw[hr]
 cases S with
 | nil=>simp only[SE,hp,hn,hv',AcP,AcD,AcH];rfl
 | cons e S=>
  simp only[M7] at hk;simp only[SE,hp,hn,hv',hk,AcP,AcD,AcH]
theorem Cf:∀f:Fo,f.cnt≤f.flat.length
 | .nil=>AcY _
 | .cell k c r=>by have:=Cf r;simp[Fo.cnt,Fo.flat];omega
 | .node k c kids r=>by have:=Cf r;simp[Fo.cnt,Fo.flat];omega
theorem C4 {α:Type}{v xs r:List α}{i:Int}(h0:0≤i)(h:v.drop i.toNat=xs++r):v.drop (i+xs.length).toNat=r:=by
 rw[show(i+(xs.length:Int)).toNat=i.toNat+xs.length from by omega,← AdC,h,List.drop_left]
theorem Rr (hA:U0 F M v){e':A7}{s:QP}{k:Option Af}{r':Fo}
  (ih:∀(e:A7) (S:List A7) (i:Int) (sh:AL) (last:Option Af) (r:List Aa),1≤r'.cnt→r'.wf e.fPairs last=true→e.fKey=e.fPairs→e.fLeft=r'.cnt→JL e last→(e.fPairs=false→last=none)→v.drop i.toNat=r'.flat++r→0≤i→(S.length:Int)+1≤i→El S→
   Io (RX F v) ((e::S).reverse,i,sh) S (i+r'.flat.length) (r'.sh (S.length+1) sh))
  (hd:Io (RX F v) s (e'::S) i sh) (hl:e'.fLeft=r'.cnt+1) (hw:r'.wf e'.fPairs k=true) (hk:JL e' k) (hm:e'.fPairs=false→k=none) (hv:v.drop i.toNat=r'.flat++r) (h0:0≤i) (hS:(S.length:Int)+1≤i) (hb:El S) :
  Io (RX F v) s S (i+r'.flat.length) (r'.sh (S.length+1) sh):=by
 by_cases h1:r'.cnt=0
 ·cases r' with
  | nil=>simpa[Fo.flat,Fo.sh] using hd.pop (by rw[hl];rfl)
  | cell _ _ _=>simp[Fo.cnt] at h1
  | node _ _ _ _=>simp[Fo.cnt] at h1
 ·have:=hd.more (by omega);refine Io.of this (ih _ S i sh k r (by omega) hw rfl (by simp only;omega) ?_ hm hv h0 hS hb)
  cases k with
  | none=>exact hk
  | some p=>exact hk
theorem Le {k last:Option Af}(hl:JL e last)(hm:e.fPairs=false→last=none)(hk:B1 e.fPairs last k=true):JL (GS e k) k∧((GS e k).fPairs=false→k=none):=by
 cases k with
 | none=>
  have:e.fPairs=false:=by simpa[B1] using hk
  rw[hm this] at hl;exact⟨hl,λ_=>rfl⟩
 | some s=>
  refine⟨⟨rfl,rfl⟩,λh=>?_⟩;have h:e.fPairs=false:=h;simp[B1,h] at hk
theorem Nf (hA:U0 F M v):∀(f:Fo) (e:A7) (S:List A7) (i:Int) (sh:AL) (last:Option Af) (r:List Aa),1≤f.cnt→f.wf e.fPairs last=true→e.fKey=e.fPairs→e.fLeft=f.cnt→JL e last→(e.fPairs=false→last=none)→v.drop i.toNat=f.flat++r→0≤i→(S.length:Int)+1≤i→El S→
   Io (RX F v) ((e::S).reverse,i,sh) S (i+f.flat.length) (f.sh (S.length+1) sh):=by
 have hmax:∀(i:Int) (xs:List Aa),0≤i→v.drop i.toNat=xs→xs.length≤v.length:=λi xs _ h=>by rw[← h,Ad9];omega
 intro f
 induction f with
 | nil=>intro e S i sh last r h1;simp[Fo.cnt] at h1
 | cell k c r' ih=>
  intro e S i sh last r h1 hw hk hl hlo hm hv h0 hS hb;simp only[Fo.wf,AcG,AcV] at hw;obtain⟨⟨⟨w1,w2⟩,w3⟩,w4⟩:=hw;simp only[Fo.flat,AcU,Ads] at hv;have hcnt:=hmax i _ h0 hv;have hcf:=Cf r';simp only[AcF,AcE] at hcnt;have hvM:=hA.hv;have hMM:=hA.hM;simp only[Fo.cnt] at hl;have hb':El (e::S):=λx hx=>by
   rcases List.mem_cons.1 hx with rfl | hx
   ·constructor<;>omega
   ·exact hb x hx
  have hkr:=O9 (sh:=sh) hA h0 hv hS hb' (by rw[hk];exact w1) hlo;have hv1:=C4 h0 hv;obtain⟨kl,kp⟩:=Ld (e:=e) k;have hbk:El (GS e k::S):=λx hx=>by
   rcases List.mem_cons.1 hx with rfl | hx
   ·rw[kl];exact hb' e (by simp)
   ·exact hb x hx
  have hd:=M4 (sh:=MU k sh) hA (by omega) hv1 (by simp only[AcE];omega) hbk (M6 (by rw[hk];exact w1)) w2 w3;obtain⟨q1,q2⟩:=Le hlo hm w1;have hv2:=(Ck (by omega) hv1).2.1;have:=Rr hA ih (hd.of hkr) (by rw[kl,hl];rfl) (by rw[kp];exact w4) q1 q2 hv2 (by omega) (by omega) hb;simp only[Fo.flat,Fo.sh,AcF,AcE];rw[show i+((((Bu k).length+(r'.flat.length+1):Nat)):Int)=i+(Bu k).length+1+r'.flat.length from by omega];exact this
 | node k c kids r' ihk ih=>
  intro e S i sh last r h1 hw hk hl hlo hm hv h0 hS hb;simp only[Fo.wf,AcG,Ac9] at hw;obtain⟨⟨⟨⟨⟨w1,w2⟩,w3⟩,w5⟩,w6⟩,w4⟩:=hw;simp only[Fo.flat,AcU,Ads] at hv;have hcnt:=hmax i _ h0 hv;have hcf:=Cf r';have hck:=Cf kids;simp only[AcF,AcE] at hcnt;have hvM:=hA.hv;have hMM:=hA.hM;simp only[Fo.cnt] at hl;have hb':El (e::S):=λx hx=>by
   rcases List.mem_cons.1 hx with rfl | hx
   ·constructor<;>omega
   ·exact hb x hx
  have hkr:=O9 (sh:=sh) hA h0 hv hS hb' (by rw[hk];exact w1) hlo;have hv1:=C4 h0 hv;obtain⟨kl,kp⟩:=Ld (e:=e) k;have hbk:El (GS e k::S):=λx hx=>by
   rcases List.mem_cons.1 hx with rfl | hx
   ·rw[kl];exact hb' e (by simp)
   ·exact hb x hx
  have hn:=Ko (sh:=MU k sh) hA (by omega) hv1 (by simp only[AcE];omega) hbk (M6 (by rw[hk];exact w1)) w2 (by simpa using w3) (by omega);have hv2:=(Ck (by omega) hv1).2.1;have hd:=ihk ⟨decide (c.fKind=6),c.fN,decide (c.fKind=6),[],false⟩ (GS e k::S) (i+(Bu k).length+1) (Jx (S.length+1) (MU k sh) c) none _ (by omega) w6 rfl w5 rfl (λ_=>rfl) hv2 (by omega) (by simp only[AcE];omega) hbk;obtain⟨q1,q2⟩:=Le hlo hm w1;have hv3:=C4 (by omega) hv2;have:=Rr hA ih ((hd.of hn).of hkr) (by rw[kl,hl];rfl) (by rw[kp];exact w4) q1 q2 hv3 (by omega) (by omega) hb;simp only[Fo.flat,Fo.sh,AcF,AcE];rw[show i+((((Bu k).length+(kids.flat.length+r'.flat.length+1):Nat)):Int)=i+(Bu k).length+1+kids.flat.length+r'.flat.length from by omega];exact this
end
theorem RT {S O:Type}{body:S→Option (Stp S O)}{o:O}:∀{n:Nat} {s:S} (k:Nat),B7 body n s=some o→B7 body (n+k) s=some o
 | 0,s,k,h=>by cases h
 | n+1,s,k,h=>by
  rw[show n+1+k=n+k+1 from by omega,B7];rw[B7] at h
  cases hb:body s with
  | none=>rw[hb] at h;cases h
  | some t=>
   rw[hb] at h
   cases t with
   | next s'=>exact RT k h
   | out o'=>exact h
theorem Fin.eq {S O:Type}{body:S→Option (Stp S O)}{s:S}{o o':O}{n:Nat}(h:Fin body s o)(h':B7 body n s=some o'):o'=o:=by
 obtain⟨k,hk⟩:=h;have:=RT k h';rw[hk n] at this;exact(Aw this).symm
theorem Qb:∀{S:List A7},El S→El (Nh S)∧(Nh S).length≤S.length
 | [],h=>⟨h,AcY _⟩
 | e::S,h=>by
  have hS:El S:=λx hx=>h x (by simp[hx]);have he:=h e (by simp);unfold Nh
  cases hd:decide (1<e.fLeft) with
  | true=>
   simp only[Ac9] at hd;refine⟨λx hx=>?_,by simp⟩;rcases List.mem_cons.1 hx with rfl | hx
   ·simp only;omega
   ·exact hS x hx
  | false=>
   obtain⟨h1,h2⟩:=Qb hS;exact⟨h1,by simp only[AcD,AcE];omega⟩
theorem XF {n:Int}{S:List A7}{i:Int}{sh:AL}{c:Aa}{σ:QP}(hb:El S)(hS:(S.length:Int)≤i)(hN:c.fN≤9223372036854775807)(h:SE n S i sh c = .next σ):∃S' sh',σ=(S'.reverse,i+1,sh')∧El S'∧(S'.length:Int)≤i+1:=by
 unfold SE at h
 cases hp:pl c with
 | false=>simp[hp] at h
 | true=>
  simp only[hp,AcP,AcD] at h
  cases S with
  | nil=>
   simp only at h
   cases hn:decide (0<c.fN) with
   | false=>simp[hn] at h
   | true=>
    simp only[hn,AcH] at h
    cases hm:decide (n<c.fN) with
    | true=>simp[hm] at h
    | false=>
     simp only[hm,AcD,Stp.next.injEq] at h;refine⟨[_],_,h.symm,λx hx=>?_,by simp at hS ⊢;omega⟩;simp only[Adm] at hx;subst hx;simp only[Ac9] at hn;exact⟨by simp only;omega,hN⟩
  | cons e S=>
   have he:=hb e (by simp);have hbS:El S:=λx hx=>hb x (by simp[hx]);simp only[AcE] at hS
   cases hk:e.fKey with
   | true=>
    simp only[hk,AcH] at h
    cases hq:(!decide (c.fKind=4)||(e.fStarted&&(BE c.fStr e.fLast||decide (c.fStr=e.fLast)))) with
    | true=>rw[hq] at h;simp at h
    | false=>
     rw[hq] at h;simp only[AcD,Stp.next.injEq] at h;refine⟨_::S,_,h.symm,λx hx=>?_,by simp only[AcE];omega⟩;rcases List.mem_cons.1 hx with rfl | hx
     ·exact he
     ·exact hbS x hx
   | false=>
    simp only[hk,AcD] at h
    cases hn:decide (0<c.fN) with
    | true=>
     simp only[hn,AcH] at h
     cases hm:decide (n<c.fN) with
     | true=>simp[hm] at h
     | false=>
      simp only[hm,AcD,Stp.next.injEq] at h;refine⟨_::e::S,_,h.symm,λx hx=>?_,by simp only[AcE];omega⟩;rcases List.mem_cons.1 hx with rfl | hx
      ·simp only[Ac9] at hn;exact⟨by simp only;omega,hN⟩
      ·exact hb x hx
    | false=>
     simp only[hn,AcD] at h
     cases hq:decide (Nh (e::S)=[]) with
     | true=>rw[hq] at h;simp at h
     | false=>
      rw[hq] at h;simp only[AcD,Stp.next.injEq] at h;obtain⟨h1,h2⟩:=Qb hb;simp only[AcE] at h2;exact⟨_,_,h.symm,h1,by omega⟩
theorem O4 {F M:Nat}{v:List Aa}(hA:U0 F M v):∃o,B7 (RX F v) F (([]:List A7),0,(⟨0,0,false,false⟩:AL))=some o∧True:=by
 refine Gj (λσ=>∃S i sh,σ=(S.reverse,i,sh)∧El S∧(S.length:Int)≤i∧0≤i∧i≤v.length) (λσ=>v.length-σ.2.1.toNat) (λ_=>True) (λσ hI=>?_) F _ ⟨[],0,_,rfl,(λx hx=>by cases hx),AcX _,AcX _,by omega⟩ (by have:=hA.hv;have:=hA.hF;simp;omega);obtain⟨S,i,sh,rfl,hb,hS,h0,hi⟩:=hI
 by_cases hx:i<v.length
 ·obtain⟨c,hc⟩:∃c,v[i.toNat]? =some c:=⟨v[i.toNat]'(by omega),AcL (by omega)⟩
  have hdr:v.drop i.toNat=c::v.drop (i.toNat+1):=by rw[List.drop_eq_getElem_cons (by omega)];congr 1;exact(List.getElem?_eq_some_iff.1 hc).2
  have hr:=round (sh:=sh) hA h0 hdr hS hb
  cases hl:SE v.length S i sh c with
  | next τ=>
   obtain⟨S',sh',rfl,h1,h2⟩:=XF hb hS (hA.hc c (AcO hc)).2.2 hl;exact .inl ⟨_,by rw[hr,hl],⟨S',i+1,sh',rfl,h1,h2,by omega,by omega⟩,by simp only;omega⟩
  | out o=>exact .inr ⟨o,by rw[hr,hl],trivial⟩
 ·refine .inr ⟨.go sh,?_,trivial⟩;show Ef F v S.reverse i sh=_;unfold Ef;rw[A0 (by simpa using hx)]
def Fo.one:Fo→Bool
 | .cell none _ .nil=>true
 | .node none _ _ .nil=>true
 | _=>false
def Og:AL:=⟨0,0,false,false⟩
theorem XD {F M:Nat}{v:List Aa}(hA:U0 F M v){f:Fo}(h1:f.one=true)(hw:f.wf false none=true){r:List Aa}(hv:v=f.flat++r):Fin (RX F v) ([],0,Og) (.ret (f.flat.length,f.sh 0 Og,true)):=by
 have h0:v.drop (0:Int).toNat=f.flat++r:=by rw[hv];rfl
 have hlen:f.flat.length≤v.length:=by rw[hv];simp
 cases f with
 | nil=>cases h1
 | cell k c r'=>
  cases k with
  | some s=>cases h1
  | none=>
   cases r' with
   | nil=>
    simp only[Fo.wf,AcG,AcV] at hw;have:=M4 (S:=[]) (sh:=Og) hA (AcX 0) h0 (by simp) (λx hx=>by cases hx) rfl hw.1.1.2 hw.1.2;unfold Io at this;rw[Ad2 (show Nh []=[] from rfl)] at this;simpa[Fo.flat,Fo.sh,Bu,MU] using this
   | cell _ _ _=>cases h1
   | node _ _ _ _=>cases h1
 | node k c kids r'=>
  cases k with
  | some s=>cases h1
  | none=>
   cases r' with
   | nil=>
    simp only[Fo.wf,AcG,Ac9] at hw;obtain⟨⟨⟨⟨⟨w1,w2⟩,w3⟩,w5⟩,w6⟩,w4⟩:=hw;have hck:=Cf kids;simp only[Fo.flat,Bu,Adg,Adk,AcE] at hlen;have hvM:=hA.hv;have hMM:=hA.hM;have hn:=Ko (S:=[]) (sh:=Og) hA (AcX 0) h0 (by simp) (λx hx=>by cases hx) rfl w2 (by simpa using w3) (by omega);have hv2:=(Ck (AcX 0) h0).2.1;have hd:=Nf hA kids ⟨decide (c.fKind=6),c.fN,decide (c.fKind=6),[],false⟩ [] (0+1) (Jx 0 Og c) none r (by omega) w6 rfl w5 rfl (λ_=>rfl) (by rw[hv2];simp[Fo.flat]) (by omega) (by simp) (λx hx=>by cases hx);unfold Io at hd;rw[Ad2 (show Nh []=[] from rfl)] at hd;have:=hn.fin hd;have e:((0:Int)+1+kids.flat.length)=((Fo.node none c kids .nil).flat.length:Int):=by simp[Fo.flat,Bu];omega
    rw[e] at this;exact this
   | cell _ _ _=>cases h1
   | node _ _ _ _=>cases h1
theorem RW {F M:Nat}{v:List Aa}(hA:U0 F M v){f:Fo}(h1:f.one=true)(hw:f.wf false none=true){r:List Aa}(hv:v=f.flat++r):Jn F v=some ((f.flat.length:Int),f.sh 0 Og,true):=by
 obtain⟨o,ho,_⟩:=O4 hA;have e:=(XD hA h1 hw hv).eq ho;subst e;unfold Jn;rw[AI ho];rfl
def IZ (m:Bool)(last:Option Af)(xs:List Aa):Option (Option Af×List Aa):=
 bif m then match xs with
  | []=>none
  | c::r=>bif pl c&&decide (c.fKind=4)&&B1 true last (some c.fStr) then some (some c.fStr,r) else none
 else some (none,xs)
def IQ:Nat→Bool→Option Af→Nat→List Aa→Option (Fo×List Aa)
 | 0,_,_,_,_=>none
 | _+1,_,_,0,xs=>some (.nil,xs)
 | F+1,m,last,k+1,xs=>
  match IZ m last xs with
  | none=>none
  | some (_,[])=>none
  | some (key,c::xs')=>
   bif !pl c then none else
   bif decide (0<c.fN) then
    match IQ F (decide (c.fKind=6)) none c.fN.toNat xs' with
    | none=>none
    | some (kids,ys)=>match IQ F m key k ys with
     | none=>none
     | some (r,zs)=>some (.node key c kids r,zs)
   else match IQ F m key k xs' with
    | none=>none
    | some (r,zs)=>some (.cell key c r,zs)
theorem Qx {c:Aa}(hp:pl c=true)(hk:c.fKind=4):c=⟨4,0,c.fStr,0⟩∧c.fStr.all K6=true:=by
 cases c
 simp only at hk;subst hk;simp[pl] at hp;obtain⟨h1,h2,h3⟩:=hp;subst h1;subst h2;exact⟨rfl,by simpa using h3⟩
theorem N2 {m:Bool}{last key:Option Af}{xs r:List Aa}(h:IZ m last xs=some (key,r)):xs=Bu key++r∧B1 m last key=true:=by
 unfold IZ at h
 cases m with
 | false=>cases h;exact⟨rfl,rfl⟩
 | true=>
  simp only[AcH] at h
  cases xs with
  | nil=>cases h
  | cons c r'=>
   simp only at h
   cases hb:(pl c&&decide (c.fKind=4)&&B1 true last (some c.fStr)) with
   | false=>rw[hb] at h;cases h
   | true=>
    rw[hb] at h;simp only[AcG,Ac9] at hb
    cases h
    exact⟨by rw[(Qx hb.1.1 hb.1.2).1];rfl,hb.2⟩
theorem Ic:∀(F:Nat) (m:Bool) (last:Option Af) (k:Nat) (xs:List Aa) (f:Fo) (ys:List Aa),IQ F m last k xs=some (f,ys)→xs=f.flat++ys∧f.wf m last=true∧f.cnt=k
 | 0,_,_,_,_,_,_,h=>by cases h
 | F+1,m,last,0,xs,f,ys,h=>by cases h;exact⟨rfl,rfl,rfl⟩
 | F+1,m,last,k+1,xs,f,ys,h=>by
  rw[IQ] at h
  cases hk:IZ m last xs with
  | none=>rw[hk] at h;cases h
  | some p=>
   obtain⟨key,r⟩:=p;obtain⟨h1,h2⟩:=N2 hk;rw[hk] at h
   cases r with
   | nil=>cases h
   | cons c xs'=>
    simp only at h
    cases hp:pl c with
    | false=>rw[hp] at h;cases h
    | true=>
     rw[hp] at h;simp only[AcP,AcD] at h
     cases hn:decide (0<c.fN) with
     | true=>
      rw[hn] at h;simp only[AcH] at h
      cases hq:IQ F (decide (c.fKind=6)) none c.fN.toNat xs' with
      | none=>rw[hq] at h;cases h
      | some q=>
       obtain⟨kids,zs⟩:=q;rw[hq] at h;simp only at h
       cases hr:IQ F m key k zs with
       | none=>rw[hr] at h;cases h
       | some q2=>
        obtain⟨r2,us⟩:=q2;rw[hr] at h;cases h;obtain⟨a1,a2,a3⟩:=Ic F _ _ _ _ _ _ hq;obtain⟨b1,b2,b3⟩:=Ic F _ _ _ _ _ _ hr;refine⟨by rw[h1,a1,b1];simp[Fo.flat],?_,by simp[Fo.cnt,b3]⟩;simp only[Ac9] at hn;simp only[Fo.wf,h2,hp,a2,b2,AcZ,AcQ,AcG,Ac9];omega
     | false=>
      rw[hn] at h;simp only[AcD] at h
      cases hr:IQ F m key k xs' with
      | none=>rw[hr] at h;cases h
      | some q2=>
       obtain⟨r2,us⟩:=q2;rw[hr] at h;cases h;obtain⟨b1,b2,b3⟩:=Ic F _ _ _ _ _ _ hr;exact⟨by rw[h1,b1];simp[Fo.flat],by simp[Fo.wf,h2,hp,b2,hn],by simp[Fo.cnt,b3]⟩
theorem I4:∀(F F':Nat) (m:Bool) (last:Option Af) (k:Nat) (xs:List Aa),xs.length<F→xs.length<F'→IQ F m last k xs=IQ F' m last k xs
 | 0,_,_,_,_,_,h,_=>by omega
 | _+1,0,_,_,_,_,_,h=>by omega
 | F+1,F'+1,m,last,0,xs,_,_=>rfl
 | F+1,F'+1,m,last,k+1,xs,h,h'=>by
  rw[IQ,IQ]
  cases hk:IZ m last xs with
  | none=>rfl
  | some p=>
   obtain⟨key,r⟩:=p;obtain⟨h1,h2⟩:=N2 hk
   cases r with
   | nil=>rfl
   | cons c xs'=>
    have hl:xs'.length<xs.length:=by rw[h1];simp;omega
    simp only
    cases hp:pl c with
    | false=>rfl
    | true=>
     simp only[AcP,AcD]
     cases hn:decide (0<c.fN) with
     | true=>
      simp only[AcH];rw[I4 F F' _ _ _ xs' (by omega) (by omega)]
      cases hq:IQ F' (decide (c.fKind=6)) none c.fN.toNat xs' with
      | none=>rfl
      | some q=>
       obtain⟨kids,zs⟩:=q;have:=(Ic _ _ _ _ _ _ _ hq).1;have hz:zs.length≤xs'.length:=by rw[this];simp
       simp only;rw[I4 F F' m key k zs (by omega) (by omega)]
     | false=>
      simp only[AcD];rw[I4 F F' m key k xs' (by omega) (by omega)]
def T2 {S:Type}(body:S→Option (Stp S LkO))(s:S):Prop:=∃sh',Fin body s (.ret (0,sh',false))∨Fin body s (.go sh')
theorem EH.bad {S:Type}{body:S→Option (Stp S LkO)}{s t:S}(h:EH body s t)(h':T2 body t):T2 body s:=by
 obtain⟨sh',h' | h'⟩:=h'
 ·exact⟨sh',.inl (h.fin h')⟩
 ·exact⟨sh',.inr (h.fin h')⟩
section
variable {F M : Nat} {v : List Aa}
theorem T2.end_ {S:List A7}{i:Int}{sh:AL}(h0:0≤i)(h:v.drop i.toNat=[]):T2 (RX F v) (S.reverse,i,sh):=by
 refine⟨sh,.inr (Fin.step ?_)⟩;show Ef F v S.reverse i sh=_;unfold Ef;rw[A0];have:v.length≤i.toNat:=by simpa using h
 simp;omega
theorem T2.pl_ (hA:U0 F M v){S:List A7}{i:Int}{sh:AL}{c:Aa}{r:List Aa}(h0:0≤i)(h:v.drop i.toNat=c::r)(hS:(S.length:Int)≤i)(hb:El S)(hp:pl c=false):T2 (RX F v) (S.reverse,i,sh):=by
 refine⟨sh,.inl (Fin.step ?_)⟩;rw[round hA h0 h hS hb];simp[SE,hp]
theorem Ts (hA:U0 F M v):∀(P:Nat) (k:Nat) (e:A7) (S:List A7) (i:Int) (sh:AL) (last:Option Af) (xs:List Aa),xs.length<P→IQ P e.fPairs last (k+1) xs=none→e.fKey=e.fPairs→e.fLeft=(k:Int)+1→(k:Int)+1≤9223372036854775807→JL e last→(e.fPairs=false→last=none)→v.drop i.toNat=xs→0≤i→(S.length:Int)+1≤i→El S→
  T2 (RX F v) ((e::S).reverse,i,sh):=by
 intro P
 induction P with
 | zero=>intro k e S i sh last xs h;omega
 | succ P ih=>
  intro k e S i sh last xs hP hn hk hl hkm hlo hm hv h0 hS hb;have hb':El (e::S):=λx hx=>by
   rcases List.mem_cons.1 hx with rfl | hx
   ·constructor<;>omega
   ·exact hb x hx
  rw[IQ] at hn
  cases hq:IZ e.fPairs last xs with
  | none=>
   unfold IZ at hq
   cases hpr:e.fPairs with
   | false=>rw[hpr] at hq;cases hq
   | true=>
    rw[hpr] at hq hk;simp only[AcH] at hq
    cases xs with
    | nil=>exact T2.end_ h0 hv
    | cons c r=>
     simp only at hq
     cases hp:pl c with
     | false=>exact T2.pl_ hA h0 hv (by simpa using hS) hb' hp
     | true=>
      refine⟨sh,.inl (Fin.step ?_)⟩;rw[round hA h0 hv (by simpa using hS) hb'];have ht:(!decide (c.fKind=4)||(e.fStarted&&(BE c.fStr e.fLast||decide (c.fStr=e.fLast))))=true:=by
       rw[hp] at hq
       cases h4:decide (c.fKind=4) with
       | false=>rfl
       | true=>
        rw[h4] at hq;simp only[Bool.and_self,AcQ] at hq;have hok:=(Qx hp (by simpa using h4)).2
        cases last with
        | none=>simp[B1,hok] at hq
        | some p=>
         obtain⟨q1,q2⟩:=hlo;rw[q1,q2]
         cases hc:(BE c.fStr p||decide (c.fStr=p)) with
         | true=>rfl
         | false=>simp[B1,hok,hc] at hq
      simp only[SE,hp,hk,ht,AcP,AcD,AcH]
  | some q=>
   obtain⟨key,r⟩:=q;obtain⟨h1,h2⟩:=N2 hq;rw[hq] at hn;have hkr:=O9 (sh:=sh) hA h0 (by rw[hv];exact h1) hS hb' (by rw[hk];exact h2) hlo;have hv1:=C4 h0 (hv.trans h1);obtain⟨kl,kp⟩:=Ld (e:=e) key;obtain⟨q1,q2⟩:=Le hlo hm h2;have hbk:El (GS e key::S):=λx hx=>by
    rcases List.mem_cons.1 hx with rfl | hx
    ·rw[kl];exact hb' e (by simp)
    ·exact hb x hx
   refine hkr.bad ?_
   cases r with
   | nil=>exact T2.end_ (by omega) hv1
   | cons c xs'=>
    have hlen:xs'.length+1≤xs.length:=by rw[h1];simp
    have hvl:xs.length≤v.length:=by rw[← hv,Ad9];omega
    have hvM:=hA.hv;have hMM:=hA.hM;have hkk:=M6 (e:=e) (last:=last) (k:=key) (by rw[hk];exact h2);simp only at hn;have hSk:(((GS e key::S).length:Nat):Int)≤i+(Bu key).length:=by simp only[AcE];omega
    cases hp:pl c with
    | false=>exact T2.pl_ hA (by omega) hv1 hSk hbk hp
    | true=>
     rw[hp] at hn;simp only[AcP,AcD] at hn;obtain⟨g1,g2,g3⟩:=Ck (by omega) hv1;have hcN:=(hA.hc c (AcO g1)).2.2;have more:∀(s:QP) (j:Int) (sh':AL) (zs:List Aa),Io (RX F v) s (GS e key::S) j sh'→v.drop j.toNat=zs→zs.length<P→0≤j→(S.length:Int)+1≤j→IQ P e.fPairs key k zs=none→T2 (RX F v) s:=λs j sh' zs hd hz hzl hj hSj hnone=>by
      cases k with
      | zero=>
       cases P with
       | zero=>omega
       | succ P=>cases hnone
      | succ k=>
       have:=hd.more (by rw[kl];omega);refine this.bad (ih k _ S j sh' key zs hzl (by rw[kp];exact hnone) rfl (by simp only[kl];omega) (by omega) ?_ (by simpa using q2) hz hj hSj hb)
       cases key with
       | none=>exact q1
       | some p=>exact q1
     cases hN:decide (0<c.fN) with
     | true=>
      rw[hN] at hn;simp only[AcH] at hn;simp only[Ac9] at hN
      by_cases hbig:c.fN≤v.length
      ·have hnd:=Ko (sh:=MU key sh) hA (by omega) hv1 hSk hbk (by simpa[M7] using hkk) hp (by simpa using hN) hbig;refine hnd.bad ?_
       cases hks:IQ P (decide (c.fKind=6)) none c.fN.toNat xs' with
       | none=>
        obtain⟨n',hn'⟩:∃n',c.fN.toNat=n'+1:=⟨c.fN.toNat-1,by omega⟩
        rw[hn'] at hks;exact ih n' _ _ _ _ none xs' (by omega) hks rfl (by simp only;omega) (by omega) rfl (λ_=>rfl) g2 (by omega) (by simp only[AcE];omega) hbk
       | some q=>
        obtain⟨kids,zs⟩:=q;rw[hks] at hn;simp only at hn;have hn2:IQ P e.fPairs key k zs=none:=by
         cases hz:IQ P e.fPairs key k zs with
         | none=>rfl
         | some q=>rw[hz] at hn;cases hn
        obtain⟨a1,a2,a3⟩:=Ic _ _ _ _ _ _ _ hks;have hd:=Nf hA kids ⟨decide (c.fKind=6),c.fN,decide (c.fKind=6),[],false⟩ (GS e key::S) (i+(Bu key).length+1) (Jx (S.length+1) (MU key sh) c) none zs (by omega) a2 rfl (by simp only;omega) rfl (λ_=>rfl) (by rw[g2];exact a1) (by omega) (by simp only[AcE];omega) hbk;have hz:v.drop (i+(Bu key).length+1+kids.flat.length).toNat=zs:=C4 (by omega) (g2.trans a1);have hzl:zs.length≤xs'.length:=by rw[a1];simp
        exact more _ _ _ zs hd hz (by omega) (by omega) (by omega) hn2
      ·refine⟨Jx (GS e key::S).length (MU key sh) c,.inl (Fin.step ?_)⟩;rw[round hA (by omega) hv1 hSk hbk];have hbig':decide ((v.length:Int)<c.fN)=true:=by simpa using hbig
       simp only[SE,hp,hkk,hbig',hN,AcP,AcD,AcH,decide_true]
     | false=>
      rw[hN] at hn;simp only[AcD] at hn;have hn2:IQ P e.fPairs key k xs'=none:=by
       cases hz:IQ P e.fPairs key k xs' with
       | none=>rfl
       | some q=>rw[hz] at hn;cases hn
      have hd:=M4 (sh:=MU key sh) hA (by omega) hv1 hSk hbk (by simpa[M7] using hkk) hp hN;exact more _ _ _ xs' hd g2 (by omega) (by omega) (by omega) hn2
def I6 (xs:List Aa):Option (Fo×List Aa):=IQ (xs.length+1) false none 1 xs
theorem TL {P:Nat}{xs ys:List Aa}{f:Fo}(h:IQ P false none 1 xs=some (f,ys)):f.one=true:=by
 obtain⟨h1,h2,h3⟩:=Ic _ _ _ _ _ _ _ h
 cases f with
 | nil=>cases h3
 | cell k c r=>
  cases r with
  | nil=>
   cases k with
   | none=>rfl
   | some s=>simp[Fo.wf,B1] at h2
  | cell _ _ _=>simp[Fo.cnt] at h3
  | node _ _ _ _=>simp[Fo.cnt] at h3
 | node k c kids r=>
  cases r with
  | nil=>
   cases k with
   | none=>rfl
   | some s=>simp[Fo.wf,B1] at h2
  | cell _ _ _=>simp[Fo.cnt] at h3
  | node _ _ _ _=>simp[Fo.cnt] at h3
theorem V2 (hA:U0 F M v)(h:I6 v=none):T2 (RX F v) ([],0,Og):=by
 have hlf:El []:=λx hx=>by cases hx
 unfold I6 at h;rw[IQ] at h;simp only[IZ,AcD] at h
 cases v with
 | nil=>exact T2.end_ (S:=[]) (AcX 0) rfl
 | cons c xs'=>
  have hv1:(c::xs').drop (0:Int).toNat=c::xs':=rfl;have hvM:=hA.hv;have hMM:=hA.hM;simp only at h
  cases hp:pl c with
  | false=>exact T2.pl_ (S:=[]) hA (AcX 0) hv1 (by simp) hlf hp
  | true=>
   rw[hp] at h;simp only[AcP,AcD] at h;have hcN:=(hA.hc c (by simp)).2.2
   cases hN:decide (0<c.fN) with
   | true=>
    rw[hN] at h;simp only[AcH] at h;simp only[Ac9] at hN
    by_cases hbig:c.fN≤(c::xs').length
    ·have hnd:=Ko (S:=[]) (sh:=Og) hA (AcX 0) hv1 (by simp) hlf rfl hp (by simpa using hN) hbig;refine hnd.bad ?_
     cases hks:IQ (c::xs').length (decide (c.fKind=6)) none c.fN.toNat xs' with
     | none=>
      obtain⟨n',hn'⟩:∃n',c.fN.toNat=n'+1:=⟨c.fN.toNat-1,by omega⟩
      rw[hn'] at hks;exact Ts hA (c::xs').length n' ⟨decide (c.fKind=6),c.fN,decide (c.fKind=6),[],false⟩ [] (0+1) _ none xs' (by simp) hks rfl (by simp only;omega) (by omega) rfl (λ_=>rfl) rfl (by omega) (by simp) hlf
     | some q=>rw[hks] at h;cases h
    ·refine⟨Jx 0 Og c,.inl (Fin.step ?_)⟩;rw[show RX F (c::xs') (([]:List A7),0,Og)=_ from round (S:=[]) hA (AcX 0) hv1 (by simp) hlf];have hbig':decide (((c::xs').length:Int)<c.fN)=true:=by simpa using hbig
     simp only[SE,hp,hbig',hN,AcP,AcD,AcH,decide_true]
   | false=>rw[hN] at h;cases h
theorem ZG (hA:U0 F M v):(∃f ys,I6 v=some (f,ys)∧Jn F v=some ((f.flat.length:Int),f.sh 0 Og,true))∨(I6 v=none∧∃sh',Jn F v=some (0,sh',false)):=by
 cases h:I6 v with
 | some q=>
  obtain⟨f,ys⟩:=q;obtain⟨h1,h2,h3⟩:=Ic _ _ _ _ _ _ _ h;exact .inl ⟨f,ys,rfl,RW hA (TL h) h2 h1⟩
 | none=>
  refine .inr ⟨rfl,?_⟩;obtain⟨o,ho,_⟩:=O4 hA;obtain⟨sh',hb | hb⟩:=V2 hA h
  ·have e:=hb.eq ho;subst e;exact⟨sh',by unfold Jn;rw[AI ho];rfl⟩
  ·have e:=hb.eq ho;subst e;exact⟨sh',by unfold Jn;rw[AI ho];rfl⟩
end
theorem JU {x:Int}(h : -9223372036854775808≤x)(h':x≤9223372036854775807):IntKind.wrap .i64 x=x:=by
 simp only[IntKind.wrap,IntKind.bits,IntKind.signed];simp;omega
def Fo.dep:Fo→Nat
 | .nil=>0
 | .cell _ _ r=>max 1 r.dep
 | .node _ _ kids r=>max (kids.dep+1) r.dep
theorem Hc (k:Option Af)(s:AL):(MU k s).fDepth=s.fDepth∧(MU k s).fOutside=s.fOutside∧(MU k s).fLong=(s.fLong||(Bu k).any λc=>decide (200<(c.fStr.length:Int))):=by
 cases k with
 | none=>simp[MU,Bu]
 | some x=>simp[MU,shk,Bu]
theorem Lz:∀(f:Fo) (d:Nat) (s:AL),(d:Int)≤s.fDepth→(f.sh d s).fDepth=max s.fDepth ((d:Int)+f.dep)
 | .nil,d,s,h=>by simp only[Fo.sh,Fo.dep];omega
 | .cell k c r,d,s,h=>by
  have hk:=(Hc k s).1;have e:(Jx d (MU k s) c).fDepth=max s.fDepth ((d:Int)+1):=by rw[Jx,hk]
  rw[Fo.sh,Lz r d _ (by rw[e];omega),e,Fo.dep];omega
 | .node k c kids r,d,s,h=>by
  have hk:=(Hc k s).1;have e:(Jx d (MU k s) c).fDepth=max s.fDepth ((d:Int)+1):=by rw[Jx,hk]
  have e2:=Lz kids (d+1) (Jx d (MU k s) c) (by rw[e];omega);rw[e] at e2;rw[Fo.sh,Lz r d _ (by rw[e2];omega),e2,Fo.dep];omega
def BT (c:Aa):Bool:=decide (c.fKind=3)&&!(decide ((-1000000000000)≤c.fInt)&&decide (c.fInt≤1000000000000))
def H8 (c:Aa):Bool:=decide (200<(c.fStr.length:Int))
theorem OA (k:Option Af):(Bu k).any BT=false:=by cases k<;>simp[Bu,BT]
theorem Qn:∀(f:Fo) (d:Nat) (s:AL),(f.sh d s).fOutside=(s.fOutside||f.flat.any BT)
 | .nil,d,s=>by simp[Fo.sh,Fo.flat]
 | .cell k c r,d,s=>by
  rw[Fo.sh,Qn r,Jx,(Hc k s).2.1];simp only[Fo.flat,List.any_append,List.any_cons,OA,AcW,Bool.or_assoc];rfl
 | .node k c kids r,d,s=>by
  rw[Fo.sh,Qn r,Qn kids,Jx,(Hc k s).2.1];simp only[Fo.flat,List.any_append,List.any_cons,OA,AcW,Bool.or_assoc];rfl
theorem Ny:∀(f:Fo) (d:Nat) (s:AL),(f.sh d s).fLong=(s.fLong||f.flat.any H8)
 | .nil,d,s=>by simp[Fo.sh,Fo.flat]
 | .cell k c r,d,s=>by
  rw[Fo.sh,Ny r,Jx,(Hc k s).2.2];simp only[Fo.flat,List.any_append,List.any_cons,Bool.or_assoc];rfl
 | .node k c kids r,d,s=>by
  rw[Fo.sh,Ny r,Ny kids,Jx,(Hc k s).2.2];simp only[Fo.flat,List.any_append,List.any_cons,Bool.or_assoc];rfl
def Wh (c:Aa):Int:=
 bif decide (c.fKind=1) then 4 else bif decide (c.fKind=2) then 5-c.fInt else bif decide (c.fKind=3) then((Lib.itoa c.fInt).length:Int) else
 bif decide (c.fKind=4) then Mx c.fStr else 2
def Q3:Option Af→Int
 | none=>0
 | some s=>Mx s+1
def Fo.byt:Fo→Int
 | .nil=>0
 | .cell k c r=>Q3 k+Wh c+r.byt
 | .node k c kids r=>Q3 k+(c.fN+1)+kids.byt+r.byt
theorem LA (s:Af):2≤Mx s:=by unfold Mx;omega
theorem N8 (k:Option Af):0≤Q3 k:=by
 cases k with
 | none=>exact AcX 0
 | some s=>have:=LA s;simp only[Q3];omega
theorem Uc {c:Aa}(hp:pl c=true):0≤Wh c:=by
 unfold Wh
 cases h1:decide (c.fKind=1) with
 | true=>simp
 | false=>
  cases h2:decide (c.fKind=2) with
  | true=>
   simp[pl,h1,h2] at hp;simp only[AcD,AcH];omega
  | false=>
   cases h3:decide (c.fKind=3) with
   | true=>simp
   | false=>
    cases h4:decide (c.fKind=4) with
    | true=>have:=LA c.fStr;simp only[AcD,AcH];omega
    | false=>simp
theorem Xf {c:Aa}(hp:pl c=true):0≤c.fN:=by
 simp only[pl,← Bool.decide_or] at hp
 cases h1:decide (c.fKind=1)<;>cases h2:decide (c.fKind=2)<;>cases h3:decide (c.fKind=3)<;>cases h4:decide (c.fKind=4)<;>cases h5:decide (c.fKind=5)<;>cases h6:decide (c.fKind=6)<;>simp[h1,h2,h3,h4,h5,h6] at hp<;>omega
theorem HO {c:Aa}(hp:pl c=true)(hn:0<c.fN):(c.fKind=5∨c.fKind=6)∧c.fInt=0∧c.fStr=[]:=by
 cases h1:decide (c.fKind=1)<;>cases h2:decide (c.fKind=2)<;>cases h3:decide (c.fKind=3)<;>cases h4:decide (c.fKind=4)<;>cases h5:decide (c.fKind=5)<;>cases h6:decide (c.fKind=6)<;>simp[pl,h1,h2,h3,h4,h5,h6] at hp<;>(simp only[Ac9,AcA] at *;first | omega | exact⟨by omega,hp.1,hp.2.1⟩)
theorem W8 {c:Aa}(hp:pl c=true)(hn:decide (0<c.fN)=false):szc c=Wh c:=by
 have hN:=Xf hp;have h0:c.fN=0:=by simp only[AcA] at hn;omega
 unfold szc Wh;rw[h0]
 cases h1:decide (c.fKind=1) with
 | true=>rfl
 | false=>
  cases h2:decide (c.fKind=2) with
  | true=>
   simp[pl,h1,h2] at hp;simp only[AcD,AcH];exact JU (by omega) (by omega)
  | false=>rfl
theorem W7 {c:Aa}(hp:pl c=true)(hn:0<c.fN)(hm:c.fN≤9223372036854775000):szc c=c.fN+1:=by
 obtain⟨hk,_,_⟩:=HO hp hn;unfold szc;rw[AcB (by omega),AcB (by omega),AcB (by omega),AcB (by omega)];simp only[AcD];rw[JU (x:=c.fN-1) (by omega) (by omega),JU (by omega) (by omega)];omega
theorem HX:∀{f:Fo} {m:Bool} {l:Option Af},f.wf m l=true→0≤f.byt
 | .nil,_,_,_=>AcX 0
 | .cell k c r,m,l,h=>by
  simp only[Fo.wf,AcG] at h;have h1:=HX h.2;have h2:=Uc h.1.1.2;have h3:=N8 k;simp only[Fo.byt];omega
 | .node k c kids r,m,l,h=>by
  simp only[Fo.wf,AcG,Ac9] at h;have h1:=HX h.2;have h2:=HX h.1.2;have h3:=N8 k;simp only[Fo.byt];omega
theorem Py (k:Option Af)(s:AL)(h0:0≤s.fBytes)(h:s.fBytes+Q3 k≤9223372036854775807):(MU k s).fBytes=s.fBytes+Q3 k:=by
 cases k with
 | none=>simp[MU,Q3]
 | some x=>
  have:=LA x;simp only[Q3] at h;simp only[MU,shk,Q3];exact JU (by omega) (by omega)
theorem L0:∀(f:Fo) (m:Bool) (l:Option Af) (d:Nat) (s:AL),f.wf m l=true→0≤s.fBytes→s.fBytes+f.byt≤9223372036854775000→(f.sh d s).fBytes=s.fBytes+f.byt
 | .nil,_,_,d,s,_,_,_=>by simp[Fo.sh,Fo.byt]
 | .cell k c r,m,l,d,s,hw,h0,h=>by
  simp only[Fo.wf,AcG,AcV] at hw;obtain⟨⟨⟨w1,w2⟩,w3⟩,w4⟩:=hw;have h1:=HX w4;have h2:=Uc w2;have h3:=N8 k;simp only[Fo.byt] at h;have e1:=Py k s h0 (by omega);have e:(Jx d (MU k s) c).fBytes=s.fBytes+Q3 k+Wh c:=by
   rw[Jx,e1,W8 w2 w3];exact JU (by omega) (by omega)
  rw[Fo.sh,L0 r _ _ d _ w4 (by rw[e];omega) (by rw[e];omega),e,Fo.byt];omega
 | .node k c kids r,m,l,d,s,hw,h0,h=>by
  simp only[Fo.wf,AcG,Ac9] at hw;obtain⟨⟨⟨⟨⟨w1,w2⟩,w3⟩,w5⟩,w6⟩,w4⟩:=hw;have h1:=HX w4;have h2:=HX w6;have h3:=N8 k;simp only[Fo.byt] at h;have e1:=Py k s h0 (by omega);have e:(Jx d (MU k s) c).fBytes=s.fBytes+Q3 k+(c.fN+1):=by
   rw[Jx,e1,W7 w2 w3 (by omega)];exact JU (by omega) (by omega)
  have e2:=L0 kids _ _ (d+1) (Jx d (MU k s) c) w6 (by rw[e];omega) (by rw[e];omega);rw[Fo.sh,L0 r _ _ d _ w4 (by rw[e2,e];omega) (by rw[e2,e];omega),e2,e,Fo.byt];omega
def Em (s:Af):Af:=s.flatMap λc=>bif (decide (c=34)||decide (c=92)) then[92,c] else[c]
def Ek (s:Af):Af:=34::(Em s++[34])
theorem LZ:∀s:Af,(Em s).length=s.length+s.count 34+s.count 92
 | []=>rfl
 | c::s=>by
  have ih:=LZ s;unfold Em at ih ⊢;rw[Ad1,AcF,ih]
  by_cases h1:c=34
  ·subst h1;simp;omega
  ·by_cases h2:c=92
   ·subst h2;simp;omega
   ·simp[h1,h2,List.count_cons];omega
theorem R7 (s:Af):((Ek s).length:Int)=Mx s:=by
 simp only[Ek,AcE,AcF,LZ,Adz,Mx];omega
def D4 (c:Aa):Af:=
 bif decide (c.fKind=1) then[110,117,108,108] else
 bif decide (c.fKind=2) then(bif decide (c.fInt=1) then[116,114,117,101] else[102,97,108,115,101]) else
 bif decide (c.fKind=3) then Lib.itoa c.fInt else
 bif decide (c.fKind=4) then Ek c.fStr else
 bif decide (c.fKind=6) then[123,125] else[91,93]
def Gu:Option Af→Af
 | none=>[]
 | some s=>Ek s++[58]
def Nj (c:Aa)(s:Af):Af:=bif decide (c.fKind=6) then 123::(s++[125]) else 91::(s++[93])
def CA (first:Bool):Af:=bif first then[] else[44]
def Fo.txt:Bool→Fo→Af
 | _,.nil=>[]
 | b,.cell k c r=>CA b++Gu k++D4 c++r.txt false
 | b,.node k c kids r=>CA b++Gu k++Nj c (kids.txt true)++r.txt false
theorem Ud (k:Option Af):((Gu k).length:Int)=Q3 k:=by
 cases k with
 | none=>rfl
 | some s=>simp only[Gu,AcF,Q3,Ade];have:=R7 s;omega
theorem PG {c:Aa}(hp:pl c=true):((D4 c).length:Int)=Wh c:=by
  unfold D4 Wh
  cases h1:decide (c.fKind=1) with
  | true=>rfl
  | false=>
    cases h2:decide (c.fKind=2) with
    | true=>
      simp[pl,h1,h2] at hp;simp only[AcD,AcH]
      cases h7:decide (c.fInt=1) with
      | true=>simp only[Ac9] at h7;simp[h7]
      | false=>
                 simp only[AcA] at h7;have:c.fInt=0:=by omega
                 simp[this]
    | false=>
      cases h3:decide (c.fKind=3) with
      | true=>rfl
      | false=>
        cases h4:decide (c.fKind=4) with
        | true=>simpa using R7 c.fStr
        | false=>cases h6:decide (c.fKind=6)<;>rfl
theorem Ji (c:Aa)(s:Af):(Nj c s).length=s.length+2:=by
 unfold Nj
 cases decide (c.fKind=6)<;>simp
theorem HM:∀(f:Fo) (m:Bool) (l:Option Af) (b:Bool),f.wf m l=true→((f.txt b).length:Int)=f.byt+(bif b then((f.cnt-1:Nat):Int) else(f.cnt:Int))
 | .nil,m,l,b,_=>by cases b<;>rfl
 | .cell k c r,m,l,b,hw=>by
  simp only[Fo.wf,AcG,AcV] at hw;obtain⟨⟨⟨w1,w2⟩,w3⟩,w4⟩:=hw;have ih:=HM r _ _ false w4;have a:=Ud k;have d:=PG w2;simp only[AcD] at ih
  cases b<;>simp only[Fo.txt,Fo.byt,Fo.cnt,CA,AcH,AcD,AcF,Adz,Ade]<;>omega
 | .node k c kids r,m,l,b,hw=>by
  simp only[Fo.wf,AcG,Ac9] at hw;obtain⟨⟨⟨⟨⟨w1,w2⟩,w3⟩,w5⟩,w6⟩,w4⟩:=hw;have ih:=HM r _ _ false w4;have ih2:=HM kids _ _ true w6;have a:=Ud k;have d:=Ji c (kids.txt true);simp only[AcD,AcH] at ih ih2
  cases b<;>simp only[Fo.txt,Fo.byt,Fo.cnt,CA,AcH,AcD,AcF,Adz,Ade]<;>omega
def Fo.put (k:Option Af):Fo→Fo→Fo
 | .cell _ c _,r=>.cell k c r
 | .node _ c kids _,r=>.node k c kids r
 | .nil,_=>.nil
theorem Xe (P:Nat)(m:Bool)(last:Option Af)(k:Nat)(xs:List Aa):IQ (P+2) m last (k+1) xs =
  match IZ m last xs with
  | none=>none
  | some (key,ys)=>match IQ (P+2) false none 1 ys with
   | none=>none
   | some (f,zs)=>match IQ (P+1) m key k zs with
    | none=>none
    | some (r,us)=>some (f.put key r,us):=by
 rw[IQ]
 cases hk:IZ m last xs with
 | none=>rfl
 | some p=>
  obtain⟨key,ys⟩:=p;simp only;rw[IQ];simp only[IZ,AcD]
  cases ys with
  | nil=>rfl
  | cons c ys=>
   simp only
   cases hp:pl c with
   | false=>rfl
   | true=>
    simp only[AcP,AcD]
    cases hn:decide (0<c.fN) with
    | true=>
     simp only[AcH]
     cases hq:IQ (P+1) (decide (c.fKind=6)) none c.fN.toNat ys with
     | none=>rfl
     | some q=>
      obtain⟨kids,zs⟩:=q;simp only[IQ]
      cases hr:IQ (P+1) m key k zs with
      | none=>rfl
      | some q=>obtain⟨a,b⟩:=q;rfl
    | false=>
     simp only[AcD,IQ]
     cases hr:IQ (P+1) m key k ys with
     | none=>rfl
     | some q=>obtain⟨a,b⟩:=q;rfl
def Oq (m:Bool)(last:Option Af)(k:Nat)(xs:List Aa):Option (Fo×List Aa):=IQ (xs.length+1) m last k xs
theorem My (m:Bool)(last:Option Af)(xs:List Aa):Oq m last 0 xs=some (.nil,xs):=rfl
theorem Hi (m:Bool)(last:Option Af)(k:Nat)(xs:List Aa):Oq m last (k+1) xs =
  match IZ m last xs with
  | none=>none
  | some (key,ys)=>match I6 ys with
   | none=>none
   | some (f,zs)=>match Oq m key k zs with
    | none=>none
    | some (r,us)=>some (f.put key r,us):=by
 unfold Oq I6;rw[I4 (xs.length+1) (xs.length+2) m last (k+1) xs (by omega) (by omega),Xe]
 cases hk:IZ m last xs with
 | none=>rfl
 | some p=>
  obtain⟨key,ys⟩:=p;have h1:=(N2 hk).1;have hy:ys.length≤xs.length:=by rw[h1];simp
  simp only;rw[I4 (xs.length+2) (ys.length+1) false none 1 ys (by omega) (by omega)]
  cases hf:IQ (ys.length+1) false none 1 ys with
  | none=>rfl
  | some q=>
   obtain⟨f,zs⟩:=q;have h2:=(Ic _ _ _ _ _ _ _ hf).1;have hz:zs.length≤ys.length:=by rw[h2];simp
   simp only;rw[I4 (xs.length+1) (zs.length+1) m key k zs (by omega) (by omega)]
   all_goals (cases IQ (zs.length+1) m key k zs<;>rfl)
theorem ID {S O:Type}{body:S→Option (Stp S O)}{n:Nat}{s s':S}{o:O}(h:body s=some (.next s'))(h':B7 body n s'=some o):B7 body (n+1) s=some o:=by rw[B7,h];exact h'
theorem DO {S O:Type}{body:S→Option (Stp S O)}{n:Nat}{s:S}{o:O}(h:body s=some (.out o)):B7 body (n+1) s=some o:=by rw[B7,h]
theorem R8:I6 []=none:=rfl
theorem I5 (c:Aa)(r:List Aa):I6 (c::r)=bif !pl c then none else bif decide (0<c.fN) then(match Oq (decide (c.fKind=6)) none c.fN.toNat r with
  | none=>none
  | some (kids,zs)=>some (.node none c kids .nil,zs)) else some (.cell none c .nil,r):=by
 unfold I6;rw[IQ];simp only[IZ,AcD]
 cases hp:pl c with
 | false=>rfl
 | true=>
  simp only[AcP,AcD]
  cases hn:decide (0<c.fN) with
  | true=>
   simp only[AcH];unfold Oq;rw[AcE]
   cases hq:IQ (r.length+1) (decide (c.fKind=6)) none c.fN.toNat r with
   | none=>rfl
   | some q=>obtain⟨kids,zs⟩:=q;rfl
  | false=>rfl
theorem Gh {f:Fo}(h:f.one=true)(key:Option Af)(r:Fo):(f.put key r).flat=Bu key++(f.flat++r.flat):=by
 cases f with
 | nil=>cases h
 | cell k c r'=>
  cases k with
  | some s=>cases h
  | none=>cases r' with
   | nil=>simp[Fo.put,Fo.flat,Bu]
   | cell _ _ _=>cases h
   | node _ _ _ _=>cases h
 | node k c kids r'=>
  cases k with
  | some s=>cases h
  | none=>cases r' with
   | nil=>simp[Fo.put,Fo.flat,Bu]
   | cell _ _ _=>cases h
   | node _ _ _ _=>cases h
theorem LG {f:Fo}(h:f.one=true):1≤f.flat.length:=by
 cases f with
 | nil=>cases h
 | cell k c r'=>simp[Fo.flat];omega
 | node k c kids r'=>simp[Fo.flat];omega
theorem Kj {xs ys:List Aa}{f:Fo}(h:I6 xs=some (f,ys)):xs=f.flat++ys∧f.wf false none=true∧f.one=true:=
 ⟨(Ic _ _ _ _ _ _ _ h).1,(Ic _ _ _ _ _ _ _ h).2.1,TL h⟩
def Jr (v:List Aa)(i:Int):Int:=match I6 (v.drop i.toNat) with
 | none=>-1
 | some (f,_)=>i+f.flat.length
def LH (m:Bool)(last:Option Af)(v:List Aa)(i:Int)(k:Nat):Int:=match Oq m last k (v.drop i.toNat) with
 | none=>-1
 | some (f,_)=>i+f.flat.length
theorem PA {v:List Aa}{i:Int}(h0:0≤i)(h1:i≤v.length):Jr v i = -1∨(i<Jr v i∧Jr v i≤v.length):=by
 unfold Jr
 cases h:I6 (v.drop i.toNat) with
 | none=>exact .inl rfl
 | some q=>
  obtain⟨f,ys⟩:=q;obtain⟨h2,_,h3⟩:=Kj h;have:=LG h3;have hl:(v.drop i.toNat).length=f.flat.length+ys.length:=by rw[h2];simp
  rw[Ad9] at hl
  right;simp only;omega
structure RfA (F M:Nat) (v:List Aa):Prop where
 hM:M≤1152921504606846976
 hv:v.length≤M
 hF:M<F
 hc:∀c∈v,c.fStr.length≤M
theorem Vf (ok:Bool){i:Int}(h0:0≤i)(h1:i≤1152921504606846976):BF ok i=some (bif ok then i+1 else -1):=by
 unfold BF
 cases ok
 ·rfl
 ·rw[AF rfl,AB (by omega) (by omega)];rfl
theorem TH {F:Nat}{c:Aa}(hF:c.fStr.length<F)(hs:c.fStr.length≤1152921504606846976):Pk F c=some (decide (c.fKind=4)&&pl c):=by
 unfold Pk;rw[UV hF (by omega)];simp only[Option.isSome_some,ov,Adj,imp,Adl,AX,AcH]
 cases h4:decide (c.fKind=4) with
 | false=>rfl
 | true=>
  simp only[Ac9] at h4;simp[pl,h4]
theorem Dt {v:List Aa}{i:Int}{c:Aa}{r:List Aa}(h0:0≤i)(h:v.drop i.toNat=c::r):Ao v i=c:=by
 have:=(Ck h0 h).1;simp[Ao,this]
section
variable {M : Nat} {v : List Aa}
theorem KH {F:Nat}(hA:RfA F M v){g:List Aa→Int→Option Int}{n:Int}(hn:n≤9223372036854775807):∀(L:Nat) (i x:Int),0≤i→i≤v.length→0≤x→x≤n→(∀j,i≤j→j≤v.length→g v j=some (Jr v j))→v.length-i.toNat<L→
  ∃o,B7 (λσ=>CZ v n g σ.1 σ.2) L (i,x)=some o∧B5 (λν=>Es ν) o=some (LH false none v i (n-x).toNat)
 | 0,i,x,_,_,_,_,_,h=>by omega
 | L+1,i,x,h0,h1,hx,hxn,hg,hL=>by
  cases hxl:decide (x<n) with
  | false=>
   refine⟨.go i,DO (by show CZ v n g i x=_;unfold CZ;rw[A0 hxl]),?_⟩;simp only[AcA] at hxl;rw[show(n-x).toNat=0 from by omega];simp[B5,Es,LH,My,Fo.flat]
  | true=>
   have hb:CZ v n g i x=Bf (decide (Jr v i<0)) (some (.out (.ret (-1)))) (AX (B9 .i64 (x+1))<|some (.next (Jr v i,x+1))):=by unfold CZ;rw[AF hxl,hg i (AcX i) h1,AI rfl]
   simp only[Ac9] at hxl;obtain⟨k,hk⟩:∃k,(n-x).toNat=k+1:=⟨(n-x).toNat-1,by omega⟩
   rw[hk];have e:LH false none v i (k+1)=bif decide (Jr v i<0) then -1 else LH false none v (Jr v i) k:=by
    unfold LH;rw[Hi];simp only[IZ,AcD]
    cases hp:I6 (v.drop i.toNat) with
    | none=>simp[Jr,hp]
    | some q=>
     obtain⟨f,ys⟩:=q;obtain⟨q1,q2,q3⟩:=Kj hp;have hi:Jr v i=i+f.flat.length:=by simp[Jr,hp]
     have hd:v.drop (Jr v i).toNat=ys:=by rw[hi];exact C4 h0 q1
     rw[hd,AcB (by omega)];simp only[AcD]
     cases hr:Oq false none k ys with
     | none=>rfl
     | some q=>
      obtain⟨r,zs⟩:=q;simp only[Gh q3,Bu,Adg,AcF,hi];omega
   rw[e];rcases PA (v:=v) h0 h1 with hneg | ⟨hlt,hle⟩
   ·exact⟨.ret (-1),DO (hb.trans (by rw[hneg,AF (by decide)])),by rw[hneg];rfl⟩
   ·have hM:=hA.hM;have hvM:=hA.hv;obtain⟨o,ho1,ho2⟩:=KH hA hn L (Jr v i) (x+1) (by omega) hle (by omega) (by omega) (λj hj=>hg j (by omega)) (by omega);exact⟨o,ID (hb.trans (by rw[A0 (AcB (by omega)),AB (by omega) (by omega)])) ho1,by rw[ho2,show(n-(x+1)).toNat=k from by omega,AcB (by omega)];rfl⟩
theorem Ok {F:Nat}(hA:RfA F M v){g:List Aa→Int→Option Int}{n:Int}(hn:n≤9223372036854775807):∀(L:Nat) (i x:Int) (last:Af),0≤i→i≤v.length→0≤x→x≤n→(∀j,i≤j→j≤v.length→g v j=some (Jr v j))→v.length-i.toNat<L→
  ∃o,B7 (λσ=>D1 F v n g σ.1 σ.2.1 σ.2.2) L (i,last,x)=some o∧B5 (λν=>Hf ν) o=some (LH true (bif decide (0<x) then some last else none) v i (n-x).toNat)
 | 0,i,x,_,_,_,_,_,_,h=>by omega
 | L+1,i,x,last,h0,h1,hx,hxn,hg,hL=>by
  have hM:=hA.hM;have hvM:=hA.hv;have hMF:=hA.hF
  cases hxl:decide (x<n) with
  | false=>
   refine⟨.go i,DO (by show D1 F v n g i last x=_;unfold D1;rw[A0 hxl]),?_⟩;simp only[AcA] at hxl;rw[show(n-x).toNat=0 from by omega];simp[B5,Hf,LH,My,Fo.flat]
  | true=>
   have hxl':=hxl;simp only[Ac9] at hxl;obtain⟨k,hk⟩:∃k,(n-x).toNat=k+1:=⟨(n-x).toNat-1,by omega⟩
   rw[hk]
   cases hd:v.drop i.toNat with
   | nil=>
    have hl:v.length≤i.toNat:=by simpa using hd
    refine⟨.ret (-1),DO (by
     show D1 F v n g i last x=_;unfold D1;rw[AF hxl',BL (by simp[imp,show(v.length:Int)≤i from by omega]),BL (by simp[imp,show(v.length:Int)≤i from by omega]),AF (by simp[show(v.length:Int)≤i from by omega])]),?_⟩
    simp[B5,LH,hd,Hi,IZ]
   | cons c r=>
    obtain⟨g1,g2,g3⟩:=Ck h0 hd;have hcM:=hA.hc c (AcO g1);have hat:=Dt h0 hd;have hnl:decide ((v.length:Int)≤i)=false:=by simp;omega
    have hb:D1 F v n g i last x=Bf (!(decide (c.fKind=4)&&pl c)||decide (0<x)&&(BE c.fStr last||decide (c.fStr=last))) (some (.out (.ret (-1)))) (Br (g v (i+1)) λha=>Bf (decide (ha<0)) (some (.out (.ret (-1)))) (AX (B9 .i64 (x+1))<|some (.next (ha,c.fStr,x+1)))):=by
     unfold D1;rw[AF hxl',BL (by simp only[imp];rw[Q7 h0 g3];simp),hat,TH (by omega) (by omega),BL (by simp[imp])];simp only[hnl,ov,Adj,AcW];rw[AP h0 g3,AB (by omega) (by omega)]
    have hpk:IZ true (bif decide (0<x) then some last else none) (c::r)=bif (!(decide (c.fKind=4)&&pl c)||decide (0<x)&&(BE c.fStr last||decide (c.fStr=last))) then none else some (some c.fStr,r):=by
     simp only[IZ,AcH]
     cases h4:decide (c.fKind=4) with
     | false=>simp
     | true=>
      cases hp:pl c with
      | false=>simp
      | true=>
       have hok:=(Qx hp (by simpa using h4)).2
       cases h0x:decide (0<x) with
       | false=>simp[B1,hok]
       | true=>cases hs:(BE c.fStr last||decide (c.fStr=last))<;>simp[B1,hok,hs]
    cases ht:(!(decide (c.fKind=4)&&pl c)||decide (0<x)&&(BE c.fStr last||decide (c.fStr=last))) with
    | true=>
     rw[ht] at hpk;refine⟨.ret (-1),DO (hb.trans (AF ht)),?_⟩;simp only[LH,hd,Hi,hpk,AcH];rfl
    | false=>
     rw[ht] at hpk;rw[A0 ht,hg (i+1) (by omega) (by omega),AI rfl] at hb;have e:LH true (bif decide (0<x) then some last else none) v i (k+1)=bif decide (Jr v (i+1)<0) then -1 else LH true (some c.fStr) v (Jr v (i+1)) k:=by
      unfold LH;rw[hd,Hi,hpk];simp only[AcD];have hx:Jr v (i+1)=match I6 r with | none=>-1 | some (f,_)=>i+1+f.flat.length:=by unfold Jr;rw[g2]
      cases hp:I6 r with
      | none=>rw[hp] at hx;simp[hx]
      | some q=>
       obtain⟨f,ys⟩:=q;obtain⟨q1,q2,q3⟩:=Kj hp;rw[hp] at hx;simp only at hx;have hd2:v.drop (Jr v (i+1)).toNat=ys:=by rw[hx];exact C4 (by omega) (g2.trans q1)
       rw[hd2,AcB (by omega)];simp only[AcD]
       cases hr:Oq true (some c.fStr) k ys with
       | none=>rfl
       | some q=>
        obtain⟨r',zs⟩:=q;simp only[Gh q3,Bu,AcF,AcE,Adz,hx];omega
     rw[e];rcases PA (v:=v) (i:=i+1) (by omega) (by omega) with hneg | ⟨hlt,hle⟩
     ·exact⟨.ret (-1),DO (hb.trans (by rw[hneg,AF (by decide)])),by rw[hneg];rfl⟩
     ·obtain⟨o,ho1,ho2⟩:=Ok hA hn L (Jr v (i+1)) (x+1) c.fStr (by omega) hle (by omega) (by omega) (λj hj=>hg j (by omega)) (by omega);exact⟨o,ID (hb.trans (by rw[A0 (AcB (by omega)),AB (by omega) (by omega)])) ho1,by rw[ho2,show(n-(x+1)).toNat=k from by omega,AcC (show(0:Int)<x+1 from by omega),AcB (by omega)];rfl⟩
theorem RK {i:Int}{c:Aa}{r:List Aa}(h0:0≤i)(hd:v.drop i.toNat=c::r)(hp:pl c=true):Jr v i=LH (decide (c.fKind=6)) none v (i+1) c.fN.toNat:=by
 have g2:=(Ck h0 hd).2.1;have hN:=Xf hp;unfold Jr LH;rw[hd,I5,g2,hp];simp only[AcP,AcD]
 cases hn:decide (0<c.fN) with
 | true=>
  simp only[AcH]
  cases hq:Oq (decide (c.fKind=6)) none c.fN.toNat r with
  | none=>rfl
  | some q=>
   obtain⟨kids,zs⟩:=q;simp only[Fo.flat,Bu,Adg,AcE,Adk];omega
 | false=>
  simp only[AcA] at hn;rw[show c.fN.toNat=0 from by omega,My];simp[Fo.flat,Bu]
theorem Rx (hA:RfA (M+1) M v)(hN:∀c∈v,c.fN≤9223372036854775807):∀(d F:Nat) (i:Int),0≤i→i≤v.length→v.length-i.toNat=d→M+2*d+3<F→D7 F v i=some (Jr v i):=by
 have hM:=hA.hM;have hvM:=hA.hv;intro d
 induction d using Nat.strongRecOn with
 | ind d ih=>
  intro F i h0 h1 hd hF;obtain⟨F,rfl⟩:∃G,F=G+1:=⟨F-1,by omega⟩
  obtain⟨F,rfl⟩:∃G,F=G+1:=⟨F-1,by omega⟩
  rw[D7];unfold Qt
  cases hdr:v.drop i.toNat with
  | nil=>
   have hl:v.length≤i.toNat:=by simpa using hdr
   rw[AF (by simp;omega)];simp[Jr,hdr,R8]
  | cons c r=>
   obtain⟨g1,g2,g3⟩:=Ck h0 hdr;have hcM:=hA.hc c (AcO g1);have hcN:=hN c (AcO g1);rw[A0 (by simp;omega),AP h0 g3,Dt h0 hdr];simp only[Vf _ h0 (show i≤1152921504606846976 by omega),Option.isSome_some,ov,Adj,imp,Adl,BL (x:=_) (rfl:true=true)];have hg:∀j,i+1≤j→j≤v.length→D7 F v j=some (Jr v j):=λj hj hj2=>ih (v.length-j.toNat) (by omega) F j (by omega) hj2 rfl (by omega);have hpl0:pl c=false→Jr v i = -1:=λhp=>by simp[Jr,hdr,I5,hp]
   have hleaf:pl c=true→c.fN=0→Jr v i=i+1:=λhp h0'=>by simp[Jr,hdr,I5,hp,h0',Fo.flat,Bu]
   have hscal:∀b:Bool,pl c=b→(b=true→c.fN=0)→Jr v i=bif b then i+1 else -1:=λb hb hz=>by
    cases b
    ·exact hpl0 hb
    ·exact hleaf hb (hz rfl)
   by_cases k1:c.fKind=1
   ·rw[AF (by simp[k1])];have hp:pl c=(decide (c.fInt=0)&&(decide (c.fStr=[])&&decide (c.fN=0))):=by simp[pl,k1]
    rw[hscal _ hp (λh=>by simp at h;exact h.2.2)]
    cases decide (c.fInt=0)<;>cases decide (c.fStr=[])<;>cases decide (c.fN=0)<;>rfl
   rw[A0 (by simp[k1])]
   by_cases k2:c.fKind=2
   ·rw[AF (by simp[k2])];have hp:pl c=((decide (c.fInt=0)||decide (c.fInt=1))&&(decide (c.fStr=[])&&decide (c.fN=0))):=by simp[pl,k2]
    rw[hscal _ hp (λh=>by simp at h;exact h.2.2)]
    cases decide (c.fInt=0)<;>cases decide (c.fInt=1)<;>cases decide (c.fStr=[])<;>cases decide (c.fN=0)<;>rfl
   rw[A0 (by simp[k2])]
   by_cases k3:c.fKind=3
   ·rw[AF (by simp[k3])];have hp:pl c=(decide (c.fStr=[])&&decide (c.fN=0)):=by simp[pl,k3]
    rw[hscal _ hp (λh=>by simp at h;exact h.2)]
    cases decide (c.fStr=[])<;>cases decide (c.fN=0)<;>rfl
   rw[A0 (by simp[k3])]
   by_cases k4:c.fKind=4
   ·rw[AF (by simp[k4]),TH (by omega) (by omega),AI rfl,AI rfl];rw[AcC k4,AcQ,hscal (pl c) rfl (λhp=>by have:=(Qx hp k4).1;rw[this])]
   rw[A0 (by simp[k4])]
   by_cases k5:c.fKind=5
   ·have hp:pl c=(decide (c.fInt=0)&&(decide (c.fStr=[])&&decide (0≤c.fN))):=by simp[pl,k5]
    rw[show(decide (c.fKind=5)&&(decide (c.fInt=0)&&(decide (c.fStr=[])&&decide (0≤c.fN))))=pl c from by rw[hp,AcC k5,AcQ]];have k5' : ¬ c.fKind=6:=by omega
    cases hb:pl c with
    | false=>rw[A0 rfl,A0 (by simp[k5]),hpl0 hb]
    | true=>
     have hn0:=Xf hb;rw[AF rfl,AB (by omega) (by omega),Hg];unfold IY;obtain⟨o,ho1,ho2⟩:=KH (F:=F) ⟨hM,hvM,by omega,hA.hc⟩ hcN F (i+1) 0 (by omega) (by omega) (AcX 0) hn0 hg (by omega);rw[AI ho1,ho2,AI rfl,RK h0 hdr hb,AcB k5',Int.sub_zero]
   rw[A0 (by simp[k5])]
   by_cases k6:c.fKind=6
   ·have hp:pl c=(decide (c.fInt=0)&&(decide (c.fStr=[])&&decide (0≤c.fN))):=by simp[pl,k6]
    rw[show(decide (c.fKind=6)&&(decide (c.fInt=0)&&(decide (c.fStr=[])&&decide (0≤c.fN))))=pl c from by rw[hp,AcC k6,AcQ]]
    cases hb:pl c with
    | false=>rw[A0 rfl,hpl0 hb]
    | true=>
     have hn0:=Xf hb;rw[AF rfl,AB (by omega) (by omega),Mu];unfold N0;obtain⟨o,ho1,ho2⟩:=Ok (F:=F) ⟨hM,hvM,by omega,hA.hc⟩ hcN F (i+1) 0 [] (by omega) (by omega) (AcX 0) hn0 hg (by omega);rw[AI ho1,ho2,AI rfl,RK h0 hdr hb,AcC k6,Int.sub_zero];rfl
   ·rw[A0 (by simp[k6]),hpl0 (by simp[pl,k1,k2,k3,k4,k5,k6])]
theorem SW (hA:RfA (M+1) M v)(hN:∀c∈v,c.fN≤9223372036854775807){F:Nat}(hF:3*M+3<F):L5 F v=some (decide (Jr v 0=v.length)):=by
 have hvM:=hA.hv;unfold L5;rw[Rx hA hN v.length F 0 (AcX 0) (by omega) (by simp) (by omega)];simp only[imp,Option.isSome_some,Adl,BL,ov,Adj]
 cases v with
 | nil=>simp[Jr,R8]
 | cons c r=>
  rw[show decide (0<((c::r).length:Int))=true from by simp,AcQ]
  first | done | rfl
end
theorem TM {m:Bool}{last key:Option Af}{r:List Aa}(h:B1 m last key=true):IZ m last (Bu key++r)=some (key,r):=by
 cases key with
 | none=>
  have:m=false:=by simpa[B1] using h
  subst this;rfl
 | some s=>
  have h':=h;simp only[B1,AcG] at h;obtain⟨⟨h1,h2⟩,h3⟩:=h;subst h1;have hp:pl ⟨4,0,s,0⟩=true:=by simp[pl,h2]
  show(bif pl ⟨4,0,s,0⟩&&decide ((4:Int)=4)&&B1 true last (some s) then _ else _)=_;rw[hp,h'];rfl
theorem N3:∀(f:Fo) (m:Bool) (last:Option Af) (ys:List Aa),f.wf m last=true→Oq m last f.cnt (f.flat++ys)=some (f,ys)
 | .nil,_,_,_,_=>rfl
 | .cell k c r,m,last,ys,hw=>by
  simp only[Fo.wf,AcG,AcV] at hw;obtain⟨⟨⟨w1,w2⟩,w3⟩,w4⟩:=hw;simp only[Fo.cnt,Fo.flat,AcU,Ads];rw[Hi,TM w1];simp only[I5,w2,w3,AcP,AcD,N3 r m k ys w4,Fo.put]
 | .node k c kids r,m,last,ys,hw=>by
  simp only[Fo.wf,AcG,Ac9] at hw;obtain⟨⟨⟨⟨⟨w1,w2⟩,w3⟩,w5⟩,w6⟩,w4⟩:=hw;simp only[Fo.cnt,Fo.flat,AcU,Ads];rw[Hi,TM w1];have e:c.fN.toNat=kids.cnt:=by omega
  simp only[I5,w2,AcC w3,AcP,AcD,AcH,e,N3 kids _ none (r.flat++ys) w6,N3 r m k ys w4,Fo.put]
theorem TN {f:Fo}{ys:List Aa}(h1:f.one=true)(hw:f.wf false none=true):I6 (f.flat++ys)=some (f,ys):=by
 have:=N3 f false none ys hw;have hc:f.cnt=1:=by
  cases f with
  | nil=>cases h1
  | cell k c r=>cases k with
   | some _=>cases h1
   | none=>cases r with
    | nil=>rfl
    | _=>cases h1
  | node k c kids r=>cases k with
   | some _=>cases h1
   | none=>cases r with
    | nil=>rfl
    | _=>cases h1
 rw[hc] at this;exact this
structure Hn (M:Nat) (v:List Aa):Prop where
 hM:M≤1000000000
 hv:v.length≤M
 hc:∀c∈v,c.fStr.length≤M∧B9 .i64 c.fInt=true∧c.fN≤9223372036854775807
theorem Hn.lk {M F:Nat}{v:List Aa}(h:Hn M v)(hF:M<F):U0 F M v:=⟨by have:=h.hM;omega,by have:=h.hM;omega,h.hv,hF,h.hc⟩
theorem Hn.rf {M F:Nat}{v:List Aa}(h:Hn M v)(hF:M<F):RfA F M v:=⟨by have:=h.hM;omega,h.hv,hF,λc hc=>(h.hc c hc).1⟩
theorem Hn.drop {M:Nat}{v:List Aa}(h:Hn M v)(k:Nat):Hn M (v.drop k):=⟨h.hM,by have:=h.hv;rw[Ad9];omega,λc hc=>h.hc c (Ad0 hc)⟩
theorem Hn.take {M:Nat}{v:List Aa}(h:Hn M v)(k:Nat):Hn M (v.take k):=⟨h.hM,by have:=h.hv;rw[List.length_take];omega,λc hc=>h.hc c (List.mem_of_mem_take hc)⟩
def whole (v:List Aa):Option Fo:=match I6 v with
 | some (f,[])=>some f
 | _=>none
theorem Hu {v:List Aa}{f:Fo}(h:whole v=some f):v=f.flat∧f.wf false none=true∧f.one=true:=by
 unfold whole at h
 cases hp:I6 v with
 | none=>rw[hp] at h;cases h
 | some q=>
  obtain⟨g,ys⟩:=q;rw[hp] at h
  cases ys with
  | cons _ _=>cases h
  | nil=>
   cases h
   obtain⟨h1,h2,h3⟩:=Kj hp;exact⟨by simpa using h1,h2,h3⟩
theorem NR {f:Fo}(h1:f.one=true)(hw:f.wf false none=true):whole f.flat=some f:=by
 have:=TN (ys:=[]) h1 hw;rw[Adk] at this;simp[whole,this]
def ER (f:Fo):Int:=
 bif f.flat.any BT then 2 else bif f.flat.any H8||(decide (200<f.flat.length)||(decide (8<f.dep)||decide (4000<(f.txt true).length))) then 3 else 0
def GO (v:List Aa):Int:=match whole v with
 | none=>1
 | some f=>ER f
theorem N6 {f:Fo}(h1:f.one=true):f.cnt=1:=by
 cases f with
 | nil=>cases h1
 | cell k c r=>cases k with
  | some _=>cases h1
  | none=>cases r with
   | nil=>rfl
   | _=>cases h1
 | node k c kids r=>cases k with
  | some _=>cases h1
  | none=>cases r with
   | nil=>rfl
   | _=>cases h1
theorem Qv (s:Af):Mx s≤2*s.length+2+s.length:=by
 have h1:s.count 34≤s.length:=List.count_le_length;have h2:s.count 92≤s.length:=List.count_le_length;unfold Mx;omega
theorem AaZ {c:Aa}{M:Nat}(hp:pl c=true)(hs:c.fStr.length≤M)(hi:(Lib.itoa c.fInt).length≤21):Wh c≤3*M+21:=by
 have:=Qv c.fStr;unfold Wh
 cases h1:decide (c.fKind=1) with
 | true=>simp only[AcH];omega
 | false=>
  cases h2:decide (c.fKind=2) with
  | true=>
   simp[pl,h1,h2] at hp;simp only[AcD,AcH];omega
  | false=>
   cases h3:decide (c.fKind=3) with
   | true=>simp only[AcD,AcH];omega
   | false=>cases h4:decide (c.fKind=4)<;>simp only[AcD,AcH]<;>omega
theorem QJ {M:Nat}:∀{f:Fo} {m:Bool} {l:Option Af},f.wf m l=true→(∀c∈f.flat,c.fStr.length≤M∧B9 .i64 c.fInt=true∧c.fN≤9223372036854775807)→f.byt+f.cnt≤(3*M+24)*f.flat.length
 | .nil,_,_,_,_=>by simp[Fo.byt,Fo.flat,Fo.cnt]
 | .cell k c r,m,l,hw,hc=>by
  simp only[Fo.wf,AcG,AcV] at hw;obtain⟨⟨⟨w1,w2⟩,w3⟩,w4⟩:=hw;simp only[Fo.flat] at hc;have ih:=QJ w4 (λx hx=>hc x (by simp[hx]));obtain⟨c1,c2,c3⟩:=hc c (by simp);have i64:=GD c2;have hl:=AaZ w2 c1 (Lib.itoa_length_le c.fInt i64.1 i64.2);have hk:Q3 k≤(3*M+24)*(Bu k).length:=by
   cases k with
   | none=>simp[Q3,Bu]
   | some s=>
    have:=(hc ⟨4,0,s,0⟩ (by simp[Bu])).1;have h2:=Qv s;simp only at this;simp only[Q3,Bu,Ade];omega
  simp only[Fo.byt,Fo.flat,Fo.cnt,AcF,AcE];have e:((3*(M:Int)+24)*(((Bu k).length+(r.flat.length+1):Nat):Int))=(3*(M:Int)+24)*(Bu k).length+((3*(M:Int)+24)*r.flat.length+(3*(M:Int)+24)):=by
   push_cast;rw[Int.mul_add,Int.mul_add,Int.mul_one]
  rw[e]
  push_cast at *
  omega
 | .node k c kids r,m,l,hw,hc=>by
  simp only[Fo.wf,AcG,Ac9] at hw;obtain⟨⟨⟨⟨⟨w1,w2⟩,w3⟩,w5⟩,w6⟩,w4⟩:=hw;simp only[Fo.flat] at hc;have ih:=QJ w4 (λx hx=>hc x (by simp[hx]));have ih2:=QJ w6 (λx hx=>hc x (by simp[hx]));have hcf:=Cf kids;have hk:Q3 k≤(3*M+24)*(Bu k).length:=by
   cases k with
   | none=>simp[Q3,Bu]
   | some s=>
    have:=(hc ⟨4,0,s,0⟩ (by simp[Bu])).1;have h2:=Qv s;simp only at this;simp only[Q3,Bu,Ade];omega
  simp only[Fo.byt,Fo.flat,Fo.cnt,AcF,AcE];have e:((3*(M:Int)+24)*(((Bu k).length+(kids.flat.length+r.flat.length+1):Nat):Int))=(3*(M:Int)+24)*(Bu k).length+((3*(M:Int)+24)*kids.flat.length+(3*(M:Int)+24)*r.flat.length+(3*(M:Int)+24)):=by
   push_cast;rw[Int.mul_add,Int.mul_add,Int.mul_add,Int.mul_one]
  rw[e]
  push_cast at *
  omega
theorem K2 {M:Nat}(hM:M≤1000000){f:Fo}{m:Bool}{l:Option Af}(hw:f.wf m l=true)(hl:f.flat.length≤M)(hc:∀c∈f.flat,c.fStr.length≤M∧B9 .i64 c.fInt=true∧c.fN≤9223372036854775807):f.byt≤4000000000000:=by
 have:=QJ (M:=M) hw hc;have h2:(3*M+24)*f.flat.length≤(3*1000000+24)*1000000:=Nat.mul_le_mul (by omega) (by omega);have h3:(((3*M+24)*f.flat.length:Nat):Int)=(3*(M:Int)+24)*f.flat.length:=by push_cast;rfl
 omega
theorem Iu {M F:Nat}{v:List Aa}(hA:Hn M v)(hM:M≤1000000)(hF:M<F):KT F v=some (GO v):=by
 unfold KT GO whole;have hvM:=hA.hv;rcases ZG (hA.lk hF) with⟨f,ys,hp,hl⟩ | ⟨hp,sh',hl⟩
 ·rw[hl,AI rfl,hp];obtain⟨h1,h2,h3⟩:=Kj hp;have hlen:v.length=f.flat.length+ys.length:=by rw[h1];simp
  cases ys with
  | cons c r=>
   rw[AF];simp only[AcE] at hlen;simp;omega
  | nil=>
   simp only[Adz,Nat.add_zero] at hlen;rw[A0 (by simp[hlen])];have hc:∀c∈f.flat,c.fStr.length≤M∧B9 .i64 c.fInt=true∧c.fN≤9223372036854775807:=λc hc=>hA.hc c (by rw[h1];simp[hc]);have hb:=K2 hM h2 (by omega) hc;have hb0:=HX h2;have e1:(f.sh 0 Og).fOutside=f.flat.any BT:=by rw[Qn];rfl
   have e2:(f.sh 0 Og).fLong=f.flat.any H8:=by rw[Ny];rfl
   have e3:(f.sh 0 Og).fDepth=f.dep:=by rw[Lz f 0 Og (by simp[Og])];simp[Og]
   have e4:(f.sh 0 Og).fBytes=(f.txt true).length:=by
    rw[L0 f false none 0 Og h2 (by simp[Og]) (by simp[Og];omega),HM f false none true h2,N6 h3];simp[Og]
   simp only;rw[e1,e2,e3,e4,hlen];unfold ER
   cases f.flat.any BT with
   | true=>rw[AF rfl];rfl
   | false=>
    rw[A0 rfl];have a1:decide ((200:Int)<(f.flat.length:Int))=decide (200<f.flat.length):=by rw[AcT];simp;omega
    have a2:decide ((8:Int)<(f.dep:Int))=decide (8<f.dep):=by rw[AcT];simp;omega
    have a3:decide ((4000:Int)<((f.txt true).length:Int))=decide (4000<(f.txt true).length):=by rw[AcT];simp;omega
    rw[a1,a2,a3]
    cases(f.flat.any H8||(decide (200<f.flat.length)||(decide (8<f.dep)||decide (4000<(f.txt true).length))))<;>rfl
 ·rw[hl,AI rfl,hp];rfl
theorem Q1 {v:List Aa}{p:Int}{f:Fo}{ys:List Aa}(h1:f.one=true)(hw:f.wf false none=true)(hd:v.drop p.toNat=f.flat++ys):Jr v p=p+f.flat.length:=by
 unfold Jr;rw[hd,TN h1 hw]
theorem Nx {c:Aa}(hp:pl c=true)(hn:decide (0<c.fN)=false):(Fo.cell none c .nil).wf false none=true:=by simp[Fo.wf,B1,hp,hn]
theorem Nw {c:Aa}{kids:Fo}(hp:pl c=true)(hn:0<c.fN)(hk:c.fN=kids.cnt)(hw:kids.wf (decide (c.fKind=6)) none=true):(Fo.node none c kids .nil).wf false none=true:=by simp[Fo.wf,B1,hp,hn,hk,hw];omega
section
variable {M : Nat} {v : List Aa}
theorem Hn.next (hA:Hn M v){F:Nat}(hF:3*M+3<F){p:Int}(h0:0≤p)(h1:p≤v.length):D7 F v p=some (Jr v p):=by
 have hM:=hA.hM;have hvM:=hA.hv;exact Rx (hA.rf (AcM M)) (λc hc=>(hA.hc c hc).2.2) (v.length-p.toNat) F p h0 h1 rfl (by omega)
theorem L4 {F:Nat}{p:Int}{c:Aa}{r:List Aa}(h0:0≤p)(hpM:p≤1152921504606846976)(hd:v.drop p.toNat=c::r)(hp:pl c=true)(hn:decide (0<c.fN)=false):Di (F+2) v p=some 1:=by
 obtain⟨g1,g2,g3⟩:=Ck h0 hd;rw[Di];unfold Iz;rw[AP h0 g3,Dt h0 hd]
 cases hk:(!decide (c.fKind=5)&&!decide (c.fKind=6)) with
 | true=>rw[AF rfl]
 | false=>
  rw[A0 rfl,AB (by omega) (by omega),AI (DO (o:=.go 0) (by
   show CP (F+1) v p _ 0 (p+1) 0=_;unfold CP;rw[Dt h0 hd,A0 hn]))]
  simp only[B5,Ei];rw[AB (by omega) (by omega)];rfl
theorem P3 {F:Nat}{i:Int}{rec:List Aa→Int→Option Int}{most at_ x L:Int}{m:Bool}{p q:Int}{pc:Aa}(hpc:Ao v i=pc)(hm:decide (pc.fKind=6)=m)(hx:x<pc.fN)(hx0:0≤x)(hpcN:pc.fN≤9223372036854775807)
  (ha0:0≤at_) (haM:at_≤1152921504606846976) (hp:p=bif m then at_+1 else at_) (hr:rec v p=some L) (hq:D7 F v p=some q):CP F v i rec most at_ x=some (.next (max most L,q,x+1)):=by
 unfold CP;rw[hpc,AF (by simpa using hx),hm]
 cases m with
 | true=>
  simp only[AcH] at hp;rw[AF rfl,AB (by omega) (by omega),← hp,hr,AI rfl]
  cases hl:decide (most<L) with
  | true=>rw[AF rfl,hq,AI rfl,AB (by omega) (by omega),Int.max_eq_right (by simp at hl;omega)]
  | false=>rw[A0 rfl,hq,AI rfl,AB (by omega) (by omega),Int.max_eq_left (by simp at hl;omega)]
 | false=>
  simp only[AcD] at hp;rw[A0 rfl,← hp,hr,AI rfl]
  cases hl:decide (most<L) with
  | true=>rw[AF rfl,hq,AI rfl,AB (by omega) (by omega),Int.max_eq_right (by simp at hl;omega)]
  | false=>rw[A0 rfl,hq,AI rfl,AB (by omega) (by omega),Int.max_eq_left (by simp at hl;omega)]
theorem LO {m:Bool}{last key:Option Af}(h:B1 m last key=true):((Bu key).length:Int)=bif m then 1 else 0:=by
  cases key with
  | none=>
            have:m=false:=by simpa[B1] using h
            subst this;rfl
  | some s=>simp only[B1,AcG] at h;rw[h.1.1];rfl
theorem Ry (hA:Hn M v):∀(g:Fo) (F L:Nat) (i at_ x most:Int) (m:Bool) (last:Option Af) (ys:List Aa) (pc:Aa),Ao v i=pc→decide (pc.fKind=6)=m→pc.fN≤9223372036854775807→g.wf m last=true→v.drop at_.toNat=g.flat++ys→0≤at_→at_≤v.length→pc.fN=x+g.cnt→0≤x→0≤most→most≤1152921504606846976→g.cnt<L→3*M+5+g.flat.length<F→
  ∃o,B7 (λσ=>CP F v i (Di F) σ.1 σ.2.1 σ.2.2) L (most,at_,x)=some o∧B5 (λν=>Ei ν) o=some (max most (g.dep:Int)+1):=by
 have hM:=hA.hM;have hvM:=hA.hv;have fin:∀(F L:Nat) (i at_ x most:Int) (pc:Aa),Ao v i=pc→pc.fN≤x→0≤most→most≤1152921504606846976→0<L→∃o,B7 (λσ=>CP F v i (Di F) σ.1 σ.2.1 σ.2.2) L (most,at_,x)=some o∧B5 (λν=>Ei ν) o=some (most+1):=λF L i at_ x most pc hpc hx h0 hb hL=>by
  obtain⟨L,rfl⟩:∃K,L=K+1:=⟨L-1,by omega⟩
  refine⟨.go most,DO (by show CP F v i _ most at_ x=_;unfold CP;rw[hpc,A0 (by simp;omega)]),?_⟩;simp only[B5,Ei];rw[AB (by omega) (by omega)]
 have depM:∀g:Fo,g.dep≤g.flat.length:=by
  intro g
  induction g with
  | nil=>simp[Fo.dep]
  | cell k c r ih=>simp[Fo.dep,Fo.flat];omega
  | node k c kids r ih1 ih2=>simp[Fo.dep,Fo.flat];omega
 intro g
 induction g with
 | nil=>
  intro F L i at_ x most m last ys pc hpc hm hpN hw hd h0 h1 hN hx hmo hmM hL hF;obtain⟨o,h1,h2⟩:=fin F L i at_ x most pc hpc (by simp[Fo.cnt] at hN;omega) hmo hmM (by omega);exact⟨o,h1,by rw[h2];simp only[Fo.dep];congr 2<;>omega⟩
 | cell k c r ih=>
  intro F L i at_ x most m last ys pc hpc hm hpN hw hd h0 h1 hN hx hmo hmM hL hF;simp only[Fo.wf,AcG,AcV] at hw;obtain⟨⟨⟨w1,w2⟩,w3⟩,w4⟩:=hw;simp only[Fo.flat,AcU,Ads] at hd;simp only[Fo.cnt] at hN hL;simp only[Fo.flat,AcF,AcE] at hF;obtain⟨L,rfl⟩:∃K,L=K+1:=⟨L-1,by omega⟩
  obtain⟨F,rfl⟩:∃K,F=K+2:=⟨F-2,by omega⟩
  have hd1:=C4 h0 hd;have hkl:=LO w1;obtain⟨g1,g2,g3⟩:=Ck (by omega) hd1;have hlen:at_+(Bu k).length=bif m then at_+1 else at_:=by rw[hkl];cases m<;>simp
  have hq:=hA.next (F:=F+2) (by omega) (p:=at_+(Bu k).length) (by omega) (by omega);rw[Q1 (f:=.cell none c .nil) (ys:=r.flat++ys) rfl (Nx w2 w3) hd1] at hq;have hb:=P3 (most:=most) (x:=x) hpc hm (by omega) hx hpN h0 (by omega) hlen (L4 (F:=F) (by omega) (by omega) hd1 w2 w3) hq;have hdd:=depM r;obtain⟨o,ho1,ho2⟩:=ih (F+2) L i (at_+(Bu k).length+((Fo.cell none c .nil).flat.length:Int)) (x+1) (max most 1) m k ys pc hpc hm hpN w4 (by rw[show(Fo.cell none c .nil).flat.length=1 from rfl];exact g2) (by omega) (by rw[show(Fo.cell none c .nil).flat.length=1 from rfl];omega) (by omega) (by omega) (by omega) (by omega) (by omega) (by omega);refine⟨o,ID hb ho1,?_⟩;rw[ho2,Fo.dep];congr 2<;>omega
 | node k c kids r ihk ih=>
  intro F L i at_ x most m last ys pc hpc hm hpN hw hd h0 h1 hN hx hmo hmM hL hF;simp only[Fo.wf,AcG,Ac9] at hw;obtain⟨⟨⟨⟨⟨w1,w2⟩,w3⟩,w5⟩,w6⟩,w4⟩:=hw;simp only[Fo.flat,AcU,Ads] at hd;simp only[Fo.cnt] at hN hL;simp only[Fo.flat,AcF,AcE] at hF;obtain⟨L,rfl⟩:∃K,L=K+1:=⟨L-1,by omega⟩
  obtain⟨F,rfl⟩:∃K,F=K+1:=⟨F-1,by omega⟩
  have hd1:=C4 h0 hd;have hkl:=LO w1;obtain⟨g1,g2,g3⟩:=Ck (by omega) hd1;have hcN:=(hA.hc c (AcO g1)).2.2;have hlen:at_+(Bu k).length=bif m then at_+1 else at_:=by rw[hkl];cases m<;>simp
  have hq:=hA.next (F:=F+1) (by omega) (p:=at_+(Bu k).length) (by omega) (by omega);have hfl:(Fo.node none c kids .nil).flat=c::kids.flat:=by simp[Fo.flat,Bu]
  rw[Q1 (f:=.node none c kids .nil) (ys:=r.flat++ys) rfl (Nw w2 w3 w5 w6) (by rw[hd1,hfl];simp)] at hq;have hdk:=depM kids;have hdd:=depM r;have hcf:=Cf kids;have hvl:(v.drop (at_+(Bu k).length+1).toNat).length=kids.flat.length+(r.flat.length+ys.length):=by rw[g2];simp
  rw[Ad9] at hvl;have hrec:Di (F+1) v (at_+(Bu k).length)=some ((kids.dep:Int)+1):=by
   rw[Di];unfold Iz;rw[AP (by omega) g3,Dt (by omega) hd1];have ha:=(HO w2 w3).1;rw[A0 (by simp;omega),AB (by omega) (by omega)];obtain⟨o,ho1,ho2⟩:=ihk F F (at_+(Bu k).length) (at_+(Bu k).length+1) 0 0 _ none (r.flat++ys) c (Dt (by omega) hd1) rfl hcN w6 (by rw[g2]) (by omega) (by omega) (by omega) (AcX 0) (AcX 0) (by omega) (by omega) (by omega);rw[AI ho1,ho2];congr 2<;>omega
  have hb:=P3 (most:=most) (x:=x) hpc hm (by omega) hx hpN h0 (by omega) hlen hrec hq;obtain⟨o,ho1,ho2⟩:=ih (F+1) L i (at_+(Bu k).length+((Fo.node none c kids .nil).flat.length:Int)) (x+1) (max most ((kids.dep:Int)+1)) m k ys pc hpc hm hpN w4 (by
   have:=C4 (by omega) g2;rw[hfl,AcE,show at_+(Bu k).length+((kids.flat.length+1:Nat):Int)=at_+(Bu k).length+1+kids.flat.length from by omega];exact this) (by omega) (by rw[hfl,AcE];omega) (by omega) (by omega) (by omega) (by omega) (by omega) (by omega)
  refine⟨o,ID hb ho1,?_⟩;rw[ho2,Fo.dep];congr 2<;>omega
theorem SV (hA:Hn M v){F:Nat}{p:Int}{f:Fo}{ys:List Aa}(h0:0≤p)(h1:f.one=true)(hw:f.wf false none=true)(hd:v.drop p.toNat=f.flat++ys)(hF:3*M+6+f.flat.length<F):Di F v p=some (f.dep:Int):=by
 have hM:=hA.hM;have hvM:=hA.hv
 cases f with
 | nil=>cases h1
 | cell k c r=>
  cases k with
  | some s=>cases h1
  | none=>
   cases r with
   | nil=>
    simp only[Fo.wf,AcG,AcV] at hw;obtain⟨F,rfl⟩:∃K,F=K+2:=⟨F-2,by omega⟩
    have hd':v.drop p.toNat=c::ys:=by simpa[Fo.flat,Bu] using hd
    rw[L4 h0 (by have:=(Ck h0 hd').2.2;omega) hd' hw.1.1.2 hw.1.2];rfl
   | cell _ _ _=>cases h1
   | node _ _ _ _=>cases h1
 | node k c kids r=>
  cases k with
  | some s=>cases h1
  | none=>
   cases r with
   | nil=>
    simp only[Fo.wf,AcG,Ac9] at hw;obtain⟨⟨⟨⟨⟨w1,w2⟩,w3⟩,w5⟩,w6⟩,w4⟩:=hw;have hd':v.drop p.toNat=c::(kids.flat++ys):=by simpa[Fo.flat,Bu] using hd
    obtain⟨g1,g2,g3⟩:=Ck h0 hd';have hcN:=(hA.hc c (AcO g1)).2.2;have hcf:=Cf kids;simp only[Fo.flat,Bu,Adg,Adk,AcE] at hF;obtain⟨F,rfl⟩:∃K,F=K+1:=⟨F-1,by omega⟩
    rw[Di];unfold Iz;have ha:=(HO w2 w3).1;rw[AP h0 g3,Dt h0 hd',A0 (by simp;omega),AB (by omega) (by omega)];obtain⟨o,ho1,ho2⟩:=Ry hA kids F F p (p+1) 0 0 _ none ys c (Dt h0 hd') rfl hcN w6 g2 (by omega) (by omega) (by omega) (AcX 0) (AcX 0) (by omega) (by omega) (by omega);rw[AI ho1,ho2];simp only[Fo.dep];congr 1<;>omega
   | cell _ _ _=>cases h1
   | node _ _ _ _=>cases h1
end
def Nr (c:UInt8):Af:=bif (decide (c=34)||decide (c=92)) then[92,c] else[c]
theorem MA {s:Af}{k:Nat}{c:UInt8}(h:s[k]? =some c):Em (s.take (k+1))=Em (s.take k)++Nr c:=by
 rw[List.take_add_one,h];simp[Em,List.flatMap_append,Nr]
theorem Su (s:Af):(Em s).length≤3*s.length:=by
 rw[LZ];have h1:s.count 34≤s.length:=List.count_le_length;have h2:s.count 92≤s.length:=List.count_le_length;omega
theorem SP {s:Af}{x:Int}{c:UInt8}(h0:0≤x)(h:s[x.toNat]? =some c):List.take (Int.toNat (x+1)-Int.toNat x) (List.drop (Int.toNat x) s)=[c]:=by
 have hl:=(List.getElem?_eq_some_iff.1 h).1;have hc:=(List.getElem?_eq_some_iff.1 h).2;rw[show Int.toNat (x+1)-Int.toNat x=1 from by omega,List.drop_eq_getElem_cons hl,hc];rfl
theorem Aa8 {s:Af}{x:Int}{c:UInt8}(h:s[x.toNat]? =some c):decide (Bm s x=34)=decide (c=34):=by
 rw[Hb h,AcT,decide_eq_true_iff,decide_eq_true_iff,← Ad8];show _↔c.toNat=34;omega
theorem Aa7 {s:Af}{x:Int}{c:UInt8}(h:s[x.toNat]? =some c):decide (Bm s x=92)=decide (c=92):=by
 rw[Hb h,AcT,decide_eq_true_iff,decide_eq_true_iff,← Ad8];show _↔c.toNat=92;omega
theorem Qr {s out:Af}{x:Int}{c:UInt8}(h0:0≤x)(hx:x<(s.length:Int))(hs:s.length≤1152921504606846976)(ho:out.length≤3*s.length+1)(hc:s[x.toNat]? =some c):Df s out x=some (.next (out++Nr c,x+1)):=by
 unfold Df Nr;rw[AF (AcC hx),AP h0 hx,Aa8 hc,Aa7 hc,SP h0 hc];have l1:(([92]:Af).length:Int)=1:=rfl;have l2:(([c]:Af).length:Int)=1:=rfl
 cases hq:(decide (c=34)||decide (c=92)) with
 | true=>
  have l3:((out++([92]:Af)).length:Int)=out.length+1:=by rw[AcF,Ade,Int.natCast_add];rfl
  rw[AF rfl,l1,l2,l3,AB (by omega) (by omega),AB (by omega) (by omega),Ca (by omega) (by omega),Ca (by omega) (by omega),AB (by omega) (by omega),AcU];rfl
 | false=>
  rw[A0 rfl,l2,AB (by omega) (by omega),Ca (by omega) (by omega),Ca (by omega) (by omega),AB (by omega) (by omega)];rfl
theorem CC {R V:Type}(K:V→Option R)(v:V):B5 K (.go v)=K v:=rfl
theorem Ov {R V:Type}(K:V→Option R)(r:R):B5 K (.ret r)=some r:=rfl
theorem Rw {s out:Af}{x:Int}(hx : ¬ x<(s.length:Int)):Df s out x=some (.out (.go out)):=by
 unfold Df;rw[A0 (AcB hx)]
theorem UU {out:Af}(h:out.length≤4611686018427387904):DD out=some (out++[34]):=by
 unfold DD;have l1:(([34]:Af).length:Int)=1:=rfl;rw[l1,AB (by omega) (by omega)]
theorem KX {F:Nat}{s:Af}(hF:s.length<F)(hs:s.length≤1152921504606846976):IX F s=some (Ek s):=by
 obtain⟨o,h1,h2⟩:=Gj (body:=λσ=>Df s σ.1 σ.2) (λσ=>0≤σ.2∧σ.2≤(s.length:Int)∧σ.1=34::Em (s.take σ.2.toNat)) (λσ=>s.length-σ.2.toNat)
  (λo=>B5 (λν=>DD ν) o=some (Ek s)) (λσ ⟨h0,hl,ha⟩=>by
   obtain⟨out,x⟩:=σ;simp only at h0 hl ha;show(∃s',Df s out x=_∧_)∨∃o,Df s out x=_∧_;have hb:=Su (s.take x.toNat);have hb2:(s.take x.toNat).length≤s.length:=by rw[List.length_take];omega
   have hol:out.length≤3*s.length+1:=by rw[ha,AcE];omega
   by_cases hx:x<(s.length:Int)
   ·obtain⟨c,hc⟩:∃c,s[x.toNat]? =some c:=⟨s[x.toNat]'(by omega),AcL (by omega)⟩
    have a1:0≤x+1:=by omega
    have a2:x+1≤s.length:=by omega
    have a3:s.length-(x+1).toNat<s.length-x.toNat:=by omega
    have a4:out++Nr c=34::Em (s.take (x+1).toNat):=by rw[show(x+1).toNat=x.toNat+1 from by omega,MA hc,ha];rfl
    exact .inl ⟨(out++Nr c,x+1),Qr h0 hx hs hol hc,⟨a1,a2,a4⟩,a3⟩
   ·have e:x.toNat=s.length:=by omega
    have hk:DD out=some (out++[34]):=UU (by omega);have hf:out++[34]=Ek s:=by rw[ha,e,Ad5];rfl
    exact .inr ⟨.go out,Rw hx,(CC (λν=>DD ν) out).trans (hk.trans (congrArg some hf))⟩) F ([34],0) ⟨AcX 0,by show(0:Int)≤s.length;omega,by show([34]:Af)=34::Em (s.take 0);simp[Em]⟩ (by show s.length-0<F;omega)
 unfold IX;rw[AI h1,h2]
section
variable {M : Nat} {v : List Aa}
theorem AbV (a b c d e:Af):(((a++b)++c)++d)++e=a++(b++(c++d)++e):=by simp
theorem AbW (a b c d:Af):((a++b)++c)++d=a++([]++(b++c)++d):=by simp
theorem AbX (a b c:Af):(a++b)++c=a++(b++[]++c):=by simp
theorem AbY (a b:Af):a++b=a++([]++[]++b):=by simp
theorem ZJ (a:Af)(c:UInt8):((a++[c]).length:Int)=a.length+1:=by rw[AcF,Ade,Int.natCast_add];rfl
theorem RZ (a b:Af):((a++b).length:Int)=a.length+b.length:=by rw[AcF,Int.natCast_add]
theorem P0 {F:Nat}{i:Int}{rec:List Aa→Int→Option Af}{out tx:Af}{at_ x:Int}{m:Bool}{p q:Int}{pc:Aa}{key:Option Af}{last:Option Af}(hpc:Ao v i=pc)(hm:decide (pc.fKind=6)=m)(hx:x<pc.fN)(hx0:0≤x)(hpcN:pc.fN≤9223372036854775807)
  (ha0:0≤at_) (haM:at_<v.length) (hvM:(v.length:Int)≤1152921504606846976) (hk:B1 m last key=true) (hkey:∀s,key=some s→(Ao v at_).fStr=s∧s.length<F∧s.length≤1152921504606846976) (hp:p=bif m then at_+1 else at_) (hr:rec v p=some tx) (hq:D7 F v p=some q)
  (hlen:((out++(CA (decide (x=0))++Gu key++tx)).length:Int)≤4611686018427387904):Eh F v i rec out at_ x=some (.next (out++(CA (decide (x=0))++Gu key++tx),q,x+1)):=by
 have hb:(([44]:Af).length:Int)=1:=rfl;have hd:(([58]:Af).length:Int)=1:=rfl;have hx1:AX (B9 .i64 (x+1)) (some (Stp.next (out++(CA (decide (x=0))++Gu key++tx),q,x+1)):Option (Stp (Af×Int×Int) (Out Af Af)))=some (Stp.next (out++(CA (decide (x=0))++Gu key++tx),q,x+1)):=AB (by omega) (by omega);unfold Eh;rw[hpc,AF (AcC hx),hm]
 cases ha:decide (x=0) with
 | true=>
  rw[ha] at hx1 hlen;simp only[Ac9] at ha;rw[A0 (AcB (by omega))]
  cases m with
  | true=>
   cases key with
   | none=>simp[B1] at hk
   | some s=>
    obtain⟨e1,e2,e3⟩:=hkey s rfl;simp only[AcH] at hp;have e:((out++Ek s)++[58])++tx=out++(CA true++Gu (some s)++tx):=AbW _ _ _ _;rw[← e] at hx1 hlen ⊢;have h1:=RZ ((out++Ek s)++[58]) tx;have h2:=ZJ (out++Ek s) 58;have h3:=RZ out (Ek s);rw[AF rfl,AP ha0 haM,e1,KX e2 e3,AI rfl,AB (by omega) (by omega),hd,AB (by omega) (by omega),AB (by omega) (by omega),← hp,hr,AI rfl,AB (by omega) (by omega),hq,AI rfl,hx1]
  | false=>
   cases key with
   | some s=>simp[B1] at hk
   | none=>
    simp only[AcD] at hp;have e:out++tx=out++(CA true++Gu none++tx):=AbY _ _;rw[← e] at hx1 hlen ⊢;have h1:=RZ out tx;rw[A0 rfl,← hp,hr,AI rfl,AB (by omega) (by omega),hq,AI rfl,hx1]
 | false=>
  rw[ha] at hx1 hlen;simp only[AcA] at ha;rw[AF (AcC (by omega))]
  cases m with
  | true=>
   cases key with
   | none=>simp[B1] at hk
   | some s=>
    obtain⟨e1,e2,e3⟩:=hkey s rfl;simp only[AcH] at hp;have e:(((out++[44])++Ek s)++[58])++tx=out++(CA false++Gu (some s)++tx):=AbV _ _ _ _ _;rw[← e] at hx1 hlen ⊢;have h1:=RZ (((out++[44])++Ek s)++[58]) tx;have h2:=ZJ ((out++[44])++Ek s) 58;have h3:=RZ (out++[44]) (Ek s);have h4:=ZJ out 44;rw[hb,AB (by omega) (by omega),AF rfl,AP ha0 haM,e1,KX e2 e3,AI rfl,AB (by omega) (by omega),hd,AB (by omega) (by omega),AB (by omega) (by omega),← hp,hr,AI rfl,AB (by omega) (by omega),hq,AI rfl,hx1]
  | false=>
   cases key with
   | some s=>simp[B1] at hk
   | none=>
    simp only[AcD] at hp;have e:(out++[44])++tx=out++(CA false++Gu none++tx):=AbX _ _ _;rw[← e] at hx1 hlen ⊢;have h1:=RZ (out++[44]) tx;have h4:=ZJ out 44;rw[hb,AB (by omega) (by omega),A0 rfl,← hp,hr,AI rfl,AB (by omega) (by omega),hq,AI rfl,hx1]
theorem TG {i:Int}{pc:Aa}{out:Af}(hpc:Ao v i=pc)(h:out.length≤4611686018427387904):H0 v i out=some (Nj pc out):=by
 unfold H0 Nj;have l1:(([123]:Af).length:Int)=1:=rfl;have l2:(([91]:Af).length:Int)=1:=rfl;have l3:(([125]:Af).length:Int)=1:=rfl;have l4:(([93]:Af).length:Int)=1:=rfl;have h1:=RZ [123] out;have h2:=RZ [91] out;rw[hpc]
 cases hk:decide (pc.fKind=6) with
 | true=>rw[AF rfl,AB (by omega) (by omega),AB (by omega) (by omega)];rfl
 | false=>rw[A0 rfl,AB (by omega) (by omega),AB (by omega) (by omega)];rfl
theorem Oi {F:Nat}{p:Int}{c:Aa}{r:List Aa}(h0:0≤p)(hpM:p≤1152921504606846976)(hd:v.drop p.toNat=c::r)(hp:pl c=true)(hn:decide (0<c.fN)=false)(hs:c.fStr.length<F+1)(hs2:c.fStr.length≤1152921504606846976)(hi:B9 .i64 c.fInt=true):GH (F+2) v p=some (D4 c):=by
 obtain⟨g1,g2,g3⟩:=Ck h0 hd;rw[GH];unfold Mr D4;rw[AP h0 g3,Dt h0 hd]
 cases k1:decide (c.fKind=1) with
 | true=>rw[AF rfl];rfl
 | false=>
 rw[A0 rfl]
 cases k2:decide (c.fKind=2) with
 | true=>rw[AF rfl];cases decide (c.fInt=1)<;>rfl
 | false=>
 rw[A0 rfl]
 cases k3:decide (c.fKind=3) with
 | true=>rw[AF rfl,BL hi];rfl
 | false=>
 rw[A0 rfl]
 cases k4:decide (c.fKind=4) with
 | true=>rw[AF rfl,KX hs hs2,AI rfl];rfl
 | false=>
 have hgo:Eh (F+1) v p (GH (F+1)) [] (p+1) 0=some (.out (.go [])):=by
  unfold Eh;rw[Dt h0 hd,A0 hn]
 rw[A0 rfl,AB (by omega) (by omega),AI (DO (o:=.go []) hgo),CC,TG (Dt h0 hd) (by simp)];simp only[AcD,Nj]
 cases decide (c.fKind=6)<;>rfl
end
section
variable {M : Nat} {v : List Aa}
theorem Kl {α:Type}[Inhabited α](a:α):ov (some a)=a:=rfl
theorem XL {at_:Int}{k:Option Af}{r:List Aa}(h0:0≤at_)(hA:Hn M v){F:Nat}(hF:M<F)(hd:v.drop at_.toNat=Bu k++r):∀s,k=some s→(Ao v at_).fStr=s∧s.length<F∧s.length≤1152921504606846976:=λs e=>by
 subst e;have hd':v.drop at_.toNat=⟨4,0,s,0⟩::r:=by simpa[Bu] using hd
 have h1:=Dt h0 hd';have h2:=(hA.hc _ (AcO (Ck h0 hd').1)).1;have hM:=hA.hM;simp only at h2;exact⟨by rw[h1],by omega,by omega⟩
theorem Rs (hA:Hn M v):∀(g:Fo) (F L:Nat) (i at_ x:Int) (out:Af) (m:Bool) (last:Option Af) (ys:List Aa) (pc:Aa),Ao v i=pc→decide (pc.fKind=6)=m→pc.fN≤9223372036854775807→g.wf m last=true→v.drop at_.toNat=g.flat++ys→0≤at_→at_≤v.length→pc.fN=x+g.cnt→0≤x→(out++g.txt (decide (x=0))).length≤4611686018427387904→g.cnt<L→3*M+5+g.flat.length<F→
  ∃o,B7 (λσ=>Eh F v i (GH F) σ.1 σ.2.1 σ.2.2) L (out,at_,x)=some o∧B5 (λν=>H0 v i ν) o=some (Nj pc (out++g.txt (decide (x=0)))):=by
 have hM:=hA.hM;have hvM:=hA.hv;intro g
 induction g with
 | nil=>
  intro F L i at_ x out m last ys pc hpc hm hpN hw hd h0 h1 hN hx hlen hL hF;obtain⟨L,rfl⟩:∃K,L=K+1:=⟨L-1,by omega⟩
  have hgo:Eh F v i (GH F) out at_ x=some (.out (.go out)):=by
   simp only[Fo.cnt] at hN;unfold Eh;rw[hpc,A0 (AcB (by omega))]
  refine⟨.go out,DO hgo,?_⟩;simp only[Fo.txt,Adk] at hlen ⊢;rw[CC,TG hpc hlen]
 | cell k c r ih=>
  intro F L i at_ x out m last ys pc hpc hm hpN hw hd h0 h1 hN hx hlen hL hF;simp only[Fo.wf,AcG,AcV] at hw;obtain⟨⟨⟨w1,w2⟩,w3⟩,w4⟩:=hw;simp only[Fo.flat,AcU,Ads] at hd;simp only[Fo.cnt] at hN hL;simp only[Fo.flat,AcF,AcE] at hF;obtain⟨L,rfl⟩:∃K,L=K+1:=⟨L-1,by omega⟩
  obtain⟨F,rfl⟩:∃K,F=K+2:=⟨F-2,by omega⟩
  have hd1:=C4 h0 hd;have hkl:=LO w1;obtain⟨g1,g2,g3⟩:=Ck (by omega) hd1;have hcM:=hA.hc c (AcO g1);have hp:at_+(Bu k).length=bif m then at_+1 else at_:=by rw[hkl];cases m<;>simp
  have hq:=hA.next (F:=F+2) (by omega) (p:=at_+(Bu k).length) (by omega) (by omega);rw[Q1 (f:=.cell none c .nil) (ys:=r.flat++ys) rfl (Nx w2 w3) hd1] at hq;have e:out++(Fo.cell k c r).txt (decide (x=0))=(out++(CA (decide (x=0))++Gu k++D4 c))++r.txt (decide (x+1=0)):=by
   rw[AcB (show ¬ x+1=0 by omega)];simp[Fo.txt]
  rw[e] at hlen ⊢;have hl2:((out++(CA (decide (x=0))++Gu k++D4 c)).length:Int)≤4611686018427387904:=by rw[AcF] at hlen;omega
  have hat:at_<v.length:=by omega
  have hb:=P0 hpc hm (by omega) hx hpN h0 hat (by omega) w1 (XL h0 hA (F:=F+2) (by omega) hd) hp (Oi (F:=F) (by omega) (by omega) hd1 w2 w3 (by omega) (by omega) hcM.2.1) hq hl2;obtain⟨o,ho1,ho2⟩:=ih (F+2) L i (at_+(Bu k).length+((Fo.cell none c .nil).flat.length:Int)) (x+1) (out++(CA (decide (x=0))++Gu k++D4 c)) m k ys pc hpc hm hpN w4 (by rw[show(Fo.cell none c .nil).flat.length=1 from rfl];exact g2) (by omega) (by rw[show(Fo.cell none c .nil).flat.length=1 from rfl];omega) (by omega) (by omega) hlen (by omega) (by omega);exact⟨o,ID hb ho1,ho2⟩
 | node k c kids r ihk ih=>
  intro F L i at_ x out m last ys pc hpc hm hpN hw hd h0 h1 hN hx hlen hL hF;simp only[Fo.wf,AcG,Ac9] at hw;obtain⟨⟨⟨⟨⟨w1,w2⟩,w3⟩,w5⟩,w6⟩,w4⟩:=hw;simp only[Fo.flat,AcU,Ads] at hd;simp only[Fo.cnt] at hN hL;simp only[Fo.flat,AcF,AcE] at hF;obtain⟨L,rfl⟩:∃K,L=K+1:=⟨L-1,by omega⟩
  obtain⟨F,rfl⟩:∃K,F=K+1:=⟨F-1,by omega⟩
  have hd1:=C4 h0 hd;have hkl:=LO w1;obtain⟨g1,g2,g3⟩:=Ck (by omega) hd1;have hcN:=(hA.hc c (AcO g1)).2.2;have hp:at_+(Bu k).length=bif m then at_+1 else at_:=by rw[hkl];cases m<;>simp
  have hq:=hA.next (F:=F+1) (by omega) (p:=at_+(Bu k).length) (by omega) (by omega);have hfl:(Fo.node none c kids .nil).flat=c::kids.flat:=by simp[Fo.flat,Bu]
  rw[Q1 (f:=.node none c kids .nil) (ys:=r.flat++ys) rfl (Nw w2 w3 w5 w6) (by rw[hd1,hfl];simp)] at hq;have hcf:=Cf kids;have hvl:(v.drop (at_+(Bu k).length+1).toNat).length=kids.flat.length+(r.flat.length+ys.length):=by rw[g2];simp
  rw[Ad9] at hvl;have e:out++(Fo.node k c kids r).txt (decide (x=0))=(out++(CA (decide (x=0))++Gu k++Nj c (kids.txt true)))++r.txt (decide (x+1=0)):=by
   rw[AcB (show ¬ x+1=0 by omega)];simp[Fo.txt]
  rw[e] at hlen ⊢;have hl2:((out++(CA (decide (x=0))++Gu k++Nj c (kids.txt true))).length:Int)≤4611686018427387904:=by rw[AcF] at hlen;omega
  have hl3:(kids.txt true).length≤4611686018427387904:=by
   have:=Ji c (kids.txt true);rw[AcF,AcF] at hl2;omega
  have hat:at_<v.length:=by omega
  have hrec:GH (F+1) v (at_+(Bu k).length)=some (Nj c (kids.txt true)):=by
   rw[GH];unfold Mr;have ha:=(HO w2 w3).1;rw[AP (by omega) g3,Dt (by omega) hd1,A0 (AcB (by omega)),A0 (AcB (by omega)),A0 (AcB (by omega)),A0 (AcB (by omega)),AB (by omega) (by omega)];obtain⟨o,ho1,ho2⟩:=ihk F F (at_+(Bu k).length) (at_+(Bu k).length+1) 0 [] _ none (r.flat++ys) c (Dt (by omega) hd1) rfl hcN w6 (by rw[g2]) (by omega) (by omega) (by omega) (AcX 0) hl3 (by omega) (by omega);rw[AI ho1,ho2];rfl
  have hb:=P0 hpc hm (by omega) hx hpN h0 hat (by omega) w1 (XL h0 hA (F:=F+1) (by omega) hd) hp hrec hq hl2;obtain⟨o,ho1,ho2⟩:=ih (F+1) L i (at_+(Bu k).length+((Fo.node none c kids .nil).flat.length:Int)) (x+1) (out++(CA (decide (x=0))++Gu k++Nj c (kids.txt true))) m k ys pc hpc hm hpN w4 (by
   have:=C4 (by omega) g2;rw[hfl,AcE,show at_+(Bu k).length+((kids.flat.length+1:Nat):Int)=at_+(Bu k).length+1+kids.flat.length from by omega];exact this) (by omega) (by rw[hfl,AcE];omega) (by omega) (by omega) hlen (by omega) (by omega)
  exact⟨o,ID hb ho1,ho2⟩
theorem Rt (hA:Hn M v){F:Nat}{p:Int}{f:Fo}{ys:List Aa}(h0:0≤p)(h1:f.one=true)(hw:f.wf false none=true)(hd:v.drop p.toNat=f.flat++ys)(hF:3*M+6+f.flat.length<F)(hlen:(f.txt true).length≤4611686018427387904):GH F v p=some (f.txt true):=by
 have hM:=hA.hM;have hvM:=hA.hv
 cases f with
 | nil=>cases h1
 | cell k c r=>
  cases k with
  | some s=>cases h1
  | none=>
   cases r with
   | nil=>
    simp only[Fo.wf,AcG,AcV] at hw;obtain⟨F,rfl⟩:∃K,F=K+2:=⟨F-2,by omega⟩
    have hd':v.drop p.toNat=c::ys:=by simpa[Fo.flat,Bu] using hd
    have hcM:=hA.hc c (AcO (Ck h0 hd').1);rw[Oi h0 (by have:=(Ck h0 hd').2.2;omega) hd' hw.1.1.2 hw.1.2 (by omega) (by omega) hcM.2.1];simp[Fo.txt,CA,Gu]
   | cell _ _ _=>cases h1
   | node _ _ _ _=>cases h1
 | node k c kids r=>
  cases k with
  | some s=>cases h1
  | none=>
   cases r with
   | nil=>
    simp only[Fo.wf,AcG,Ac9] at hw;obtain⟨⟨⟨⟨⟨w1,w2⟩,w3⟩,w5⟩,w6⟩,w4⟩:=hw;have hd':v.drop p.toNat=c::(kids.flat++ys):=by simpa[Fo.flat,Bu] using hd
    obtain⟨g1,g2,g3⟩:=Ck h0 hd';have hcN:=(hA.hc c (AcO g1)).2.2;have hcf:=Cf kids;simp only[Fo.flat,Bu,Adg,Adk,AcE] at hF;have et:(Fo.node none c kids .nil).txt true=Nj c (kids.txt true):=by simp[Fo.txt,CA,Gu]
    rw[et] at hlen ⊢;have hbl:=Ji c (kids.txt true);obtain⟨F,rfl⟩:∃K,F=K+1:=⟨F-1,by omega⟩
    rw[GH];unfold Mr;have ha:=(HO w2 w3).1;rw[AP h0 g3,Dt h0 hd',A0 (AcB (by omega)),A0 (AcB (by omega)),A0 (AcB (by omega)),A0 (AcB (by omega)),AB (by omega) (by omega)];obtain⟨o,ho1,ho2⟩:=Rs hA kids F F p (p+1) 0 [] _ none ys c (Dt h0 hd') rfl hcN w6 g2 (by omega) (by omega) (by omega) (AcX 0) (by show(kids.txt true).length≤_;omega) (by omega) (by omega);rw[AI ho1,ho2];rfl
   | cell _ _ _=>cases h1
   | node _ _ _ _=>cases h1
theorem Vc {F:Nat}{K:Option Int}(hF:v.length<F)(hv:v.length≤1152921504606846976):Br (B7 (λσ=>Eu v σ) F 0) (B5 λ_=>K)=bif v.any BT then some 2 else K:=by
 obtain⟨o,h1,h2⟩:=Gj (body:=λσ=>Eu v σ) (λx=>0≤x∧x≤(v.length:Int)∧(v.take x.toNat).any BT=false) (λx=>v.length-x.toNat)
  (λo=>B5 (λ_=>K) o=bif v.any BT then some 2 else K) (λx ⟨h0,hl,ha⟩=>by
   by_cases hx:x<(v.length:Int)
   ·obtain⟨c,hc⟩:∃c,v[x.toNat]? =some c:=⟨v[x.toNat]'(by omega),AcL (by omega)⟩
    have hat:Ao v x=c:=by simp[Ao,hc]
    have ho:(decide (c.fKind=3)&&(decide (c.fInt<(-1000000000000))||decide (1000000000000<c.fInt)))=BT c:=by
     unfold BT
     cases decide (c.fKind=3) with
     | false=>rfl
     | true=>
      rw[AcQ,AcQ,AcT];simp only[Adu,Ac9,AcV,Ad4,AcA];omega
    have hb:Eu v x=Bf (BT c) (some (.out (.ret 2))) (some (.next (x+1))):=by
     unfold Eu;rw[AF (AcC hx),AP h0 hx,hat,ho,AB (by omega) (by omega)]
    cases hq:BT c with
    | true=>
     refine .inr ⟨.ret 2,hb.trans (AF hq),?_⟩;have:v.any BT=true:=List.any_eq_true.2 ⟨c,AcO hc,hq⟩;rw[Ov,this];rfl
    | false=>
     have a3:(v.take (x+1).toNat).any BT=false:=by
      rw[show(x+1).toNat=x.toNat+1 from by omega,List.take_add_one,hc,List.any_append,ha];simp[hq]
     exact .inl ⟨x+1,hb.trans (A0 hq),⟨by omega,by omega,a3⟩,by omega⟩
   ·refine .inr ⟨.go (),by unfold Eu;rw[A0 (AcB hx)],?_⟩;rw[show x.toNat=v.length from by omega,Ad5] at ha;rw[CC,ha];rfl) F 0 ⟨AcX 0,by omega,by simp⟩ (by simpa using hF)
 rw[AI h1,h2]
theorem Vb {F:Nat}{K:Option Int}(hF:v.length<F)(hv:v.length≤1152921504606846976):Br (B7 (λσ=>Et v σ) F 0) (B5 λ_=>K)=bif v.any H8 then some 3 else K:=by
 obtain⟨o,h1,h2⟩:=Gj (body:=λσ=>Et v σ) (λx=>0≤x∧x≤(v.length:Int)∧(v.take x.toNat).any H8=false) (λx=>v.length-x.toNat)
  (λo=>B5 (λ_=>K) o=bif v.any H8 then some 3 else K) (λx ⟨h0,hl,ha⟩=>by
   by_cases hx:x<(v.length:Int)
   ·obtain⟨c,hc⟩:∃c,v[x.toNat]? =some c:=⟨v[x.toNat]'(by omega),AcL (by omega)⟩
    have hat:Ao v x=c:=by simp[Ao,hc]
    have hb:Et v x=Bf (H8 c) (some (.out (.ret 3))) (some (.next (x+1))):=by
     unfold Et;rw[AF (AcC hx),AP h0 hx,hat,AB (by omega) (by omega)];rfl
    cases hq:H8 c with
    | true=>
     refine .inr ⟨.ret 3,hb.trans (AF hq),?_⟩;have:v.any H8=true:=List.any_eq_true.2 ⟨c,AcO hc,hq⟩;rw[Ov,this];rfl
    | false=>
     have a3:(v.take (x+1).toNat).any H8=false:=by
      rw[show(x+1).toNat=x.toNat+1 from by omega,List.take_add_one,hc,List.any_append,ha];simp[hq]
     exact .inl ⟨x+1,hb.trans (A0 hq),⟨by omega,by omega,a3⟩,by omega⟩
   ·refine .inr ⟨.go (),by unfold Et;rw[A0 (AcB hx)],?_⟩;rw[show x.toNat=v.length from by omega,Ad5] at ha;rw[CC,ha];rfl) F 0 ⟨AcX 0,by omega,by simp⟩ (by simpa using hF)
 rw[AI h1,h2]
theorem QD:decide (Jr v 0=v.length)=(whole v).isSome:=by
 unfold Jr whole;rw[show v.drop (0:Int).toNat=v from rfl]
 cases hp:I6 v with
 | none=>simp
 | some q=>
  obtain⟨f,ys⟩:=q;have h1:=(Kj hp).1;have hl:v.length=f.flat.length+ys.length:=by rw[h1];simp
  cases ys with
  | nil=>simp at hl ⊢;omega
  | cons c r=>simp at hl ⊢;omega
theorem Kf (hA:Hn M v)(hM:M≤1000000){F:Nat}(hF:4*M+6<F):KY F v=some (GO v):=by
 have hvM:=hA.hv;unfold KY;rw[SW (hA.rf (AcM M)) (λc hc=>(hA.hc c hc).2.2) (by omega),AI rfl,QD];unfold GO
 cases hwh:whole v with
 | none=>rfl
 | some f=>
  obtain⟨h1,h2,h3⟩:=Hu hwh;rw[A0 (p:=!(some f).isSome) rfl]
  change _=some (ER f)
  have hl:v.length=f.flat.length:=by rw[h1]
  have hc:∀c∈f.flat,c.fStr.length≤M∧B9 .i64 c.fInt=true∧c.fN≤9223372036854775807:=λc hc=>hA.hc c (by rw[h1];exact hc);have hb:=K2 hM h2 (by omega) hc;have htl:((f.txt true).length:Int)=f.byt:=by rw[HM f false none true h2,N6 h3];simp
  have hd0:v.drop (0:Int).toNat=f.flat++[]:=by rw[Adk];exact h1
  rw[Vc (by omega) (by omega)];unfold ER I2;rw[SV hA (AcX 0) h3 h2 hd0 (by omega),BL (by simp[imp]),Vb (by omega) (by omega)];unfold I1;rw[Rt hA (AcX 0) h3 h2 hd0 (by omega) (by omega),AI rfl];rw[Kl,hl,← h1];have a1:decide ((200:Int)<(v.length:Int))=decide (200<v.length):=by rw[AcT];simp;omega
  have a2:decide ((8:Int)<(f.dep:Int))=decide (8<f.dep):=by rw[AcT];simp;omega
  have a3:decide ((4000:Int)<((f.txt true).length:Int))=decide (4000<(f.txt true).length):=by rw[AcT];simp;omega
  rw[a1,a2,a3]
  cases v.any BT<;>cases v.any H8<;>cases decide (200<v.length)<;>cases decide (8<f.dep)<;>cases decide (4000<(f.txt true).length)<;>rfl
end
theorem Dk {α:Type}{n:Nat}{x:Option α}(h:n≤140737488355328):AX (Dw 1 n) x=x:=BL (AcC (by omega))
theorem Ga {α β:Type}(a:α)(k:α→Option β):Ll a k=k a:=rfl
theorem HH {α:Type}{n:Int}{x:Option α}(h:0≤n)(h':n≤255):AX (B9 .u8 n) x=x:=BL (ZU h h')
theorem YL {s:Af}{x:Int}{c:UInt8}(h:s[x.toNat]? =some c):UInt8.ofNat (Int.toNat (Bm s x))=c∧0≤Bm s x∧Bm s x≤255:=by
 have:=UInt8.toNat_lt c;rw[Hb h];refine⟨?_,by omega,by omega⟩;rw[← Ad8];simp
theorem Rh {s l:Af}{x:Int}{c:UInt8}(h0:0≤x)(hx:x<(s.length:Int))(hs:s.length≤1152921504606846976)(hl:l.length+2≤140737488355328)(hc:s[x.toNat]? =some c):Dz s x l=some (.next (x+1,l++Nr c)):=by
 obtain⟨b1,b2,b3⟩:=YL hc;unfold Dz Nr;rw[AF (AcC hx),AP h0 hx,Aa8 hc,Aa7 hc];have l1:(l++[UInt8.ofNat (Int.toNat 92)]).length=l.length+1:=by simp
 cases hq:(decide (c=34)||decide (c=92)) with
 | true=>
  rw[AF rfl,Dk (by omega),HH (by decide) (by decide),Ga,l1,Dk (by omega),HH b2 b3,Ga,b1,AB (by omega) (by omega),AcU];rfl
 | false=>
  rw[A0 rfl,Dk (by omega),HH b2 b3,Ga,b1,AB (by omega) (by omega)];rfl
theorem Wy {l:Af}(h:l.length+1≤140737488355328):EU l=some (l++[34]):=by
 unfold EU;rw[Dk h,Ga];rfl
theorem Mn {F:Nat}{l s:Af}(hF:s.length<F)(hl:(l++Ek s).length≤140737488355328):KS F l s=some (l++Ek s):=by
 have hq:(Ek s).length=(Em s).length+2:=by simp[Ek]
 rw[AcF,hq] at hl;have hesc:∀k,(Em (s.take k)).length≤(Em s).length:=λk=>by
  have:Em s=Em (s.take k)++Em (s.drop k):=by rw[Em,Em,Em,← List.flatMap_append,Ady]
  rw[this,AcF];omega
 have hsl:s.length≤(Em s).length:=by rw[LZ];omega
 obtain⟨o,h1,h2⟩:=Gj (body:=λσ=>Dz s σ.1 σ.2) (λσ=>0≤σ.1∧σ.1≤(s.length:Int)∧σ.2=l++[34]++Em (s.take σ.1.toNat)) (λσ=>s.length-σ.1.toNat)
  (λo=>B5 (λν=>EU ν) o=some (l++Ek s)) (λσ ⟨h0,hlx,ha⟩=>by
   obtain⟨x,out⟩:=σ;simp only at h0 hlx ha;show(∃s',Dz s x out=_∧_)∨∃o,Dz s x out=_∧_;have hol:out.length=l.length+1+(Em (s.take x.toNat)).length:=by rw[ha];simp;omega
   have he:=hesc x.toNat
   by_cases hx:x<(s.length:Int)
   ·obtain⟨c,hc⟩:∃c,s[x.toNat]? =some c:=⟨s[x.toNat]'(by omega),AcL (by omega)⟩
    have he2:=hesc (x.toNat+1);rw[MA hc,AcF] at he2;have hc1:1≤(Nr c).length:=by unfold Nr;cases(decide (c=34)||decide (c=92))<;>simp
    have a1:0≤x+1:=by omega
    have a2:x+1≤s.length:=by omega
    have a3:s.length-(x+1).toNat<s.length-x.toNat:=by omega
    have a4:out++Nr c=l++[34]++Em (s.take (x+1).toNat):=by rw[show(x+1).toNat=x.toNat+1 from by omega,MA hc,ha,AcU]
    exact .inl ⟨(x+1,out++Nr c),Rh h0 hx (by omega) (by omega) hc,⟨a1,a2,a4⟩,a3⟩
   ·have e:x.toNat=s.length:=by omega
    rw[e,Ad5] at ha;have hf:out++[34]=l++Ek s:=by rw[ha];simp[Ek]
    have hgo:Dz s x out=some (.out (.go out)):=by unfold Dz;rw[A0 (AcB hx)]
    exact .inr ⟨.go out,hgo,(CC (λν=>EU ν) out).trans ((Wy (by omega)).trans (congrArg some hf))⟩) F (0,l++[34]) ⟨AcX 0,by show(0:Int)≤s.length;omega,by show l++[34]=l++[34]++Em (s.take 0);simp[Em]⟩ (by show s.length-0<F;omega)
 unfold KS;rw[Dk (by omega),HH (by decide) (by decide),Ga];have hb:[UInt8.ofNat (Int.toNat 34)]=([34]:Af):=rfl;rw[hb,AI h1,h2]
theorem NS {F:Nat}{l key:Af}{x:List Aa}{first:Bool}{c:Aa}{k last:Option Af}{tx:Af}(hk:B1 (decide (c.fKind=6)) last k=true)(hkey:∀s,k=some s→key=s∧s.length<F)
  (hlen:(l++(CA first++Gu k++tx)).length≤140737488355328) (hw:∀l':Af,(l'++tx).length≤140737488355328→Gy F l' x=some (l'++tx)):EJ (F+1) key x first l c=some (true,false,l++(CA first++Gu k++tx)):=by
 rw[EJ];unfold Lq;have hb:[UInt8.ofNat (Int.toNat 44)]=([44]:Af):=rfl;have ha:[UInt8.ofNat (Int.toNat 58)]=([58]:Af):=rfl;have hlen':=hlen;simp only[AcF] at hlen'
 cases first with
 | true=>
  rw[A0 (p:=!true) rfl]
  cases hm:decide (c.fKind=6) with
  | true=>
   rw[hm] at hk
   cases k with
   | none=>simp[B1] at hk
   | some s=>
    obtain⟨e1,e2⟩:=hkey s rfl;subst e1;simp only[Gu,AcF,Ade] at hlen';have h1:(l++Ek key).length≤140737488355328:=by rw[AcF];omega
    have e:((l++Ek key)++[58])++tx=l++(CA true++Gu (some key)++tx):=AbW _ _ _ _;rw[← e] at hlen ⊢;rw[AF rfl,Mn e2 h1,AI rfl,Dk (by rw[AcF];omega),HH (by decide) (by decide),Ga,ha,hw _ hlen,AI rfl]
  | false=>
   rw[hm] at hk
   cases k with
   | some s=>simp[B1] at hk
   | none=>
    have e:l++tx=l++(CA true++Gu none++tx):=AbY _ _;rw[← e] at hlen ⊢;rw[A0 rfl,hw _ hlen,AI rfl]
 | false=>
  simp only[CA,AcD,Ade] at hlen';rw[AF (p:=!false) rfl,Dk (by omega),HH (by decide) (by decide),Ga,hb]
  cases hm:decide (c.fKind=6) with
  | true=>
   rw[hm] at hk
   cases k with
   | none=>simp[B1] at hk
   | some s=>
    obtain⟨e1,e2⟩:=hkey s rfl;subst e1;simp only[Gu,AcF,Ade] at hlen';have h1:((l++[44])++Ek key).length≤140737488355328:=by simp only[AcF,Ade];omega
    have e:(((l++[44])++Ek key)++[58])++tx=l++(CA false++Gu (some key)++tx):=AbV _ _ _ _ _;rw[← e] at hlen ⊢;rw[AF rfl,Mn e2 h1,AI rfl,Dk (by simp only[AcF,Ade];omega),HH (by decide) (by decide),Ga,ha,hw _ hlen,AI rfl]
  | false=>
   rw[hm] at hk
   cases k with
   | some s=>simp[B1] at hk
   | none=>
    have e:(l++[44])++tx=l++(CA false++Gu none++tx):=AbX _ _ _;rw[← e] at hlen ⊢;rw[A0 rfl,hw _ hlen,AI rfl]
section
variable {M : Nat}
theorem NY {F:Nat}{v:List Aa}{c:Aa}{at_ x:Int}{first:Bool}{l l2:Af}{k last:Option Af}{f1:Fo}{ys:List Aa}(hA:Hn M v)(hF:M<F)(hpc:Ao v 0=c)(hx:x<c.fN)(hx0:0≤x)(hcN:c.fN≤9223372036854775807)(h0:0≤at_)(hk:B1 (decide (c.fKind=6)) last k=true)
  (hd:v.drop at_.toNat=Bu k++(f1.flat++ys)) (h1:f1.one=true) (hw:f1.wf false none=true) (hr:∀key,(∀s,k=some s→key=s)→EJ F key f1.flat first l c=some (true,false,l2)) :
  DA F v c (EJ F) at_ x first l=some (.next (at_+(Bu k).length+f1.flat.length,x+1,false,l2)):=by
 have hM:=hA.hM;have hvM:=hA.hv;have hd1:=C4 h0 hd;have hkl:=LO hk;have hfl:=LG h1;have hll:(v.drop (at_+(Bu k).length).toNat).length=f1.flat.length+ys.length:=by rw[hd1];simp
 rw[Ad9] at hll;have hlook:Jn F (v.drop (at_+(Bu k).length).toNat)=some ((f1.flat.length:Int),f1.sh 0 Og,true):=RW ((hA.drop _).lk hF) h1 hw hd1;have htake:List.take (Int.toNat (at_+(Bu k).length+(f1.flat.length:Int))-Int.toNat (at_+(Bu k).length)) (v.drop (at_+(Bu k).length).toNat)=f1.flat:=by
  rw[hd1,show Int.toNat (at_+(Bu k).length+(f1.flat.length:Int))-Int.toNat (at_+(Bu k).length)=f1.flat.length from by omega,List.take_left]
 have hmono:0≤at_+(Bu k).length+f1.flat.length:=by omega
 unfold DA;rw[hpc,AF (AcC hx)]
 cases hm:decide (c.fKind=6) with
 | true=>
  rw[hm] at hk hkl
  cases k with
  | none=>simp[B1] at hk
  | some s=>
   have e1:((Bu (some s)).length:Int)=1:=rfl;rw[e1] at hlook htake hll hmono ⊢;have hats:(Ao v at_).fStr=s:=by
    have:v.drop at_.toNat=⟨4,0,s,0⟩::(f1.flat++ys):=by simpa[Bu] using hd
    rw[Dt h0 this]
   have hin:at_<v.length:=by omega
   rw[AF rfl,AP h0 hin,AB (by omega) (by omega),Ca (by omega) (by omega),hlook,AI rfl,AB (by omega) (by omega),Ca (by omega) (by omega),Ca (by omega) (by omega),htake,hats,hr s (λs' h=>by cases h;rfl),AI rfl];rw[A0 (p:=!true) rfl,AB (by omega) (by omega)]
 | false=>
  rw[hm] at hk hkl
  cases k with
  | some s=>simp[B1] at hk
  | none=>
   have e1:((Bu none).length:Int)=0:=rfl;rw[e1,Int.add_zero] at hlook htake hll hmono ⊢;rw[A0 rfl,Ca (by omega) (by omega),hlook,AI rfl,AB (by omega) (by omega),Ca (by omega) (by omega),Ca (by omega) (by omega),htake,hr [] (λs' h=>by cases h),AI rfl];rw[A0 (p:=!true) rfl,AB (by omega) (by omega)]
end
end Go.Proofs.YtjfnokmpfekniaaGreatDoor
